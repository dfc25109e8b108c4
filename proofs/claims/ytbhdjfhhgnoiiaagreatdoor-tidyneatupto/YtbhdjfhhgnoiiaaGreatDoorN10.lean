/- Part 10 of a proof: an abstract memory for the translated code, and what the functions that the law reaches do over it. -/
import Derived.Test.YtbhdjfhhgnoiiaaGreatDoorN9
set_option linter.unusedSimpArgs false
set_option linter.unusedVariables false
namespace Go.Tidy
open Go Go.Eng Go.Proofs
variable {cx:Cx}
theorem Chn.stop {b:List Stp}:∀ {m t n:Nat},Chn b m t n → ∃ s,b[n]? = some s ∧ isJ s.ins = false
 | 0,_,_,⟨rfl,h⟩=>h
 | _ + 1,_,_,⟨_,_,_,h⟩=>h.stop
theorem LayOk.idle {b:List Stp} {is:List Ins} (l:LayOk b is) {k:Nat} {s:Stp} {i:Ins} (hs:b[k]? = some s) (hi:is[k]? = some i) (hn:idleB b k = false):¬ (i.op = 191 ∧ i.off = 0 ∧ i.dst = i.src) ∧ (isJ s.ins = true → s.to ≠ k + 1):=by
 obtain ⟨i',h1,eop,_,_,_,_,_,e8⟩:=l.get k s hs
 rw [hi] at h1
 cases h1
 unfold idleB at hn
 rw [hs] at hn
 simp only [Bool.or_eq_false_iff] at hn
 refine ⟨?_,fun hj q=>?_⟩
 ·rintro ⟨q1,q2,q3⟩
  have hl:leads s.ins = false:=by
   cases hl:leads s.ins with
   | false=>rfl
   | true=>
     have:=(leads_form hl).2
     rw [← eop,q1,form191] at this
     omega
  rw [e8 hl] at q1 q2 q3
  simp [q1,q2,q3] at hn
 ·simp [hj,q] at hn
set_option maxRecDepth 100000 in
set_option maxHeartbeats 8000000 in
theorem c33 (hO:On cx) (hG:cx.G = arrs) {h:AH} {v:AV} {is:List Ins} {b:List Stp} (l:LayOk b is) (hn:NeatS b) (hv:SlIns h v is) (hl:is.length < 1099511627776) (hm:∀ i ∈ is,may i = 0)
 (hfar:∀ i ∈ is,-9000000000000000000 ≤ i.far ∧ i.far ≤ 9000000000000000000) :
 SimCall cx 33 [v] h fun r h'=>h' = h ∧ r = VB true:=by
 have hvl:=hv.len
 have hne:0 < is.length:=by rw [l.len];exact l.fits.ne
 refine SimCall.gc ?_
 refine SimCall.by hO.P res33 ?_
 unfold x33 r33
 repeat' first
  | simp (maxSteps:=1000000) only [go_sem]
 refine (c30 hO hv hl hne).mono ?_
 rintro pv h' ⟨g30,rfl,hpv⟩
 repeat' first
  | simp (maxSteps:=1000000) only [go_sem]
 refine (c77 hO hG (hv.more g30) hl hne hm hfar).mono ?_
 rintro rv h' ⟨g77,R,rfl,hRl,hR,hrch⟩
 have hall:∀ k,k < is.length → R[k]? = some true:=by
  intro k hk
  have h1:=hn.all _ (l.reach hrch) k (by rw [← l.len];exact hk)
  rw [List.getD_eq_getElem?_getD] at h1
  cases hr:R[k]? with
  | none=>rw [hr] at h1;simp at h1
  | some t=>rw [hr] at h1;simp at h1;rw [h1]
 have hpv2:=hpv.more g77
 rw [List.append_assoc] at hpv2 hR
 repeat' first
  | simp (maxSteps:=1000000) only [go_sem]
 generalize hGG:g30 ++ g77 = GG at *
 refine SimLoop.inv [0,2,0,0] (fun m s=>∃ (i:Nat) (G:AH),m = is.length - i ∧ i ≤ is.length ∧
  s = ⟨[v,.un,.un,pv,rv,VI i,.un,.un,.un,.un,.un,.un,.un,.un,.un,.un,.un,.un,.un,.un,.un,.un,.un,.un,.un,.un,.un,.un,.un,.un,.un,.un,.un,.un,.un,.un,.un,.un,.un,.un,.un,.un,.un,.un,.un,.un,.un,.un,.un,.un,.un,.un,.un,.un,.un,.un,.un,.un,.un,.un,.un,.un,.un,.un,.un,.un,.un,.un,.un,.un,.un,.un,.un,.un,.un,.un,.un,.un,.un,.un,.un,.un,.un,.un,.un,.un,.un,.un,.un,.un,.un,.un,.un,.un,.un,.un,.un,.un,.un,.un,.un,.un,.un,.un,.un,.un,.un,.un,.un,.un,.un],h ++ (GG ++ G)⟩) ?_ is.length ?_
 rotate_left
 ·refine ⟨0,[],rfl,Nat.zero_le _,?_⟩
  rw [← hGG]
  simp only [go_sem,List.append_nil]
  rfl
 clear hGG
 rintro m s ⟨i,G,rfl,hi,rfl⟩
 by_cases hlt:i < is.length
 case neg=>
  have hlt':¬ ((i:Int) < is.length):=by omega
  repeat' first
   | simp (maxSteps:=1000000) only [go_sem,hlt',hvl]
  exact ⟨⟨_,rfl⟩,plain_v _⟩
 have hlt':((i:Int) < is.length):=by omega
 have hw:=wrap_succ hlt (by omega)
 have hfin:∀ (G:AH),∃ k',k' < is.length - i ∧ ∃ (i_1:Nat) (G_1:AH),k' = is.length - i_1 ∧ i_1 ≤ is.length ∧
  (⟨[v,.un,.un,pv,rv,VI ((i + 1:Nat):Int),.un,.un,.un,.un,.un,.un,.un,.un,.un,.un,.un,.un,.un,.un,.un,.un,.un,.un,.un,.un,.un,.un,.un,.un,.un,.un,.un,.un,.un,.un,.un,.un,.un,.un,.un,.un,.un,.un,.un,.un,.un,.un,.un,.un,.un,.un,.un,.un,.un,.un,.un,.un,.un,.un,.un,.un,.un,.un,.un,.un,.un,.un,.un,.un,.un,.un,.un,.un,.un,.un,.un,.un,.un,.un,.un,.un,.un,.un,.un,.un,.un,.un,.un,.un,.un,.un,.un,.un,.un,.un,.un,.un,.un,.un,.un,.un,.un,.un,.un,.un,.un,.un,.un,.un,.un],h ++ (GG ++ G)⟩:XSt) = ⟨[v,.un,.un,pv,rv,VI i_1,.un,.un,.un,.un,.un,.un,.un,.un,.un,.un,.un,.un,.un,.un,.un,.un,.un,.un,.un,.un,.un,.un,.un,.un,.un,.un,.un,.un,.un,.un,.un,.un,.un,.un,.un,.un,.un,.un,.un,.un,.un,.un,.un,.un,.un,.un,.un,.un,.un,.un,.un,.un,.un,.un,.un,.un,.un,.un,.un,.un,.un,.un,.un,.un,.un,.un,.un,.un,.un,.un,.un,.un,.un,.un,.un,.un,.un,.un,.un,.un,.un,.un,.un,.un,.un,.un,.un,.un,.un,.un,.un,.un,.un,.un,.un,.un,.un,.un,.un,.un,.un,.un,.un,.un,.un],h ++ (GG ++ G_1)⟩:=
  fun G=>⟨is.length - (i + 1),by omega,i + 1,G,rfl,by omega,rfl⟩
 have hii:=List.getElem?_eq_getElem hlt
 have hib:i < b.length:=by rw [← l.len];exact hlt
 have hbi:=List.getElem?_eq_getElem hib
 obtain ⟨p,hp1,hp2,hp3,_⟩:=hv.get Ins.len (by decide) hii
 have hfi:=hfar _ (List.getElem_mem hlt)
 obtain ⟨i',h1,eop,_⟩:=l.get i _ hbi
 have hei:is[i] = i':=by rw [hii] at h1;cases h1;rfl
 rw [hei] at hii hp2 hp3 hfi
 generalize b[i] = s at hbi eop
 have hjj:=isJ_op eop
 have h31:=fun H=>c31 (cx:=cx) hO.P i' H
 obtain ⟨hid,hnext⟩:=l.idle hbi hii (hn.idle i hib)
 obtain ⟨py,hy1,hy2⟩:=hR.getB (hall i hlt)
 have hy3:=hy2 G
 rw [List.append_assoc] at hy3
 have hy4:∀ g,xLd1 (h ++ (GG ++ (G ++ g))) py = some (VB true):=fun g=>by have:=hy2 (G ++ g);rwa [List.append_assoc] at this
 have hcases:i'.op ≠ 191 ∨ (i'.op = 191 ∧ i'.off ≠ 0) ∨ (i'.op = 191 ∧ i'.off = 0 ∧ i'.dst ≠ i'.src):=by
  by_cases q1:i'.op = 191
  ·by_cases q2:i'.off = 0
   ·exact .inr (.inr ⟨q1,q2,fun q3=>hid ⟨q1,q2,q3⟩⟩)
   ·exact .inr (.inl ⟨q1,q2⟩)
  ·exact .inl q1
 cases hj:isJ s.ins with
 | false=>
   rw [hjj,hj] at h31
   rcases hcases with q1 | ⟨q1,q2⟩ | ⟨q1,q2,q3⟩
   ·have d1:decide (i'.op = 191) = false:=decide_eq_false q1
    repeat' first
     | ((with_reducible show SemL _ _ _ _);refine SemL.of ?_)
     | ((with_reducible show SimCall _ 31 _ _ _);refine (h31 _).mono ?_;rintro r h' ⟨rfl,rfl⟩)
     | simp (maxSteps:=1000000) only [go_sem,hlt',hvl,hp1,hp2,hp3,hy1,hy3,hy4,d1,hw,Ins.row]
    exact hfin _
   ·have d1:decide (i'.op = 191) = true:=decide_eq_true q1
    have d2:decide (i'.off = 0) = false:=decide_eq_false q2
    repeat' first
     | ((with_reducible show SemL _ _ _ _);refine SemL.of ?_)
     | ((with_reducible show SimCall _ 31 _ _ _);refine (h31 _).mono ?_;rintro r h' ⟨rfl,rfl⟩)
     | simp (maxSteps:=1000000) only [go_sem,hlt',hvl,hp1,hp2,hp3,hy1,hy3,hy4,d1,d2,hw,Ins.row]
    exact hfin _
   ·have d1:decide (i'.op = 191) = true:=decide_eq_true q1
    have d2:decide (i'.off = 0) = true:=decide_eq_true q2
    have d3:decide (i'.dst = i'.src) = false:=decide_eq_false q3
    repeat' first
     | ((with_reducible show SemL _ _ _ _);refine SemL.of ?_)
     | ((with_reducible show SimCall _ 31 _ _ _);refine (h31 _).mono ?_;rintro r h' ⟨rfl,rfl⟩)
     | simp (maxSteps:=1000000) only [go_sem,hlt',hvl,hp1,hp2,hp3,hy1,hy3,hy4,d1,d2,d3,hw,Ins.row]
    exact hfin _
 | true=>
   have hj':isJ i' = true:=by rw [hjj,hj]
   obtain ⟨hld,ht0,htl⟩:=l.jump hbi hj
   have q1:i'.op ≠ 191:=by unfold isJ at hj';simp at hj';omega
   have d1:decide (i'.op = 191) = false:=decide_eq_false q1
   rw [hj'] at h31
   repeat' first
    | ((with_reducible show SemL _ _ _ _);refine SemL.of ?_)
    | ((with_reducible show SimCall _ 31 _ _ _);refine (h31 _).mono ?_;rintro r h' ⟨rfl,rfl⟩)
    | simp (maxSteps:=1000000) only [go_sem,hlt',hvl,hp1,hp2,hp3,hy1,hy3,hy4,d1,hw,Ins.row]
   have hpvH:SlT fI 1 (h ++ (GG ++ (G ++ [AO.cells 0 [VI i'.op,VI i'.dst,VI i'.src,VI i'.off,VI i'.imm]]))) pv (placesN (wsI is) is.length):=by
    rw [← List.append_assoc];exact hpv2.more _
   refine (c32 hO.P (hv.more _) hpvH hl hii hfi).mono ?_
   rintro r h' ⟨rfl,rfl⟩
   have hxs:=l.tgt hbi hii hld (tgtV_tgt is (psum (wsI is) i + 1 + i'.far))
   obtain ⟨t,ht⟩:=Int.eq_ofNat_of_zero_le ht0
   rw [hxs,ht]
   have hti:t ≠ i + 1:=fun q=>hnext hj (by rw [ht,q];rfl)
   have hnn:¬ (t:Int) < 0:=by omega
   have hte:decide ((t:Int) = ((i + 1:Nat):Int)) = false:=decide_eq_false (by omega)
   repeat' first
    | ((with_reducible show SemL _ _ _ _);refine SemL.of ?_)
    | simp (maxSteps:=1000000) only [go_sem,hnn,hte,hw]
   have h78:=c78 hO.P l (hv.more (GG ++ (G ++ [AO.cells 0 [VI i'.op,VI i'.dst,VI i'.src,VI i'.off,VI i'.imm]]))) hpvH hl hfar hlt
   refine h78.mono ?_
   rintro r h' ⟨rfl,e,ok,rfl,hok⟩
   have htb:t < b.length:=by omega
   have hit:t < is.length:=by rw [l.len];exact htb
   obtain ⟨i2,hi2,e2,_⟩:=l.get t _ (List.getElem?_eq_getElem htb)
   have hbt:=List.getElem?_eq_getElem htb
   obtain ⟨p2,ha1,ha2,ha3,_⟩:=hv.get Ins.len (by decide) hi2
   generalize b[t] = s2 at hbt e2
   have hj2:=isJ_op e2
   have g31:=fun H=>c31 (cx:=cx) hO.P i2 H
   cases hjt:isJ s2.ins with
   | false=>
     rw [hj2,hjt] at g31
     repeat' first
      | ((with_reducible show SemL _ _ _ _);refine SemL.of ?_)
      | ((with_reducible show SimCall _ 31 _ _ _);refine (g31 _).mono ?_;rintro r h' ⟨rfl,rfl⟩)
      | simp (maxSteps:=1000000) only [go_sem,ha1,ha2,ha3,hw,Ins.row]
     exact hfin _
   | true=>
     rw [hj2,hjt] at g31
     cases ok with
     | false=>
       repeat' first
        | ((with_reducible show SemL _ _ _ _);refine SemL.of ?_)
        | ((with_reducible show SimCall _ 31 _ _ _);refine (g31 _).mono ?_;rintro r h' ⟨rfl,rfl⟩)
        | simp (maxSteps:=1000000) only [go_sem,ha1,ha2,ha3,hw,Ins.row]
       exact hfin _
     | true=>
       obtain ⟨n,m,rfl,hnl,hch⟩:=hok rfl
       obtain ⟨m',rfl,hch'⟩:=hch.jump hbi hj
       obtain ⟨sn,hsn,hnj⟩:=hch'.stop
       have hne2:(n:Int) ≠ s.to:=by
        intro q
        have:n = t:=by omega
        subst this
        rw [hbt] at hsn
        cases hsn
        rw [hjt] at hnj
        cases hnj
       have hthr:=hn.thr i hib s hbi hj m' n hch' hne2
       have hop6:s.ins.op ≠ 6:=fun q=>hthr (.inl q)
       have hop5:i'.op = 5:=by rw [eop];unfold isJ at hj;simp at hj;omega
       have hrg:¬ (-32768 ≤ dist (wsB b) i n ∧ dist (wsB b) i n < 32768):=fun q=>hthr (.inr q)
       rw [← l.ws] at hrg
       obtain ⟨pn,hn1,hn2⟩:=hpvH.toI.2 n _ (places_get (show n ≤ is.length by omega))
       obtain ⟨pi,hi1,hi3⟩:=hpvH.toI.2 i _ (places_get (show i ≤ is.length by omega))
       have hbn:=psum_bound is n
       have hbi2:=psum_bound is i
       have hw1:IntKind.i64.wrap (((psum (wsI is) n:Nat):Int) - ((psum (wsI is) i:Nat):Int)) = ((psum (wsI is) n:Nat):Int) - ((psum (wsI is) i:Nat):Int):=wrap_id (by omega) (by omega)
       have hw2:IntKind.i64.wrap (((psum (wsI is) n:Nat):Int) - ((psum (wsI is) i:Nat):Int) - 1) = dist (wsI is) i n:=by rw [wrap_id (by omega) (by omega)];rfl
       generalize dist (wsI is) i n = D at hrg hw2
       have d6:decide (i'.op = 6) = false:=decide_eq_false (by omega)
       have d5:decide (i'.op = 5) = true:=decide_eq_true hop5
       by_cases hD:-32768 ≤ D
       ·have hD2:¬ D < 32768:=fun q=>hrg ⟨hD,q⟩
        repeat' first
         | ((with_reducible show SemL _ _ _ _);refine SemL.of ?_)
         | ((with_reducible show SimCall _ 31 _ _ _);refine (g31 _).mono ?_;rintro r h' ⟨rfl,rfl⟩)
         | simp (maxSteps:=1000000) only [go_sem,ha1,ha2,ha3,hw,hn1,hn2,hi1,hi3,hw1,hw2,d6,d5,hD,hD2,Ins.row]
        exact hfin _
       ·skip
        repeat' first
         | ((with_reducible show SemL _ _ _ _);refine SemL.of ?_)
         | ((with_reducible show SimCall _ 31 _ _ _);refine (g31 _).mono ?_;rintro r h' ⟨rfl,rfl⟩)
         | simp (maxSteps:=1000000) only [go_sem,ha1,ha2,ha3,hw,hn1,hn2,hi1,hi3,hw1,hw2,d6,d5,hD,Ins.row]
        exact hfin _
end Go.Tidy
namespace Go.Tidy
open Go Go.Eng Go.Proofs
variable {cx:Cx}
def Fst (im:Img) (i:Nat) (fi wh:Int):Prop:=
 (fi = -1 ∧ wh = 0 ∧ ∀ (j:Nat) f,j < i → im.funcs[j]? = some f → brkF im f = 0) ∨
  ∃ (y:Nat) (f:Fn),fi = y ∧ y < i ∧ im.funcs[y]? = some f ∧ brkF im f ≠ 0 ∧ wh = brkF im f ∧ ∀ (z:Nat) g,z < i → im.funcs[z]? = some g → brkF im g ≠ 0 → aheadB g f = false
theorem Fst.good {im:Img} {i:Nat} {fi wh:Int} {f:Fn} (h:Fst im i fi wh) (hf:im.funcs[i]? = some f) (hb:brkF im f = 0):Fst im (i + 1) fi wh:=by
 rcases h with ⟨h1,h2,h3⟩ | ⟨y,g,h1,h2,h3,h4,h5,h6⟩
 ·refine .inl ⟨h1,h2,fun j g hj hg=>?_⟩
  by_cases hji:j = i
  ·subst hji;rw [hf] at hg;cases hg;exact hb
  ·exact h3 j g (by omega) hg
 ·refine .inr ⟨y,g,h1,by omega,h3,h4,h5,fun z k hz hk hbk=>?_⟩
  by_cases hzi:z = i
  ·subst hzi;rw [hf] at hk;cases hk;exact absurd hb hbk
  ·exact h6 z k (by omega) hk hbk
theorem Fst.skip {im:Img} {i y:Nat} {wh:Int} {f g:Fn} (h:Fst im i y wh) (hf:im.funcs[i]? = some f) (hg:im.funcs[y]? = some g) (hb:aheadB f g = false):Fst im (i + 1) y wh:=by
 rcases h with ⟨h1,h2,h3⟩ | ⟨y',g',h1,h2,h3,h4,h5,h6⟩
 ·omega
 ·have:y = y':=by omega
  subst this
  rw [hg] at h3
  cases h3
  refine .inr ⟨y,g,rfl,by omega,hg,h4,h5,fun z k hz hk hbk=>?_⟩
  by_cases hzi:z = i
  ·subst hzi;rw [hf] at hk;cases hk;exact hb
  ·exact h6 z k (by omega) hk hbk
theorem Fst.turn {im:Img} {i:Nat} {fi wh:Int} {f:Fn} (h:Fst im i fi wh) (hf:im.funcs[i]? = some f) (hb:brkF im f ≠ 0) (ha:∀ (y:Nat) g,fi = y → im.funcs[y]? = some g → aheadB f g = true):Fst im (i + 1) i (brkF im f):=by
 refine .inr ⟨i,f,rfl,by omega,hf,hb,rfl,fun z k hz hk hbk=>?_⟩
 by_cases hzi:z = i
 ·subst hzi;rw [hf] at hk;cases hk;exact aheadB_irr f
 rcases h with ⟨h1,h2,h3⟩ | ⟨y,g,h1,h2,h3,h4,h5,h6⟩
 ·exact absurd (h3 z k (by omega) hk) hbk
 ·have h7:=h6 z k (by omega) hk hbk
  cases h8:aheadB k f with
  | false=>rfl
  | true=>rw [aheadB_trans h8 (ha y g h1 h3)] at h7;cases h7
theorem callsOf_in {im:Img} (hbods:∀ f ∈ im.funcs,BodyOk im.funcs.length im.tables.length (body im.text f)):∀ xs ∈ (im.funcs.map fun f=>callsOf (body im.text f)),∀ c ∈ xs,0 ≤ c ∧ c < (im.funcs.map fun f=>callsOf (body im.text f)).length:=by
 intro xs hxs c hc
 obtain ⟨f,hf,rfl⟩:=List.mem_map.1 hxs
 unfold callsOf at hc
 obtain ⟨x,hx,rfl⟩:=List.mem_map.1 hc
 obtain ⟨hx,h3⟩:=List.mem_filter.1 hx
 rw [List.length_map]
 exact ((hbods f hf).rule x hx).call (of_decide_eq_true h3)
set_option maxRecDepth 100000 in
set_option maxHeartbeats 8000000 in
theorem c21 (hO:On cx) (hG:cx.G = arrs) {h:AH} {im:Img} {tv fv bv:AV} (hr:ImgR h tv fv bv im) :
 SimCall cx 21 [.agg [tv,fv,bv,VI im.entry]] h fun r h'=>h' = h ∧ ∃ a b e:Int,r = .tup [VI a,VI b,VI e] ∧ ErrV im e:=by
 have c1:=hr.text.cell
 have c2:=hr.funcs.cell
 have c3:=hr.tables.cell
 have hnf:=hr.nf
 have hfl:=hr.funcs.len
 refine SimCall.gc ?_
 refine SimCall.by hO.P res21 ?_
 unfold x21 r21
 repeat' first
  | simp (maxSteps:=1000000) only [go_sem,c1,c2,c3]
 refine (c63 hO im tv fv bv _ (hr.more _)).mono ?_
 rintro r h' ⟨rfl,x0,e0,rfl,he0⟩
 repeat' first
  | ((with_reducible show wx _ (XCode.cond _ _ _) _ _);refine wx_if rfl (fun _=>?_) (fun _=>?_))
  | simp (maxSteps:=1000000) only [go_sem,c1,c2,c3]
 ·rename_i e
  refine ⟨more_one,plain_tup (by simp [Plain.v]),_,_,_,rfl,?_⟩
  simp at e
  refine .inl ⟨?_,rfl⟩
  cases hib:imgB im with
  | false=>rfl
  | true=>exact absurd (he0.2 hib) e
 rename_i e
 have hib:imgB im = true:=he0.1 (by simpa using e)
 have hok:ImgOk (tabsB 0) im:=imgB_ok.1 hib
 have hfs:=funcsB_mem _ _ 0 (by omega) hok.funcs
 have hNN:0 < im.funcs.length:=by have:=hok.entry;omega
 have hbody:∀ (y:Nat) f,im.funcs[y]? = some f → 0 < (body im.text f).length:=by
  intro y f hf
  obtain ⟨q1,q2,q3⟩:=hfs f (List.mem_of_getElem? hf)
  have:=body_len q1 q2 q3
  omega
 refine SimLoop.inv [1,5,0,0,0] (fun k s=>∃ (i:Nat) (fi ai wh:Int) (g:AH),k = im.funcs.length - i ∧ i ≤ im.funcs.length ∧ Fst im i fi wh ∧
  s = ⟨[.un,.ptr h.length 0 0,.un,.un,.un,.un,.un,VI fi,VI ai,VI wh,VI i,.un,.un,.un,.un,.un,.un,.un,.un,.un,.un,.un,.un,.un,.un,.un,.un,.un,.un,.un,.un,.un,.un,.un,.un,.un,.un,.un,.un,.un,.un,.un,.un,.un,.un,.un,.un,.un,.un,.un,.un,.un,.un,.un,.un,.un,.un,.un,.un,.un,.un,.un,.un,.un,.un,.un,.un,.un,.un,.un,.un,.un,.un,.un,.un,.un,.un,.un,.un,.un,.un,.un,.un,.un,.un,.un,.un,.un,.un,.un,.un,.un,.un,.un,.un,.un,.un,.un,.un,.un,.un,.un,.un,.un,.un,.un,.un],h ++ (.cells 0 [tv,fv,bv,VI im.entry] :: g)⟩) ?_ im.funcs.length ?_
 rotate_left
 ·exact ⟨0,_,_,_,[],rfl,Nat.zero_le _,.inl ⟨rfl,rfl,fun j f hj=>absurd hj (by omega)⟩,by simp only [go_sem];rfl⟩
 rintro k s ⟨i,fi,ai,wh,g,rfl,hi,hfst,rfl⟩
 by_cases hlt:i < im.funcs.length
 case neg=>
  have hlt':¬ ((i:Int) < im.funcs.length):=by omega
  have hin:i = im.funcs.length:=by omega
  subst hin
  clear hi hlt
  rcases hfst with ⟨rfl,_,hgood⟩ | ⟨y,f,rfl,hyl,hy,hb,rfl,hm⟩
  case inr=>
   have hyp:(0:Int) ≤ y:=by omega
   repeat' first
    | simp (maxSteps:=1000000) only [go_sem,hlt',hfl,c1,c2,c3,hyp]
   refine ⟨more_one,plain_tup (by simp [Plain.v]),_,_,_,rfl,?_⟩
   exact .inr ⟨hib,.inl ⟨y,f,hy,hb,fun z g hz hbz=>hm z g (List.getElem?_eq_some_iff.1 hz).1 hz hbz,rfl⟩⟩
  have hg0:∀ f ∈ im.funcs,brkF im f = 0:=by
   intro f hf
   obtain ⟨z,hz⟩:=List.mem_iff_getElem?.1 hf
   exact hgood z f (List.getElem?_eq_some_iff.1 hz).1 hz
  have hbods:∀ f ∈ im.funcs,BodyOk im.funcs.length im.tables.length (body im.text f):=by
   intro f hf
   obtain ⟨z,hz⟩:=List.mem_iff_getElem?.1 hf
   exact (brkF_zero (hbody z f hz)).1 (hg0 f hf)
  have hrk:=nw_rank (callsOf_in hbods)
  have h68:=c68 hO.P (hr.more (.cells 0 [tv,fv,bv,VI im.entry] :: g)) hfs hNN hbods
  rw [List.length_map] at hrk
  generalize hls:(im.funcs.map fun f=>callsOf (body im.text f)) = ls at hrk h68
  repeat' first
   | simp (maxSteps:=1000000) only [go_sem,hlt',hfl,c1,c2,c3]
  refine h68.mono ?_
  rintro r h' ⟨g8,rfl,hs8⟩
  simp only [List.append_assoc,List.cons_append,List.nil_append] at hs8
  repeat' first
   | simp (maxSteps:=1000000) only [go_sem]
  refine SimLoop.inv [1,5,7,0] (fun k s=>∃ (i:Nat) (fi:Int),k = im.funcs.length - i ∧ i ≤ im.funcs.length ∧ ((fi = -1 ∧ ∀ j,j < i → nw ls 8 j = false) ∨ ∃ y:Nat,fi = y ∧ y < im.funcs.length ∧ nw ls 8 y = true) ∧
   s = ⟨[.un,.ptr h.length 0 0,.un,.un,.un,.un,.un,VI fi,.un,.un,.un,.un,.un,.un,.un,r,VI i,.un,.un,.un,.un,.un,.un,.un,.un,.un,.un,.un,.un,.un,.un,.un,.un,.un,.un,.un,.un,.un,.un,.un,.un,.un,.un,.un,.un,.un,.un,.un,.un,.un,.un,.un,.un,.un,.un,.un,.un,.un,.un,.un,.un,.un,.un,.un,.un,.un,.un,.un,.un,.un,.un,.un,.un,.un,.un,.un,.un,.un,.un,.un,.un,.un,.un,.un,.un,.un,.un,.un,.un,.un,.un,.un,.un,.un,.un,.un,.un,.un,.un,.un,.un,.un,.un,.un,.un,.un,.un],h ++ (.cells 0 [tv,fv,bv,VI im.entry] :: (g ++ g8))⟩) ?_ im.funcs.length ?_
  rotate_left
  ·exact ⟨0,-1,rfl,Nat.zero_le _,.inl ⟨rfl,fun j hj=>absurd hj (by omega)⟩,by simp only [go_sem];rfl⟩
  rintro k s ⟨i,fi,rfl,hi,hfi,rfl⟩
  by_cases hlt:i < im.funcs.length
  case neg=>
   have hlt':¬ ((i:Int) < im.funcs.length):=by omega
   rcases hfi with ⟨rfl,hno⟩ | ⟨y,rfl,hyl,hyn⟩
   ·skip
    repeat' first
     | simp (maxSteps:=1000000) only [go_sem,hlt',hfl,c1,c2,c3]
    refine ⟨more_one,plain_tup (by simp [Plain.v]),_,_,_,rfl,?_⟩
    exact .inr ⟨hib,.inr ⟨hg0,.inl ⟨hls ▸ hrk.1 fun f hf=>hno f (by omega),rfl⟩⟩⟩
   ·have hyp:(0:Int) ≤ y:=by omega
    repeat' first
     | simp (maxSteps:=1000000) only [go_sem,hlt',hfl,c1,c2,c3,hyp]
    refine ⟨more_one,plain_tup (by simp [Plain.v]),_,_,_,rfl,?_⟩
    refine .inr ⟨hib,.inr ⟨hg0,.inr ⟨fun q=>?_,rfl⟩⟩⟩
    rw [hls] at q
    have:=hrk.2 q y hyl
    rw [hyn] at this
    cases this
  have hlt':((i:Int) < im.funcs.length):=by omega
  have hw:=wrap_succ hlt (by omega)
  obtain ⟨p,hp1,hp2⟩:=hs8.getB (nwL_get (ls:=ls) (k:=8) hlt)
  have hp3:=hp2 []
  rw [List.append_nil] at hp3
  have hfin:∀ fi':Int,((fi' = -1 ∧ ∀ j,j < i + 1 → nw ls 8 j = false) ∨ ∃ y:Nat,fi' = y ∧ y < im.funcs.length ∧ nw ls 8 y = true) → ∃ k',k' < im.funcs.length - i ∧ ∃ (i_1:Nat) (fi_1:Int),k' = im.funcs.length - i_1 ∧ i_1 ≤ im.funcs.length ∧ ((fi_1 = -1 ∧ ∀ j,j < i_1 → nw ls 8 j = false) ∨ ∃ y:Nat,fi_1 = y ∧ y < im.funcs.length ∧ nw ls 8 y = true) ∧
   (⟨[.un,.ptr h.length 0 0,.un,.un,.un,.un,.un,VI fi',.un,.un,.un,.un,.un,.un,.un,r,VI ((i + 1:Nat):Int),.un,.un,.un,.un,.un,.un,.un,.un,.un,.un,.un,.un,.un,.un,.un,.un,.un,.un,.un,.un,.un,.un,.un,.un,.un,.un,.un,.un,.un,.un,.un,.un,.un,.un,.un,.un,.un,.un,.un,.un,.un,.un,.un,.un,.un,.un,.un,.un,.un,.un,.un,.un,.un,.un,.un,.un,.un,.un,.un,.un,.un,.un,.un,.un,.un,.un,.un,.un,.un,.un,.un,.un,.un,.un,.un,.un,.un,.un,.un,.un,.un,.un,.un,.un,.un,.un,.un,.un,.un,.un],h ++ (.cells 0 [tv,fv,bv,VI im.entry] :: (g ++ g8))⟩:XSt) = ⟨[.un,.ptr h.length 0 0,.un,.un,.un,.un,.un,VI fi_1,.un,.un,.un,.un,.un,.un,.un,r,VI i_1,.un,.un,.un,.un,.un,.un,.un,.un,.un,.un,.un,.un,.un,.un,.un,.un,.un,.un,.un,.un,.un,.un,.un,.un,.un,.un,.un,.un,.un,.un,.un,.un,.un,.un,.un,.un,.un,.un,.un,.un,.un,.un,.un,.un,.un,.un,.un,.un,.un,.un,.un,.un,.un,.un,.un,.un,.un,.un,.un,.un,.un,.un,.un,.un,.un,.un,.un,.un,.un,.un,.un,.un,.un,.un,.un,.un,.un,.un,.un,.un,.un,.un,.un,.un,.un,.un,.un,.un,.un,.un],h ++ (.cells 0 [tv,fv,bv,VI im.entry] :: (g ++ g8))⟩:=
   fun fi' q=>⟨im.funcs.length - (i + 1),by omega,i + 1,fi',rfl,by omega,q,rfl⟩
  cases hT:nw ls 8 i with
  | false=>
    rw [hT] at hp3
    repeat' first
     | ((with_reducible show SemD _ _ _ _ _);refine SemD.of ?_)
     | simp (maxSteps:=1000000) only [go_sem,hlt',hfl,c1,c2,c3,hw,hp1,hp3]
    refine hfin _ ?_
    rcases hfi with ⟨h1,h2⟩ | h2
    ·refine .inl ⟨h1,fun j hj=>?_⟩
     by_cases hji:j = i
     ·rw [hji];exact hT
     ·exact h2 j (by omega)
    ·exact .inr h2
  | true=>
    rw [hT] at hp3
    rcases hfi with ⟨rfl,_⟩ | ⟨y,rfl,hyl,hyn⟩
    ·skip
     repeat' first
      | ((with_reducible show SemD _ _ _ _ _);refine SemD.of ?_)
      | simp (maxSteps:=1000000) only [go_sem,hlt',hfl,c1,c2,c3,hw,hp1,hp3]
     exact hfin _ (.inr ⟨i,rfl,hlt,hT⟩)
    ·have hyp:¬ (y:Int) < 0:=by omega
     obtain ⟨q,hq1,hq2,hq3,_⟩:=hr.funcs.get Fn.len (by decide) (List.getElem?_eq_getElem hlt)
     obtain ⟨q',hr1,hr2,hr3,_⟩:=hr.funcs.get Fn.len (by decide) (List.getElem?_eq_getElem hyl)
     have h64:=fun H=>c64 (cx:=cx) hO.P im.funcs[i] im.funcs[y] H
     generalize im.funcs[i] = f1 at hq1 hq2 hq3 h64
     generalize im.funcs[y] = f2 at hr1 hr2 hr3 h64
     repeat' first
      | ((with_reducible show wx _ (XCode.cond _ _ _) _ _);refine wx_if rfl (fun _=>?_) (fun _=>?_))
      | ((with_reducible show SemD _ _ _ _ _);refine SemD.of ?_)
      | ((with_reducible show dK _ 64 _ _ _);refine dK_of _ (h64 _) ?_)
      | simp (maxSteps:=1000000) only [go_sem,hlt',hfl,c1,c2,c3,hw,hp1,hp3,hyp,hq1,hq2,hq3,hr1,hr2,hr3,Fn.row]
     ·exact hfin _ (.inr ⟨i,rfl,hlt,hT⟩)
     ·exact hfin _ (.inr ⟨y,rfl,hyl,hyn⟩)
 have hlt':((i:Int) < im.funcs.length):=by omega
 have hw:=wrap_succ hlt (by omega)
 have hfi:=List.getElem?_eq_getElem hlt
 obtain ⟨q,hq1,hq2,hq3,_⟩:=hr.funcs.get Fn.len (by decide) hfi
 obtain ⟨e1,e2,e3⟩:=hfs _ (List.getElem_mem hlt)
 generalize im.funcs[i] = f at hfi hq1 hq2 hq3 e1 e2 e3
 have hfin:∀ (fi' ai' wh':Int) (g':AH),Fst im (i + 1) fi' wh' → ∃ k',k' < im.funcs.length - i ∧ ∃ (i_1:Nat) (fi_1 ai_1 wh_1:Int) (g_1:AH),k' = im.funcs.length - i_1 ∧ i_1 ≤ im.funcs.length ∧ Fst im i_1 fi_1 wh_1 ∧
  (⟨[.un,.ptr h.length 0 0,.un,.un,.un,.un,.un,VI fi',VI ai',VI wh',VI ((i + 1:Nat):Int),.un,.un,.un,.un,.un,.un,.un,.un,.un,.un,.un,.un,.un,.un,.un,.un,.un,.un,.un,.un,.un,.un,.un,.un,.un,.un,.un,.un,.un,.un,.un,.un,.un,.un,.un,.un,.un,.un,.un,.un,.un,.un,.un,.un,.un,.un,.un,.un,.un,.un,.un,.un,.un,.un,.un,.un,.un,.un,.un,.un,.un,.un,.un,.un,.un,.un,.un,.un,.un,.un,.un,.un,.un,.un,.un,.un,.un,.un,.un,.un,.un,.un,.un,.un,.un,.un,.un,.un,.un,.un,.un,.un,.un,.un,.un,.un],h ++ (.cells 0 [tv,fv,bv,VI im.entry] :: g')⟩:XSt) = ⟨[.un,.ptr h.length 0 0,.un,.un,.un,.un,.un,VI fi_1,VI ai_1,VI wh_1,VI i_1,.un,.un,.un,.un,.un,.un,.un,.un,.un,.un,.un,.un,.un,.un,.un,.un,.un,.un,.un,.un,.un,.un,.un,.un,.un,.un,.un,.un,.un,.un,.un,.un,.un,.un,.un,.un,.un,.un,.un,.un,.un,.un,.un,.un,.un,.un,.un,.un,.un,.un,.un,.un,.un,.un,.un,.un,.un,.un,.un,.un,.un,.un,.un,.un,.un,.un,.un,.un,.un,.un,.un,.un,.un,.un,.un,.un,.un,.un,.un,.un,.un,.un,.un,.un,.un,.un,.un,.un,.un,.un,.un,.un,.un,.un,.un,.un],h ++ (.cells 0 [tv,fv,bv,VI im.entry] :: g_1)⟩:=by
  rintro fi' ai' wh' g' ho
  exact ⟨im.funcs.length - (i + 1),by omega,i + 1,fi',ai',wh',g',rfl,by omega,ho,rfl⟩
 have hcase:(¬ 0 ≤ fi ∧ ∀ (y:Nat) g,fi = y → im.funcs[y]? = some g → aheadB f g = true) ∨ (∃ (y:Nat) (g0:Fn),fi = y ∧ im.funcs[y]? = some g0 ∧ aheadB f g0 = true) ∨ (∃ (y:Nat) (g0:Fn),fi = y ∧ im.funcs[y]? = some g0 ∧ aheadB f g0 = false):=by
  rcases hfst with ⟨r1,_⟩ | ⟨y,g0,r1,_,r3,_⟩
  ·exact .inl ⟨by omega,fun y g q=>by omega⟩
  ·cases hah:aheadB f g0 with
   | true=>exact .inr (.inl ⟨y,g0,r1,r3,hah⟩)
   | false=>exact .inr (.inr ⟨y,g0,r1,r3,hah⟩)
 rcases hcase with ⟨hfn,hah⟩ | ⟨y,g0,hfy,hy,hah0⟩ | ⟨y,g0,hfy,hy,hah0⟩
 case' inl=>
  repeat' first
   | ((with_reducible show SemD _ _ _ _ _);refine SemD.of ?_)
   | simp (maxSteps:=1000000) only [go_sem,hlt',hfl,c1,c2,c3,hfn]
 case' inr.inl=>
  have hah:∀ (y:Nat) g,fi = y → im.funcs[y]? = some g → aheadB f g = true:=by
   intro z g1 hz hg1
   have:z = y:=by omega
   subst this
   rw [hy] at hg1
   cases hg1
   exact hah0
  have hfp:0 ≤ fi:=by omega
  obtain ⟨p,hr1,hr2,hr3,_⟩:=hr.funcs.get Fn.len (by decide) hy
  rw [← hfy] at hr1
  have h64:=fun H=>c64 (cx:=cx) hO.P f g0 H
  rw [hah0] at h64
  repeat' first
   | ((with_reducible show SemD _ _ _ _ _);refine SemD.of ?_)
   | ((with_reducible show dK _ 64 _ _ _);refine dK_of _ (h64 _) ?_)
   | simp (maxSteps:=1000000) only [go_sem,hlt',hfl,c1,c2,c3,hfp,hq1,hq2,hq3,hr1,hr2,hr3,Fn.row]
 case inr.inr=>
  have hfp:0 ≤ fi:=by omega
  obtain ⟨p,hr1,hr2,hr3,_⟩:=hr.funcs.get Fn.len (by decide) hy
  rw [← hfy] at hr1
  have h64:=fun H=>c64 (cx:=cx) hO.P f g0 H
  rw [hah0] at h64
  repeat' first
   | ((with_reducible show SemD _ _ _ _ _);refine SemD.of ?_)
   | ((with_reducible show dK _ 64 _ _ _);refine dK_of _ (h64 _) ?_)
   | simp (maxSteps:=1000000) only [go_sem,hlt',hfl,c1,c2,c3,hfp,hq1,hq2,hq3,hr1,hr2,hr3,hw,Fn.row]
  subst hfy
  exact hfin _ _ _ _ (hfst.skip hfi hy hah0)
 all_goals
  obtain ⟨bodyv,hs1,hs2⟩:=hr.text.sls (a:=f.first) (b:=f.first + f.count) Ins.len e1 (by omega) e3
  have hbe:(im.text.drop f.first.toNat).take ((f.first + f.count).toNat - f.first.toNat) = body im.text f:=by
   unfold body
   congr 1
   omega
  rw [hbe] at hs2
  have hbl:=body_len (text:=im.text) e1 e2 e3
  have hlen:=hr.len
  have hbp:=hbody i f hfi
  have hl9:(body im.text f).length < 1099511627776:=by omega
  have hhd:∀ x ∈ body im.text f,heldB x = true:=by
   intro x hx
   unfold body at hx
   exact hok.held x (List.mem_of_mem_drop (List.mem_of_mem_take hx))
  have hbk:brkF im f = (brkL im.funcs.length im.tables.length (body im.text f) 0 (body im.text f)).2:=rfl
  generalize body im.text f = is at hs2 hl9 hhd hbk hbp
  refine (c65 hO.P (hr.more _) hfi e1 e2 e3 hs1).mono ?_
  rintro r h' ⟨rfl,rfl⟩
  repeat' first
   | simp (maxSteps:=1000000) only [go_sem]
  refine (c66 hO.P (hs2.more _) hl9 hbp).mono ?_
  rintro sv h' ⟨g66,rfl,hss⟩
  simp only [List.append_assoc,List.cons_append,List.nil_append] at hss
  repeat' first
   | simp (maxSteps:=1000000) only [go_sem]
  refine SimLoop.inv [1,5,0,0,0,0,0,0] (fun k s=>∃ (j:Nat),k = is.length - j ∧ j ≤ is.length ∧ brkF im f = (brkL im.funcs.length im.tables.length is j (is.drop j)).2 ∧
   s = ⟨[.un,.ptr h.length 0 0,.un,.un,.un,.un,.un,VI fi,VI ai,VI wh,VI i,r,sv,VI j,.un,.un,.un,.un,.un,.un,.un,.un,.un,.un,.un,.un,.un,.un,.un,.un,.un,.un,.un,.un,.un,.un,.un,.un,.un,.un,.un,.un,.un,.un,.un,.un,.un,.un,.un,.un,.un,.un,.un,.un,.un,.un,.un,.un,.un,.un,.un,.un,.un,.un,.un,.un,.un,.un,.un,.un,.un,.un,.un,.un,.un,.un,.un,.un,.un,.un,.un,.un,.un,.un,.un,.un,.un,.un,.un,.un,.un,.un,.un,.un,.un,.un,.un,.un,.un,.un,.un,.un,.un,.un,.un,.un,.un],h ++ (.cells 0 [tv,fv,bv,VI im.entry] :: (g ++ (.cells 0 [tv,fv,bv,VI im.entry] :: g66)))⟩) ?_ is.length ?_
  rotate_left
  ·exact ⟨0,rfl,Nat.zero_le _,by rw [List.drop_zero];exact hbk,by simp only [go_sem];rfl⟩
  clear hbk
  rintro k s ⟨j,rfl,hj,hall,rfl⟩
  have hsl:=hs2.len
  by_cases hlj:j < is.length
  ·have hlj':((j:Int) < is.length):=by omega
   have hwj:=wrap_succ hlj (by omega)
   have hjx:=List.getElem?_eq_getElem hlj
   rw [List.drop_eq_getElem_cons hlj,brkL] at hall
   have hxh:=far_held (hhd _ (List.getElem_mem hlj))
   generalize is[j] = x at hjx hall hxh
   have h67:=c67 (cx:=cx) hO.P hG (hr.more (.cells 0 [tv,fv,bv,VI im.entry] :: (g ++ (.cells 0 [tv,fv,bv,VI im.entry] :: g66)))) (hs2.more _) hss hl9 hjx hxh
   by_cases hcz:codeOf im.funcs.length im.tables.length is j x = 0
   ·rw [if_pos hcz] at hall
    rw [hcz] at h67
    repeat' first
     | ((with_reducible show SimCall _ 67 _ _ _);refine (h67).mono ?_;rintro r h' ⟨rfl,rfl⟩)
     | simp (maxSteps:=1000000) only [go_sem,hlj',hsl,hwj,c1,c2,c3]
    exact ⟨is.length - (j + 1),by omega,j + 1,rfl,by omega,hall,rfl⟩
   ·rw [if_neg hcz] at hall
    simp only at hall
    rw [← hall] at h67 hcz
    have hcz':decide (brkF im f = 0) = false:=decide_eq_false hcz
    repeat' first
     | ((with_reducible show SimCall _ 67 _ _ _);refine (h67).mono ?_;rintro r h' ⟨rfl,rfl⟩)
     | simp (maxSteps:=1000000) only [go_sem,hlj',hsl,hwj,hw,hcz',c1,c2,c3]
    exact hfin _ _ _ _ (hfst.turn hfi hcz hah)
  ·have hlj':¬ ((j:Int) < is.length):=by omega
   rw [List.drop_eq_nil_of_le (by omega),brkL] at hall
   repeat' first
    | simp (maxSteps:=1000000) only [go_sem,hlj',hsl,hw,c1,c2,c3]
   exact hfin _ _ _ _ (hfst.good hfi hall)
end Go.Tidy
namespace Go.Tidy
open Go Go.Eng Go.Proofs
variable {cx:Cx}
theorem body_of {text:List Ins} {f:Fn} (h0:0 ≤ f.first) (h1:1 ≤ f.count):(text.drop f.first.toNat).take ((f.first + f.count).toNat - f.first.toNat) = body text f:=by
 unfold body
 congr 1
 omega
theorem SlT.loc {α:Type} {f:α → List AV} {sz:Nat} {h:AH} {v:AV} {xs:List α} (s:SlT f sz h v xs) {k:Nat} {p:AV} (hp:xIad sz v (VI k) = some p):(∃ id ver off,p = .ptr id ver off ∧ id < h.length) ∨ ∃ cs,p = .rp cs:=by
 cases s with
 | sl id ver off cs xs hrd hc=>
   have:=hrd []
   rw [List.append_nil] at this
   have hlt:=rd_lt this
   simp only [xIad] at hp
   split at hp
   ·simp only [Option.some.injEq] at hp
    exact .inl ⟨_,_,_,hp.symm,hlt⟩
   ·cases hp
 | ro fn xs hr=>
   simp only [xIad] at hp
   split at hp
   ·simp only [Option.some.injEq] at hp
    exact .inr ⟨_,hp.symm⟩
   ·cases hp
set_option maxRecDepth 100000 in
set_option maxHeartbeats 4000000 in
theorem c26 (hO:On cx) {h:AH} {im got:Img} {tv fv bv tv' fv' bv':AV} (hr:ImgR h tv fv bv im) (hr':ImgR h tv' fv' bv' got) (hk:KeptOf im got)
 (hf:∀ f ∈ im.funcs,0 ≤ f.first ∧ 1 ≤ f.count ∧ f.first + f.count ≤ im.text.length) (hg:funcsB got.text.length 0 got.funcs = true) :
 SimCall cx 26 [.agg [tv,fv,bv,VI im.entry],.agg [tv',fv',bv',VI got.entry]] h fun r h'=>h' = h ∧ r = VB true:=by
 have c1:=hr.text.cell
 have c2:=hr.funcs.cell
 have c3:=hr.tables.cell
 have c4:=hr'.text.cell
 have c5:=hr'.funcs.cell
 have c6:=hr'.tables.cell
 have hlen:=hr.len
 have hlen':=hr'.len
 have hnf:=hr.nf
 have hfl:=hr'.funcs.len
 rw [hk.len] at hfl
 have hbt:=hr'.tables
 rw [hk.tables] at hbt
 have hen:=hk.entry
 have hgf:=funcsB_mem _ _ 0 (by omega) hg
 refine SimCall.gc ?_
 refine SimCall.by hO.P res26 ?_
 unfold x26 r26
 repeat' first
  | ((with_reducible show SemL _ _ _ _);refine SemL.of ?_)
  | ((with_reducible show SimCall _ 51 _ _ _);refine (c51 hO (hbt.more _) (hr.tables.more _) hr.nt).mono ?_;rintro r h' ⟨rfl,rfl⟩)
  | simp (maxSteps:=1000000) only [go_sem,c1,c2,c3,c4,c5,c6,hr.funcs.len,hfl,hen]
 refine SimLoop.inv [2,0,1,0] (fun k s=>∃ (i a:Nat) (G:AH),k = im.funcs.length - i ∧ i ≤ im.funcs.length ∧ a ≤ got.text.length ∧ funcsB got.text.length a (got.funcs.drop i) = true ∧
  s = ⟨[.un,.un,.ptr h.length 0 0,.ptr (h.length + 1) 0 0,.un,VI a,VI i,.un,.un,.un,.un,.un,.un,.un,.un,.un,.un,.un,.un,.un,.un,.un,.un,.un,.un,.un,.un,.un,.un,.un,.un,.un,.un,.un,.un,.un,.un,.un,.un,.un,.un,.un,.un,.un,.un,.un,.un,.un,.un,.un,.un,.un,.un,.un,.un,.un,.un,.un,.un,.un,.un,.un,.un,.un,.un,.un,.un,.un,.un,.un,.un,.un,.un,.un,.un,.un,.un,.un,.un,.un,.un,.un,.un,.un,.un,.un,.un,.un,.un,.un,.un,.un,.un,.un,.un,.un,.un,.un,.un],h ++ (.cells 0 [tv,fv,bv,VI im.entry] :: .cells 0 [tv',fv',bv',VI got.entry] :: G)⟩) ?_ im.funcs.length ?_
 rotate_left
 ·exact ⟨0,0,[],rfl,Nat.zero_le _,Nat.zero_le _,hg,by rw [hen];simp only [go_sem];rfl⟩
 rintro k s ⟨i,a,G,rfl,hi,ha,hfb,rfl⟩
 by_cases hlt:i < im.funcs.length
 ·have hlt':((i:Int) < im.funcs.length):=by omega
  have hw:=wrap_succ hlt (by omega)
  have hlt2:i < got.funcs.length:=by rw [hk.len];exact hlt
  have hfi:=List.getElem?_eq_getElem hlt
  have hgi:=List.getElem?_eq_getElem hlt2
  obtain ⟨hn,ho,hsl⟩:=hk.each i _ _ hfi hgi
  rw [List.drop_eq_getElem_cons hlt2] at hfb
  simp only [funcsB,Bool.and_eq_true,decide_eq_true_eq] at hfb
  obtain ⟨p,hp1,hp2,hp3,_⟩:=hr.funcs.get Fn.len (by decide) hfi
  obtain ⟨q,hq1,hq2,hq3,_⟩:=hr'.funcs.get Fn.len (by decide) hgi
  obtain ⟨e1,e2,e3⟩:=hf _ (List.getElem_mem hlt)
  obtain ⟨d1,d2,d3⟩:=hgf _ (List.getElem_mem hlt2)
  generalize im.funcs[i] = f at *
  generalize got.funcs[i] = g at *
  obtain ⟨bodyv,hs1,hs2⟩:=hr.text.sls (a:=f.first) (b:=f.first + f.count) Ins.len e1 (by omega) e3
  obtain ⟨bodyv',hs1',hs2'⟩:=hr'.text.sls (a:=g.first) (b:=g.first + g.count) Ins.len d1 (by omega) d3
  rw [body_of e1 e2] at hs2
  rw [body_of d1 d2] at hs2'
  have hbl:=body_len e1 e2 e3
  have hbl':=body_len d1 d2 d3
  have h72:=fun H:AH=>c72 (cx:=cx) hO (hs2.more H) (by omega) (by omega)
  have h72':=fun H:AH=>c72 (cx:=cx) hO (hs2'.more H) (by omega) (by omega)
  have h29:=fun H:AH=>c29 (cx:=cx) hO (hr.more H) hfi e1 e2 e3 hs1
  have h29':=fun H:AH=>c29 (cx:=cx) hO (hr'.more H) hgi d1 d2 d3 hs1'
  generalize hmf:body im.text f = isf at *
  generalize hmg:body got.text g = isg at *
  have hb1:=wsI_le isf
  have hb2:=wsI_le isg
  obtain ⟨gname,gobj,gfirst,gcount⟩:=g
  obtain ⟨fname,fobj,ffirst,fcount⟩:=f
  simp only at hn ho hfb d1 d2 d3 e1 e2 e3 hs1 hs1' hbl hbl' hsl
  subst hn ho
  obtain ⟨⟨⟨rfl,hc1⟩,hc2⟩,hfb⟩:=hfb
  obtain ⟨c,rfl⟩:∃ c:Nat,gcount = c:=⟨gcount.toNat,by omega⟩
  have hn1:¬ ((c:Int) < 1):=by omega
  have hw3:IntKind.i64.wrap ((got.text.length:Int) - a) = (got.text.length:Int) - a:=wrap_id (by omega) (by omega)
  have hn2:¬ ((got.text.length:Int) - a < c):=by omega
  have hw4:IntKind.i64.wrap ((a:Int) + c) = ((a + c:Nat):Int):=by rw [wrap_id (by omega) (by omega)];omega
  have hn3:¬ (((wsI isf).sum:Nat):Int) < (((wsI isg).sum:Nat):Int):=by omega
  have hfin:∀ G:AH,∃ k',k' < im.funcs.length - i ∧ ∃ (i_1 a_1:Nat) (G_1:AH),k' = im.funcs.length - i_1 ∧ i_1 ≤ im.funcs.length ∧ a_1 ≤ got.text.length ∧ funcsB got.text.length a_1 (got.funcs.drop i_1) = true ∧
   (⟨[.un,.un,.ptr h.length 0 0,.ptr (h.length + 1) 0 0,.un,VI ((a + c:Nat):Int),VI ((i + 1:Nat):Int),.un,.un,.un,.un,.un,.un,.un,.un,.un,.un,.un,.un,.un,.un,.un,.un,.un,.un,.un,.un,.un,.un,.un,.un,.un,.un,.un,.un,.un,.un,.un,.un,.un,.un,.un,.un,.un,.un,.un,.un,.un,.un,.un,.un,.un,.un,.un,.un,.un,.un,.un,.un,.un,.un,.un,.un,.un,.un,.un,.un,.un,.un,.un,.un,.un,.un,.un,.un,.un,.un,.un,.un,.un,.un,.un,.un,.un,.un,.un,.un,.un,.un,.un,.un,.un,.un,.un,.un,.un,.un,.un,.un],h ++ (.cells 0 [tv,fv,bv,VI im.entry] :: .cells 0 [tv',fv',bv',VI got.entry] :: G)⟩:XSt) =
   ⟨[.un,.un,.ptr h.length 0 0,.ptr (h.length + 1) 0 0,.un,VI a_1,VI i_1,.un,.un,.un,.un,.un,.un,.un,.un,.un,.un,.un,.un,.un,.un,.un,.un,.un,.un,.un,.un,.un,.un,.un,.un,.un,.un,.un,.un,.un,.un,.un,.un,.un,.un,.un,.un,.un,.un,.un,.un,.un,.un,.un,.un,.un,.un,.un,.un,.un,.un,.un,.un,.un,.un,.un,.un,.un,.un,.un,.un,.un,.un,.un,.un,.un,.un,.un,.un,.un,.un,.un,.un,.un,.un,.un,.un,.un,.un,.un,.un,.un,.un,.un,.un,.un,.un,.un,.un,.un,.un,.un,.un],h ++ (.cells 0 [tv,fv,bv,VI im.entry] :: .cells 0 [tv',fv',bv',VI got.entry] :: G_1)⟩:=fun G=>
   ⟨im.funcs.length - (i + 1),by omega,i + 1,a + c,G,rfl,by omega,by omega,by rw [show ((a + c:Nat):Int) = (a:Int) + (c:Int) by omega];exact hfb,rfl⟩
  have ha1:∀ G:AH,h.length + (G.length + 1 + 1) + 1 = h.length + (G.length + 1 + 1 + 1):=fun _=>rfl
  have ha2:∀ G:AH,h.length < h.length + (G.length + 1 + 1):=fun G=>by omega
  have ha3:∀ G:AH,h.length + 1 < h.length + (G.length + 1 + 1):=fun G=>by omega
  have ha4:∀ G:AH,h.length + (G.length + 1 + 1) < h.length + (G.length + 1 + 1) + 2:=fun G=>by omega
  have ha5:∀ G:AH,h.length + (G.length + 1 + 1) ≤ h.length + (G.length + 1 + 1 + 1):=fun G=>by omega
  have ha6:∀ G:AH,h.length + (G.length + 1 + 1 + 1) < h.length + (G.length + 1 + 1) + 2:=fun G=>by omega
  rcases hr.funcs.loc hp1 with ⟨id,ver,off,rfl,hid⟩ | ⟨cs,rfl⟩ <;> rcases hr'.funcs.loc hq1 with ⟨id',ver',off',rfl,hid'⟩ | ⟨cs',rfl⟩
  ·skip
   have hx:∀ n,id < h.length + n:=fun n=>by omega
   have hx':∀ n,id' < h.length + n:=fun n=>by omega
   repeat' first
    | ((with_reducible show SemL _ _ _ _);refine SemL.of ?_)
    | ((with_reducible show dK _ 29 _ _ _);refine dK_app _ _ (h29 _) ?_)
    | ((with_reducible show dK _ 29 _ _ _);refine dK_app _ _ (h29' _) ?_)
    | ((with_reducible show dK _ 72 _ _ _);refine dK_of _ (h72 _) ?_)
    | ((with_reducible show dK _ 72 _ _ _);refine dK_of _ (h72' _) ?_)
    | simp (maxSteps:=1000000) only [go_sem,c1,c2,c3,c4,c5,c6,hr.funcs.len,hfl,hr'.text.len,hlt',hw,hp1,hp2,hp3,hq1,hq2,hq3,Fn.row,hn1,hw3,hn2,hw4,hn3,hx,hx',ha1,ha2,ha3,ha4,ha5,ha6,true_or,true_and,implies_true]
   exact hfin _
  ·skip
   have hx:∀ n,id < h.length + n:=fun n=>by omega
   repeat' first
    | ((with_reducible show SemL _ _ _ _);refine SemL.of ?_)
    | ((with_reducible show dK _ 29 _ _ _);refine dK_app _ _ (h29 _) ?_)
    | ((with_reducible show dK _ 29 _ _ _);refine dK_app _ _ (h29' _) ?_)
    | ((with_reducible show dK _ 72 _ _ _);refine dK_of _ (h72 _) ?_)
    | ((with_reducible show dK _ 72 _ _ _);refine dK_of _ (h72' _) ?_)
    | simp (maxSteps:=1000000) only [go_sem,c1,c2,c3,c4,c5,c6,hr.funcs.len,hfl,hr'.text.len,hlt',hw,hp1,hp2,hp3,hq1,hq2,hq3,Fn.row,hn1,hw3,hn2,hw4,hn3,hx,ha1,ha2,ha3,ha4,ha5,ha6,true_or,true_and,implies_true]
   exact hfin _
  ·skip
   have hx':∀ n,id' < h.length + n:=fun n=>by omega
   repeat' first
    | ((with_reducible show SemL _ _ _ _);refine SemL.of ?_)
    | ((with_reducible show dK _ 29 _ _ _);refine dK_app _ _ (h29 _) ?_)
    | ((with_reducible show dK _ 29 _ _ _);refine dK_app _ _ (h29' _) ?_)
    | ((with_reducible show dK _ 72 _ _ _);refine dK_of _ (h72 _) ?_)
    | ((with_reducible show dK _ 72 _ _ _);refine dK_of _ (h72' _) ?_)
    | simp (maxSteps:=1000000) only [go_sem,c1,c2,c3,c4,c5,c6,hr.funcs.len,hfl,hr'.text.len,hlt',hw,hp1,hp2,hp3,hq1,hq2,hq3,Fn.row,hn1,hw3,hn2,hw4,hn3,hx',ha1,ha2,ha3,ha4,ha5,ha6,true_or,true_and,implies_true]
   exact hfin _
  ·skip
   repeat' first
    | ((with_reducible show SemL _ _ _ _);refine SemL.of ?_)
    | ((with_reducible show dK _ 29 _ _ _);refine dK_app _ _ (h29 _) ?_)
    | ((with_reducible show dK _ 29 _ _ _);refine dK_app _ _ (h29' _) ?_)
    | ((with_reducible show dK _ 72 _ _ _);refine dK_of _ (h72 _) ?_)
    | ((with_reducible show dK _ 72 _ _ _);refine dK_of _ (h72' _) ?_)
    | simp (maxSteps:=1000000) only [go_sem,c1,c2,c3,c4,c5,c6,hr.funcs.len,hfl,hr'.text.len,hlt',hw,hp1,hp2,hp3,hq1,hq2,hq3,Fn.row,hn1,hw3,hn2,hw4,hn3,ha1,ha2,ha3,ha4,ha5,ha6,true_or,true_and,implies_true]
   exact hfin _
 ·have hlt':¬ ((i:Int) < im.funcs.length):=by omega
  rw [List.drop_eq_nil_of_le (by rw [hk.len];omega)] at hfb
  simp only [funcsB,decide_eq_true_eq] at hfb
  repeat' first
   | simp (maxSteps:=1000000) only [go_sem,hr.funcs.len,hr'.text.len,hfb,hlt']
  exact ⟨more_one,plain_v _⟩
end Go.Tidy
namespace Go.Tidy
open Go Go.Eng Go.Proofs
theorem laid_name {im:Img} {bs:List (List Ins)} (hl:im.funcs.length = bs.length) {n:Nat} (h:∀ f ∈ im.funcs,f.name.size < n):∀ f ∈ laidFs 0 im.funcs bs,f.name.size < n:=by
 intro f hf
 have h1:(f.name,f.obj) ∈ (laidFs 0 im.funcs bs).map fun f=>(f.name,f.obj):=List.mem_map_of_mem hf
 rw [laidFs_names 0 _ _ hl] at h1
 obtain ⟨g,hg,he⟩:=List.mem_map.1 h1
 have:=h g hg
 simp only [Prod.mk.injEq] at he
 rw [← he.1]
 exact this
theorem TidyOut.img {H:AH} {im:Img} {bs:List (List Ins)} {a va b vb c vc:Nat} (ho:TidyOf im ⟨bs.flatten,laidFs 0 im.funcs bs,im.tables,im.entry⟩ bs) (hv:VOk (tabsB 0) im)
 (h4:∀ f ∈ im.funcs,f.name.size < 4611686018427387904) (h5:∀ t ∈ im.tables,t.name.size < 4611686018427387904)
 (r1:Rows Ins.row 5 H (.sl a va 0 bs.flatten.length 5) bs.flatten) (r2:Rows Fn.row 4 H (.sl b vb 0 (laidFs 0 im.funcs bs).length 4) (laidFs 0 im.funcs bs)) (r3:Rows Tab.row 5 H (.sl c vc 0 im.tables.length 5) im.tables) :
 ImgR H (.sl a va 0 bs.flatten.length 5) (.sl b vb 0 (laidFs 0 im.funcs bs).length 4) (.sl c vc 0 im.tables.length 5) ⟨bs.flatten,laidFs 0 im.funcs bs,im.tables,im.entry⟩:=by
 have hk:=ho.ok hv
 have h1:=len_sum bs.flatten
 have h2:=hk.img.len
 have h3:=hk.img.nf
 have h6:=hk.img.nt
 simp only at h2 h3 h6
 exact ⟨r1.sl,r2.sl,r3.sl,by simp only;omega,by simp only;omega,by simp only;omega,laid_name ho.len h4,h5⟩
end Go.Tidy
namespace Go.Tidy
open Go Go.Eng Go.Proofs
set_option maxRecDepth 100000 in
set_option maxHeartbeats 8000000 in
theorem c6 {cx:Cx} (hP:cx.P = Tryz.prog) (hG:cx.G = arrs) {h:AH} {tv fv bv:AV} {im:Img} (ht:Rows Ins.row 5 h tv im.text) (hf:Rows Fn.row 4 h fv im.funcs) (hb:Rows Tab.row 5 h bv im.tables)
 (h1:im.text.length < 1099511627776) (h2:im.funcs.length < 1099511627776) (h3:im.tables.length < 1099511627776) (h4:∀ f ∈ im.funcs,f.name.size < 4611686018427387904) (h5:∀ t ∈ im.tables,t.name.size < 4611686018427387904) :
 SimCall cx 6 [.agg [tv,fv,bv,VI im.entry]] h fun r _=>r = VB true:=by
 have hO:=on_arrs hP hG
 have c1:=ht.sl.cell
 have c2:=hf.sl.cell
 have c3:=hb.sl.cell
 have hr0:ImgR h tv fv bv im:=⟨ht.sl,hf.sl,hb.sl,h1,h2,h3,h4,h5⟩
 have h20:=fun h=>SimCall.apart (cx:=cx) (args:=[]) (by intro x hx;cases hx) (Q:=fun r=>r = VB true) (by rintro r rfl;exact plain_v _) (c20 hP hG) h
 refine SimCall.by hP res6 ?_
 unfold x6 r6
 repeat' first
  | ((with_reducible show SimCall _ 20 _ _ _);refine (h20 _).mono ?_;rintro r h' ⟨rfl,rfl⟩)
  | simp (maxSteps:=1000000) only [go_sem,c1,c2,c3]
 refine (c21 hO hG (hr0.more _)).mono ?_
 rintro r h' ⟨rfl,a0,b0,code,rfl,hcode⟩
 repeat' first
  | simp (maxSteps:=1000000) only [go_sem,c1,c2,c3]
 refine (c28 hO (ht.more _) (hf.more _) (hb.more _) h1 h2 h3 h4 h5).mono ?_
 rintro r h' ⟨g,a,va,b,vb,c,vc,rfl,rfl,ht2,hf2,hb2,hr2⟩
 simp only [List.append_assoc,List.cons_append,List.nil_append] at ht2 hf2 hb2 hr2
 repeat' first
  | simp (maxSteps:=1000000) only [go_sem,c1,c2,c3]
 refine (c23 hO hr2 hb2).mono ?_
 rintro r h' (⟨hn,e,g2,he,rfl,rfl⟩ | ⟨hv,bs,g2,a2,va2,b2,vb2,d2,vd2,htd,rfl,rfl,ht3,hf3,hb3⟩)
 ·have hee:=ErrV.uniq he.2 hcode
  subst hee
  have he':decide (e = 0) = false:=decide_eq_false he.1
  repeat' first
   | ((with_reducible show SemL _ _ _ _);refine SemL.of ?_)
   | ((with_reducible show SimCall _ 16 _ _ _);refine (c16 hO _ _).mono ?_;rintro r h' ⟨rfl,rfl⟩)
   | simp (maxSteps:=1000000) only [go_sem,c1,c2,c3,he']
  all_goals rfl
 ·have hc0:=hcode.ok.2 hv
  subst hc0
  have hr3:=TidyOut.img htd hv h4 h5 ht3 hf3 hb3
  have hk:=htd.ok hv
  have hfb:=funcsB_mem _ _ 0 (by omega) hv.img.funcs
  simp only [List.append_assoc,List.cons_append,List.nil_append] at ht3 hf3 hb3 hr3
  repeat' first
   | ((with_reducible show SemL _ _ _ _);refine SemL.of ?_)
   | ((with_reducible show SimCall _ 16 _ _ _);refine (c16 hO _ _).mono ?_;rintro r h' ⟨rfl,rfl⟩)
   | ((with_reducible show SimCall _ 26 _ _ _);refine (c26 hO (hr0.more _) (by simpa only [List.append_assoc,List.cons_append] using hr3.more _) htd.kept hfb hk.img.funcs).mono ?_;rintro r h' ⟨rfl,rfl⟩)
   | simp (maxSteps:=1000000) only [go_sem,c1,c2,c3]
  have hfl3:=hr3.funcs.len
  have hfs:=funcsB_mem _ _ 0 (by omega) hk.img.funcs
  have hnf:=hr3.nf
  refine SimLoop.inv [6,1] (fun m s=>∃ (i:Nat) (G:AH),m = (laidFs 0 im.funcs bs).length - i ∧ i ≤ (laidFs 0 im.funcs bs).length ∧
   s = ⟨[.un,.un,.un,.un,.un,.un,.ptr (h.length + (g.length + g2.length + 1)) 0 0,.un,VI i,.un,.un,.un,.un,.un,.un,.un,.un,.un,.un,.un,.un,.un,.un,.un,.un,.un,.un,.un,.un,.un,.un,.un,.un,.un,.un,.un,.un,.un,.un,.un,.un,.un,.un,.un,.un,.un,.un,.un,.un,.un,.un,.un,.un,.un,.un,.un,.un,.un,.un,.un,.un,.un,.un,.un,.un,.un,.un,.un,.un,.un,.un,.un,.un,.un,.un,.un,.un,.un,.un,.un],h ++ (.cells 0 [tv,fv,bv,VI im.entry] :: (g ++ (g2 ++ (.cells 0 [AV.sl a2 va2 0 bs.flatten.length 5,AV.sl b2 vb2 0 (laidFs 0 im.funcs bs).length 4,AV.sl d2 vd2 0 im.tables.length 5,VI im.entry] :: G))))⟩) ?_ (laidFs 0 im.funcs bs).length ?_
  rotate_left
  ·exact ⟨0,[],rfl,Nat.zero_le _,by simp only [go_sem];rfl⟩
  rintro m s ⟨i,G,rfl,hi,rfl⟩
  by_cases hlt:i < (laidFs 0 im.funcs bs).length
  case neg=>
   have hlt':¬ ((i:Int) < (laidFs 0 im.funcs bs).length):=by omega
   repeat' first
    | simp (maxSteps:=1000000) only [go_sem,hlt',hfl3]
  have hlt':((i:Int) < (laidFs 0 im.funcs bs).length):=by omega
  have hw:=wrap_succ hlt (by simp only at hnf;omega)
  have hfi:=List.getElem?_eq_getElem hlt
  obtain ⟨e1,e2,e3⟩:=hfs _ (List.getElem_mem hlt)
  have hbd:=hk.bodies _ (List.getElem_mem hlt)
  have hbs:=laid_body htd.len hfi
  generalize (laidFs 0 im.funcs bs)[i] = f at hfi e1 e2 e3 hbd hbs
  simp only at e1 e2 e3 hbd
  obtain ⟨bodyv,hs1,hs2⟩:=hr3.text.sls (a:=f.first) (b:=f.first + f.count) Ins.len e1 (by omega) e3
  have hbe:(bs.flatten.drop f.first.toNat).take ((f.first + f.count).toNat - f.first.toNat) = body bs.flatten f:=by
   unfold body
   congr 1
   omega
  simp only at hs2
  rw [hbe] at hs2
  have hbl:=body_len (text:=bs.flatten) e1 e2 e3
  have hlen:=hr3.len
  simp only at hlen
  have hl9:(body bs.flatten f).length < 1099511627776:=by omega
  obtain ⟨f0,hf0⟩:∃ f0,im.funcs[i]? = some f0:=⟨_,List.getElem?_eq_getElem (by rw [htd.len];exact (List.getElem?_eq_some_iff.1 hbs).1)⟩
  obtain ⟨b0,hfit,hsum,hlaid,hneat⟩:=(htd.made i f0 _ hf0 hbs).neat
  have l:=lay_ok hfit hsum
  rw [← hlaid] at l
  have hmay:∀ x ∈ body bs.flatten f,may x = 0:=fun x hx=>(hbd.rule x hx).may
  have hfar:∀ x ∈ body bs.flatten f,-9000000000000000000 ≤ x.far ∧ x.far ≤ 9000000000000000000:=fun x hx=>far_held (hbd.rule x hx).held
  have hne:=hbd.ne
  have hto:=hbd.to
  generalize body bs.flatten f = is at hs2 hl9 l hmay hfar hne hbl hto
  have h29:=c29 hO (by simpa only [List.append_assoc,List.cons_append] using hr3.more (.cells 0 [AV.sl a2 va2 0 bs.flatten.length 5,AV.sl b2 vb2 0 (laidFs 0 im.funcs bs).length 4,AV.sl d2 vd2 0 im.tables.length 5,VI im.entry] :: G)) hfi e1 e2 e3 hs1
  repeat' first
   | simp (maxSteps:=1000000) only [go_sem,hlt',hfl3]
  refine h29.mono ?_
  rintro r h' ⟨rfl,rfl⟩
  repeat' first
   | simp (maxSteps:=1000000) only [go_sem]
  have hvA:SlIns (h ++ AO.cells 0 [tv,fv,bv,VI im.entry] :: (g ++ (g2 ++ AO.cells 0 [AV.sl a2 va2 0 bs.flatten.length 5,AV.sl b2 vb2 0 (laidFs 0 im.funcs bs).length 4,AV.sl d2 vd2 0 im.tables.length 5,VI im.entry] :: (G ++ [AO.cells 0 [AV.sl a2 va2 0 bs.flatten.length 5,AV.sl b2 vb2 0 (laidFs 0 im.funcs bs).length 4,AV.sl d2 vd2 0 im.tables.length 5,VI im.entry]])))) r is:=by
   simpa only [List.append_assoc,List.cons_append] using hs2.more (AO.cells 0 [AV.sl a2 va2 0 bs.flatten.length 5,AV.sl b2 vb2 0 (laidFs 0 im.funcs bs).length 4,AV.sl d2 vd2 0 im.tables.length 5,VI im.entry] :: (G ++ [AO.cells 0 [AV.sl a2 va2 0 bs.flatten.length 5,AV.sl b2 vb2 0 (laidFs 0 im.funcs bs).length 4,AV.sl d2 vd2 0 im.tables.length 5,VI im.entry]]))
  refine (c30 hO hvA hl9 hne).mono ?_
  rintro pv h' ⟨g30,rfl,hpv⟩
  simp only [List.append_assoc,List.cons_append,List.nil_append] at hpv
  have hvB:SlIns (h ++ AO.cells 0 [tv,fv,bv,VI im.entry] :: (g ++ (g2 ++ AO.cells 0 [AV.sl a2 va2 0 bs.flatten.length 5,AV.sl b2 vb2 0 (laidFs 0 im.funcs bs).length 4,AV.sl d2 vd2 0 im.tables.length 5,VI im.entry] :: (G ++ AO.cells 0 [AV.sl a2 va2 0 bs.flatten.length 5,AV.sl b2 vb2 0 (laidFs 0 im.funcs bs).length 4,AV.sl d2 vd2 0 im.tables.length 5,VI im.entry] :: g30)))) r is:=by
   simpa only [List.append_assoc,List.cons_append] using hs2.more (AO.cells 0 [AV.sl a2 va2 0 bs.flatten.length 5,AV.sl b2 vb2 0 (laidFs 0 im.funcs bs).length 4,AV.sl d2 vd2 0 im.tables.length 5,VI im.entry] :: (G ++ AO.cells 0 [AV.sl a2 va2 0 bs.flatten.length 5,AV.sl b2 vb2 0 (laidFs 0 im.funcs bs).length 4,AV.sl d2 vd2 0 im.tables.length 5,VI im.entry] :: g30))
  repeat' first
   | simp (maxSteps:=1000000) only [go_sem]
  refine SimLoop.inv [6,1,0,0,0] (fun m s=>∃ (j:Nat),m = is.length - j ∧ j ≤ is.length ∧
   s = ⟨[.un,.un,.un,.un,.un,.un,.ptr (h.length + (g.length + g2.length + 1)) 0 0,.un,VI i,r,pv,VI j,.un,.un,.un,.un,.un,.un,.un,.un,.un,.un,.un,.un,.un,.un,.un,.un,.un,.un,.un,.un,.un,.un,.un,.un,.un,.un,.un,.un,.un,.un,.un,.un,.un,.un,.un,.un,.un,.un,.un,.un,.un,.un,.un,.un,.un,.un,.un,.un,.un,.un,.un,.un,.un,.un,.un,.un,.un,.un,.un,.un,.un,.un,.un,.un,.un,.un,.un,.un],h ++ (.cells 0 [tv,fv,bv,VI im.entry] :: (g ++ (g2 ++ (AO.cells 0 [AV.sl a2 va2 0 bs.flatten.length 5,AV.sl b2 vb2 0 (laidFs 0 im.funcs bs).length 4,AV.sl d2 vd2 0 im.tables.length 5,VI im.entry] :: (G ++ (AO.cells 0 [AV.sl a2 va2 0 bs.flatten.length 5,AV.sl b2 vb2 0 (laidFs 0 im.funcs bs).length 4,AV.sl d2 vd2 0 im.tables.length 5,VI im.entry] :: g30))))))⟩) ?_ is.length ?_
  rotate_left
  ·exact ⟨0,rfl,Nat.zero_le _,by simp only [go_sem];rfl⟩
  rintro m s ⟨j,rfl,hj,rfl⟩
  have hvl:=hvB.len
  by_cases hlj:j < is.length
  case neg=>
   have hlj':¬ ((j:Int) < is.length):=by omega
   have h33:=c33 hO hG l hneat hvB hl9 hmay hfar
   repeat' first
    | ((with_reducible show SimCall _ 33 _ _ _);refine (h33).mono ?_;rintro r h' ⟨rfl,rfl⟩)
    | simp (maxSteps:=1000000) only [go_sem,hlj',hvl,hw]
   exact ⟨(laidFs 0 im.funcs bs).length - (i + 1),by omega,i + 1,_,rfl,by omega,rfl⟩
  have hlj':((j:Int) < is.length):=by omega
  have hwj:=wrap_succ hlj (by omega)
  have hix:=List.getElem?_eq_getElem hlj
  have hxm:=List.getElem_mem hlj
  generalize is[j] = x at hix hxm
  obtain ⟨p,hp1,hp2,hp3,_⟩:=hvB.get Ins.len (by decide) hix
  have h31:=fun H=>c31 (cx:=cx) hP x H
  cases hjx:isJ x with
  | false=>
    rw [hjx] at h31
    repeat' first
     | ((with_reducible show SemL _ _ _ _);refine SemL.of ?_)
     | ((with_reducible show SimCall _ 31 _ _ _);refine (h31 _).mono ?_;rintro r h' ⟨rfl,rfl⟩)
     | simp (maxSteps:=1000000) only [go_sem,hlj',hvl,hwj,hp1,hp2,hp3,Ins.row]
    exact ⟨is.length - (j + 1),by omega,j + 1,rfl,by omega,rfl⟩
  | true=>
    rw [hjx] at h31
    have hld:=jump_leads (hmay x hxm) (by simpa [isJ] using hjx)
    have h32:=c32 hP hvB hpv hl9 hix (hfar x hxm)
    obtain ⟨t,ht1,ht2⟩:=hto j x hix hld
    have hT:¬ tgtV is (psum (wsI is) j + 1 + x.far) < 0:=by rw [← tgtV_at ht1 ht2];omega
    generalize tgtV is (psum (wsI is) j + 1 + x.far) = T at h32 hT
    repeat' first
     | ((with_reducible show SemL _ _ _ _);refine SemL.of ?_)
     | ((with_reducible show SimCall _ 31 _ _ _);refine (h31 _).mono ?_;rintro r h' ⟨rfl,rfl⟩)
     | ((with_reducible show SimCall _ 32 _ _ _);refine (h32).mono ?_;rintro r h' ⟨rfl,rfl⟩)
     | simp (maxSteps:=1000000) only [go_sem,hlj',hvl,hwj,hp1,hp2,hp3,hT,Ins.row]
    exact ⟨is.length - (j + 1),by omega,j + 1,rfl,by omega,rfl⟩
end Go.Tidy

/- Part 9 of a proof: an abstract memory for the translated code, and what the functions that the law reaches do over it. -/
import Derived.Shelf.SlSortCmp.Whole1
import Derived.Sort.Walk0
import Derived.Test.YtbhdjfhhgnoiiaaGreatDoorS8
set_option linter.unusedSimpArgs false
set_option linter.unusedVariables false
namespace Go.Tidy
open Go Go.Eng Go.Proofs
variable {cx:Cx}
theorem c141' (hP:cx.P = Tryz.prog) (n:Int) (h:AH):SimCall cx 141 [VI n] h fun r h'=>h' = h ∧ r = VB false:=by
 refine SimCall.gc ?_
 refine SimCall.by hP res141 ?_
 unfold x141 r141
 repeat' first
  | simp (maxSteps:=1000000) only [go_sem]
 all_goals first | exact ⟨more_one,plain_v _⟩ | exact ⟨more_nil,plain_v _⟩ | refine ⟨by first | exact more_one | exact more_nil,by first | exact plain_v _ | exact plain_tup (by simp [Plain.v]),?_⟩
 all_goals try simp only [decide_eq_true_eq,decide_eq_false_iff_not,Bool.not_eq_true',Bool.not_eq_false',AV.v.injEq,AV.tup.injEq,List.cons.injEq,Value.int.injEq,Value.bool.injEq,true_and,and_true] at *
 all_goals (try simp only [band] at *)
 all_goals (try simp_all)
 all_goals grind
theorem c140 (hP:cx.P = Tryz.prog) (s:ByteArray) (h:AH):SimCall cx 140 [.v (.string s)] h fun r h'=>h' = h ∧ r = VB false:=by
 refine SimCall.gc ?_
 refine SimCall.by hP res140 ?_
 unfold x140 r140
 repeat' first
  | simp (maxSteps:=1000000) only [go_sem]
 all_goals first | exact ⟨more_one,plain_v _⟩ | exact ⟨more_nil,plain_v _⟩ | refine ⟨by first | exact more_one | exact more_nil,by first | exact plain_v _ | exact plain_tup (by simp [Plain.v]),?_⟩
 all_goals try simp only [decide_eq_true_eq,decide_eq_false_iff_not,Bool.not_eq_true',Bool.not_eq_false',AV.v.injEq,AV.tup.injEq,List.cons.injEq,Value.int.injEq,Value.bool.injEq,true_and,and_true] at *
 all_goals (try simp only [band] at *)
 all_goals (try simp_all)
 all_goals grind
def cmpS (a b:ByteArray):Int:=if Op.bytesLess a.toList b.toList = true then -1 else if (Op.bytesLess a.toList b.toList || decide (a = b)) = false then 1 else 0
def cmpI (a b:Int):Int:=if a < b then -1 else if b < a then 1 else 0
def cmpF (f g:Fn):Int:=if cmpS f.name g.name = 0 then cmpI f.obj g.obj else cmpS f.name g.name
theorem c83 (hP:cx.P = Tryz.prog) (a b:ByteArray) (h:AH):SimCall cx 83 [.v (.string a),.v (.string b)] h fun r h'=>h' = h ∧ r = VI (cmpS a b):=by
 refine SimCall.gc ?_
 refine SimCall.by hP res83 ?_
 unfold x83 r83
 repeat' first
  | ((with_reducible show wx _ (XCode.cond _ _ _) _ _);refine wx_if rfl (fun _=>?_) (fun _=>?_))
  | ((with_reducible show SimCall _ 140 _ _ _);refine (c140 hP _ _).mono ?_;rintro r h' ⟨rfl,rfl⟩)
  | simp (maxSteps:=1000000) only [go_sem]
 all_goals first | exact ⟨more_one,plain_v _⟩ | exact ⟨more_nil,plain_v _⟩ | refine ⟨by first | exact more_one | exact more_nil,by first | exact plain_v _ | exact plain_tup (by simp [Plain.v]),?_⟩
 all_goals try simp only [decide_eq_true_eq,decide_eq_false_iff_not,Bool.not_eq_true',Bool.not_eq_false',AV.v.injEq,AV.tup.injEq,List.cons.injEq,Value.int.injEq,Value.bool.injEq,true_and,and_true] at *
 all_goals unfold cmpS
 all_goals (try simp only [band] at *)
 all_goals (try simp_all)
 all_goals grind
theorem c84 (hP:cx.P = Tryz.prog) (a b:Int) (h:AH):SimCall cx 84 [VI a,VI b] h fun r h'=>h' = h ∧ r = VI (cmpI a b):=by
 refine SimCall.gc ?_
 refine SimCall.by hP res84 ?_
 unfold x84 r84
 repeat' first
  | ((with_reducible show wx _ (XCode.cond _ _ _) _ _);refine wx_if rfl (fun _=>?_) (fun _=>?_))
  | ((with_reducible show SimCall _ 141 _ _ _);refine (c141' hP _ _).mono ?_;rintro r h' ⟨rfl,rfl⟩)
  | simp (maxSteps:=1000000) only [go_sem]
 all_goals first | exact ⟨more_one,plain_v _⟩ | exact ⟨more_nil,plain_v _⟩ | refine ⟨by first | exact more_one | exact more_nil,by first | exact plain_v _ | exact plain_tup (by simp [Plain.v]),?_⟩
 all_goals try simp only [decide_eq_true_eq,decide_eq_false_iff_not,Bool.not_eq_true',Bool.not_eq_false',AV.v.injEq,AV.tup.injEq,List.cons.injEq,Value.int.injEq,Value.bool.injEq,true_and,and_true] at *
 all_goals unfold cmpI
 all_goals (try simp only [band] at *)
 all_goals (try simp_all)
 all_goals grind
theorem c82 (hP:cx.P = Tryz.prog) {a b:Int} {h:AH} {id:Nat} (hrd:∀ g,AH.rd (h ++ g) id 0 = some [VI a,VI b]):SimCall cx 82 [.sl id 0 0 2 1] h fun r h'=>h' = h ∧ r = VI (if a = 0 then b else a):=by
 have hrd0:=hrd []
 rw [List.append_nil] at hrd0
 refine SimCall.gc ?_
 refine SimCall.by hP res82 ?_
 unfold x82 r82
 have h1:(0:Int) < ((2:Nat):Int):=by decide
 have h2:(1:Int) < ((2:Nat):Int):=by decide
 have h3:¬ (2:Int) < ((2:Nat):Int):=by decide
 have w1:IntKind.i64.wrap 1 = 1:=by decide
 have w2:IntKind.i64.wrap 2 = 2:=by decide
 repeat' first
  | ((with_reducible show wx _ (XCode.cond _ _ _) _ _);refine wx_if rfl (fun _=>?_) (fun _=>?_))
  | ((with_reducible show SimLoop _ _ _ _);refine SimLoop.go ?_)
  | simp (maxSteps:=1000000) only [go_sem,hrd0,h1,h2,h3,w1,w2,Int.reduceToNat,Nat.zero_mul,Nat.mul_one,List.getElem?_cons_zero,List.getElem?_cons_succ]
 all_goals rename_i e1
 ·refine ⟨more_nil,plain_v _,?_⟩
  rw [if_neg (by simpa using e1)]
 ·refine ⟨more_nil,plain_v _,?_⟩
  rename_i e2
  rw [if_pos (by simpa using e2)]
 ·refine ⟨more_nil,plain_v _,?_⟩
  rename_i e2
  rw [if_pos (by simpa using e2)]
  simp at e1
  rw [e1]
set_option maxRecDepth 100000 in
theorem c81 (hP:cx.P = Tryz.prog) {fs:List Fn} {fn:Nat → List AV} (hr:∀ (i:Nat) x,fs[i]? = some x → fn i = Fn.row x) {i j:Nat} {f g:Fn} (hi:fs[i]? = some f) (hj:fs[j]? = some g) :
 SimCall cx 81 [VI i,VI j,.rp [.un,.ro 4 fs.length fn]] [] fun r h'=>h' = [] ∧ r = VI (cmpF f g):=by
 have hil:i < fs.length:=(List.getElem?_eq_some_iff.1 hi).1
 have hjl:j < fs.length:=(List.getElem?_eq_some_iff.1 hj).1
 have hp1:xIad 4 (.ro 4 fs.length fn) (VI i) = some (.rp (Fn.row f)):=by simp [xIad,hil,hr i f hi]
 have hp2:xIad 4 (.ro 4 fs.length fn) (VI j) = some (.rp (Fn.row g)):=by simp [xIad,hjl,hr j g hj]
 have hq1:∀ (h:AH) x,xLda h 4 (.rp (Fn.row x)) = some (.agg (Fn.row x)):=fun _ _=>rfl
 have hf1:∀ a b:AV,xFad 1 (.rp [a,b]) = some (.rp [b]):=fun _ _=>rfl
 have hl1:∀ (h:AH) (a:AV),xLd1 h (.rp [a]) = some a:=fun _ _=>rfl
 refine SimCall.gc ?_
 refine SimCall.by hP res81 ?_
 unfold x81 r81
 repeat' first
  | ((with_reducible show dK _ 83 _ _ _);refine dK_of _ (c83 hP _ _ _) ?_)
  | ((with_reducible show dK _ 84 _ _ _);refine dK_of _ (c84 hP _ _ _) ?_)
  | ((with_reducible show dK _ 82 _ _ _);refine dK_of _ (c82 hP (fun _=>rfl)) ?_)
  | simp (maxSteps:=1000000) only [go_sem,hp1,hp2,hq1,hf1,hl1,true_and,implies_true,Fn.row,List.nil_append]
 exact ⟨⟨_,rfl⟩,plain_v _,rfl⟩
end Go.Tidy
namespace Go.Tidy
open Go Go.Eng Go.Proofs
variable {cx:Cx}
theorem cmpS_zero {a b:ByteArray}:cmpS a b = 0 ↔ a = b:=by
 unfold cmpS
 constructor
 ·intro h
  split at h
  ·omega
  ·split at h
   ·omega
   ·rename_i h1 h2
    simp [h1] at h2
    exact h2
 ·rintro rfl
  have:Op.bytesLess a.toList a.toList = false:=by rw [bytesLess_eq];simp [List.lt_irrefl]
  simp [this]
theorem cmpF_lt {f g:Fn}:cmpF f g < 0 ↔ f.name.toList < g.name.toList ∨ f.name = g.name ∧ f.obj < g.obj:=by
 unfold cmpF
 by_cases h:cmpS f.name g.name = 0
 ·rw [if_pos h]
  have he:=cmpS_zero.1 h
  have hn:¬ f.name.toList < g.name.toList:=by rw [he];exact List.lt_irrefl _
  unfold cmpI
  constructor
  ·intro h1
   refine .inr ⟨he,?_⟩
   split at h1
   ·assumption
   ·split at h1 <;> omega
  ·rintro (h1 | ⟨_,h1⟩)
   ·exact absurd h1 hn
   ·rw [if_pos h1];omega
 ·rw [if_neg h]
  have he:¬ f.name = g.name:=fun e=>h (cmpS_zero.2 e)
  unfold cmpS
  rw [bytesLess_eq]
  constructor
  ·intro h1
   split at h1
   ·rename_i h2;exact .inl (by simpa using h2)
   ·split at h1 <;> omega
  ·rintro (h1 | ⟨h1,_⟩)
   ·simp [h1]
   ·exact absurd h1 he
theorem str_ext {a b:ByteArray} (h:a.toList = b.toList):a = b:=by
 rw [Lib.toList_data,Lib.toList_data] at h
 exact ByteArray.ext (Array.toList_inj.1 h)
open Go.Sort in
theorem swoF {α:Type} (fa:α → Fn):SWO (ltOf fun x y=>cmpF (fa x) (fa y)) where
 irrefl x:=by
  unfold ltOf
  simp only [cmpF_lt,decide_eq_false_iff_not]
  rintro (h | h)
  ·exact List.lt_irrefl _ h
  ·omega
 trans x y z h1 h2:=by
  unfold ltOf at *
  simp only [cmpF_lt,decide_eq_true_eq] at *
  rcases h1 with h1 | ⟨e1,h1⟩ <;> rcases h2 with h2 | ⟨e2,h2⟩
  ·exact .inl (List.lt_trans h1 h2)
  ·exact .inl (by rw [← e2];exact h1)
  ·exact .inl (by rw [e1];exact h2)
  ·exact .inr ⟨e1.trans e2,by omega⟩
 ntrans x y z h1 h2:=by
  unfold ltOf at *
  simp only [cmpF_lt,decide_eq_false_iff_not,not_or,not_and] at *
  obtain ⟨a1,a2⟩:=h1
  obtain ⟨b1,b2⟩:=h2
  rw [List.not_lt] at a1 b1
  refine ⟨by rw [List.not_lt];exact List.le_trans b1 a1,fun e=>?_⟩
  have e1:(fa x).name.toList = (fa y).name.toList:=List.le_antisymm (by rw [e];exact b1) a1
  have e2:(fa y).name.toList = (fa z).name.toList:=by rw [← e1,e]
  have:=a2 (str_ext e1)
  have:=b2 (str_ext e2)
  omega
theorem rd_obj {h:AH} {id ver:Nat} {cs:List AV} (hrd:AH.rd h id ver = some cs):∃ o,h[id]? = some o ∧ o.ver = ver:=by
 unfold AH.rd at hrd
 split at hrd
 ·rename_i v c ho
  split at hrd
  ·rename_i e;exact ⟨_,ho,e⟩
  ·cases hrd
 ·rename_i c ho
  split at hrd
  ·rename_i e;exact ⟨_,ho,e.symm⟩
  ·cases hrd
 ·rename_i v f k ho
  split at hrd
  ·rename_i e;exact ⟨_,ho,e⟩
  ·cases hrd
 ·cases hrd
theorem rd_lies {φ:Phi} {h:AH} {w:World} {id ver b:Nat} {n:Nat × Nat} {cs:List AV} (hrd:AH.rd h id ver = some cs) (hφ:φ id ver = some (b,n)) (hW:RepW cx φ h w) :
 ∃ (ccs:Array Value) (T:TypeId) (fz:Nat × Nat),w.heap[b]? = some (.cells ccs T fz) ∧ cs.length ≤ ccs.size ∧ (∀ (k:Nat) x v,cs[k]? = some x → ccs[k]? = some v → Rep cx.w0 cx.B φ x v) ∧ ∀ (k:Nat) v,k < cs.length → ccs[k]? = some v → v.oneCell' = true:=by
 obtain ⟨q1,ccs,T,fz,q2,q3,q4,q5,q6⟩:=hW.rd_at hrd hφ
 rw [q1] at q3 q4
 exact ⟨ccs,T,fz,q2,by simp only at q3 q4;omega,q5,q6⟩
theorem SlT.lies {α:Type} {f:α → List AV} {sz:Nat} {φ:Phi} {h:AH} {w:World} {v:AV} {val:Value} {xs:List α} (hs:SlT f sz h v xs) (hfl:∀ x,(f x).length = sz) (hsz:0 < sz) (hx:0 < xs.length) (hv:Rep cx.w0 cx.B φ v val) (hW:RepW cx φ h w) :
 ∃ b o cap,val = .slice (some ⟨b,o,none⟩) xs.length cap ∧ xs.length ≤ cap ∧ b < w.heap.size ∧ (∀ (id:Nat) ob n,ob.isFam = false → h[id]? = some ob → φ id ob.ver = some (b,n) → v.at_ = some id) ∧
   ∀ (i k:Nat) x c,xs[i]? = some x → (f x)[k]? = some c → ∃ u,w.cell? ⟨b,o + i * sz + k,none⟩ = some u ∧ Rep cx.w0 cx.B φ c u ∧ u.oneCell' = true:=by
 cases hs with
 | sl id ver off cs xs hrd hc=>
   cases hv with
   | sl _ _ _ _ _ b n cap hφ h1 h2 h3 h4=>
     have hrd0:=hrd []
     rw [List.append_nil] at hrd0
     obtain ⟨ccs,T,fz,hb,hle,hrep,hone⟩:=rd_lies hrd0 hφ hW
     have hfit:=SlT.fit hfl hsz hc hx
     refine ⟨b,off,cap,rfl,h3,(hW.hi _ _ _ _ hφ).2,?_,?_⟩
     ·intro id' ob n' hof ho hφ'
      obtain ⟨o2,ho2,hv2⟩:=rd_obj hrd0
      have:=hW.inj2 (id:=id) (id':=id') hof ho2 ho (by rw [hv2];exact hφ) hφ'
      subst this
      rfl
     ·intro i k x c hi hk
      have hi':i < xs.length:=(List.getElem?_eq_some_iff.1 hi).1
      have hk':k < sz:=by rw [← hfl x];exact (List.getElem?_eq_some_iff.1 hk).1
      have hle2:i * sz + sz ≤ xs.length * sz:=by
       have:=Nat.mul_le_mul_right sz (show i + 1 ≤ xs.length by omega)
       rwa [Nat.succ_mul] at this
      have hcell:cs[off + i * sz + k]? = some c:=by
       rw [← hk,← cells_one hfl hi hk',← hc,List.getElem?_take_of_lt (by omega),List.getElem?_drop]
       congr 1
       omega
      have hlt:off + i * sz + k < ccs.size:=by omega
      refine ⟨ccs[off + i * sz + k],?_,hrep _ c _ hcell (Array.getElem?_eq_getElem hlt),hone _ _ (by omega) (Array.getElem?_eq_getElem hlt)⟩
      simp [World.cell?,hb,hlt]
 | ro fn xs hr=>
   cases hv with
   | ro _ _ _ A cap b o c hcap hA hf hc h1 h2=>
     obtain ⟨rfl,hbB⟩:=hA hx
     refine ⟨b,o,cap,rfl,hcap,by have:=hW.hB;omega,?_,?_⟩
     ·intro id' ob n _ ho hφ
      have:=(hW.hi _ _ _ _ hφ).1
      omega
     ·intro i k x c' hi hk
      have hi':i < xs.length:=(List.getElem?_eq_some_iff.1 hi).1
      have hk':k < sz:=by rw [← hfl x];exact (List.getElem?_eq_some_iff.1 hk).1
      refine ⟨c i k,by rw [hW.cell0 hbB];exact hc i k hi' hk',h2 i k c' hi' (by rw [hr i x hi];exact hk),h1 i k hi' hk'⟩
 | nl A c=>simp at hx
open Go.Sort in
theorem RepW.more {φ:Phi} {h:AH} {w:World} (hw:RepW cx φ h w) (os:Array Obj):RepW cx φ h (Go.Sort.grow w os) ∧ Step φ h w φ h (Go.Sort.grow w os):=by
 have hold:∀ k,k < w.heap.size → (Go.Sort.grow w os).heap[k]? = w.heap[k]?:=fun k hk=>heap_grow_old w os hk
 have hB:=hw.hB
 refine ⟨⟨hw.below.trans ⟨rfl,rfl,rfl,by simp,fun k hk=>hold k (by omega),Nat.le_refl _⟩,fun id o b n ho hb=>(hw.obj id o b n ho hb).mono (Ext.refl _) (hold b (hw.hi _ _ _ _ hb).2),hw.inj,hw.dom,fun id ver b n hb=>⟨(hw.hi id ver b n hb).1,?_⟩⟩,
  Ext.refl _,fun b hb _=>hold b hb,fun id o b n ho hb _=>⟨id,o,n,ho,hb⟩,by simp,Nat.le_refl _,fun _ _ hv=>hv⟩
 have:=(hw.hi id ver b n hb).2
 simp
 omega
open Go.Sort in
theorem world_of_blw {W w:World} (h:Blw W.heap.size W w):w = Go.Sort.grow (W.drewN (w.drawn - W.drawn)) (w.heap.extract W.heap.size w.heap.size):=by
 have hh:w.heap = W.heap ++ w.heap.extract W.heap.size w.heap.size:=by
  refine Array.ext_getElem? fun k=>?_
  rw [Array.getElem?_append]
  split
  ·rename_i hk;exact h.block k hk
  ·rename_i hk
   rw [Array.getElem?_extract]
   have:=h.size
   by_cases hk2:k < w.heap.size
   ·rw [if_pos (by omega)]
    congr 1
    omega
   ·rw [if_neg (by omega),Array.getElem?_eq_none (by omega)]
 have h1:=h.os
 have h2:=h.tape
 have h3:=h.output
 have h4:=h.drawn
 have h5:w.drawn = W.drawn + (w.drawn - W.drawn):=by omega
 generalize w.heap.extract W.heap.size w.heap.size = os' at *
 generalize w.drawn - W.drawn = q at *
 cases w
 simp only at h1 h2 h3 hh h5
 subst h1 h2 h3 hh h5
 rfl
theorem arr1 {vs:Array Value} (h:vs.size = 1):∃ a,vs = #[a]:=by
 refine ⟨vs[0],Array.ext (by simpa using h) fun k h1 h2=>?_⟩
 have:k = 0:=by omega
 subst this
 rfl
theorem arr2 {vs:Array Value} (h:vs.size = 2):∃ a b,vs = #[a,b]:=by
 refine ⟨vs[0],vs[1],Array.ext (by simpa using h) fun k h1 h2=>?_⟩
 have:k = 0 ∨ k = 1:=by omega
 rcases this with rfl | rfl <;> rfl
open Go.Sort in
theorem c80 (hO:On cx) {h:AH} {id ver imid imver:Nat} {xs:List Nat} {cs0:List AV} {fv:AV} {fs:List Fn} (hx:h[id]? = some (.cells ver (xs.map fun x=>VI (x:Nat)))) (hb:∀ x ∈ xs,x < fs.length) (hN:0 < fs.length) (hl:xs.length < 4611686018427387904)
 (him:AH.rd h imid imver = some cs0) (hfv:cs0[1]? = some fv) (hf:SlT Fn.row 4 h fv fs) (hne:imid ≠ id) (hnf:fv.at_ ≠ some id) :
 SimCall cx 80 [.sl id ver 0 xs.length 1,.fn 81 [.ptr imid imver 0]] h fun r h'=>∃ ys:List Nat,ys.Perm xs ∧ (∀ (i j yi yj:Nat) fi fj,i < j → ys[i]? = some yi → ys[j]? = some yj → fs[yi]? = some fi → fs[yj]? = some fj → ¬ cmpF fj fi < 0) ∧ r = .tup [] ∧ h' = h.set id (.cells ver (ys.map fun x=>VI (x:Nat))):=by
 have hcal:callable cx.P 80 = true:=by rw [hO.P];kernel_rfl
 have hcal81:callable Tryz.prog 81 = true:=by kernel_rfl
 refine ⟨hcal,fun φ w vs hlen hv hW=>?_⟩
 obtain ⟨v0,v1,rfl⟩:=arr2 (vs:=vs) (by simpa using hlen.symm)
 have r0:=hv 0 _ v0 rfl rfl
 have r1:=hv 1 _ v1 rfl rfl
 cases r0 with
 | sl _ _ _ _ _ b n cap hφ h1 h2 h3 h4=>
 cases r1 with
 | fn _ _ vs' hl' hr'=>
 obtain ⟨p,rfl⟩:=arr1 (vs:=vs') (by simpa using hl'.symm)
 have rp:=hr' 0 _ p rfl rfl
 cases rp with
 | ptr _ _ _ b0 n0 hφ0=>
 obtain ⟨q1,ccs,T,q2,q3,q4,q5,q6⟩:=hW.obj id _ b n hx hφ
 obtain ⟨ccs0,T0,fz0,w1,w2,w3,w4⟩:=rd_lies him hφ0 hW
 have hb0:=hW.hi _ _ _ _ hφ0
 have hbw:=hW.hi _ _ _ _ hφ
 have hbb0:b0 ≠ b:=by
  rintro rfl
  obtain ⟨o,ho,hov⟩:=rd_obj him
  exact hne (hW.inj2 (id:=imid) (id':=id) rfl ho hx (by rw [hov];exact hφ0) hφ)
 have h1c:1 < cs0.length:=(List.getElem?_eq_some_iff.1 hfv).1
 have h1l:1 < ccs0.size:=by omega
 obtain ⟨fval,hfval⟩:∃ fval,ccs0[1]? = some fval:=⟨_,Array.getElem?_eq_getElem h1l⟩
 obtain ⟨bf,of_,capf,rfl,hcapf,hbf,hinj,hcells⟩:=hf.lies (fun _=>rfl) (by omega) hN (w3 1 fv fval hfv hfval) hW
 have hbfb:bf ≠ b:=by
  rintro rfl
  exact hnf (hinj id _ n rfl hx hφ)
 obtain ⟨enc,henc⟩:∃ enc:Nat → Value,enc = fun x=>.int .i64 ((min x (fs.length - 1):Nat):Int):=⟨_,rfl⟩
 obtain ⟨fa,hfa0⟩:∃ fa:Nat → Fn,fa = fun x=>(fs[min x (fs.length - 1)]?).getD ⟨⟨#[]⟩,0,0,0⟩:=⟨_,rfl⟩
 have hfa:∀ x,fs[min x (fs.length - 1)]? = some (fa x):=by
  intro x
  have:min x (fs.length - 1) < fs.length:=by omega
  rw [hfa0]
  simp only [List.getElem?_eq_getElem this,Option.getD_some]
 have henc1:∀ x,x < fs.length → enc x = .int .i64 (x:Int):=by
  intro x hx
  rw [henc]
  have:min x (fs.length - 1) = x:=by omega
  simp only [this]
 have hone1:OneCell enc:=by rw [henc];exact fun _=>rfl
 have hget:∀ (k:Nat) x,xs[k]? = some x → ccs[k]? = some (.int .i64 (x:Int)):=by
  intro k x hk
  have hk':k < ccs.size:=by
   have:=(List.getElem?_eq_some_iff.1 hk).1
   simp only [List.length_map] at q4
   omega
  have:=q5 k (VI x) ccs[k] (by rw [List.getElem?_map,hk];rfl) (Array.getElem?_eq_getElem hk')
  rw [Array.getElem?_eq_getElem hk',rep_v this]
 have hH:Holds enc w b 0 xs.toArray:=by
  intro j hj
  have hj':j < xs.length:=by simpa using hj
  refine ⟨?_,by simp [World.frozen?,q2]⟩
  have:=hget j _ (List.getElem?_eq_getElem hj')
  rw [henc1 _ (by rw [getElem!_pos _ j hj];exact hb _ (by simp)),getElem!_pos _ j hj]
  simp [World.cell?,q2,this]
 have hcmp:CmpLays1 Tryz.prog 81 #[.pointer (some ⟨b0,0,none⟩)] enc (fun x y=>cmpF (fa x) (fa y)) b 0 xs.toArray.size w:=by
  intro m os dk hdk x y
  generalize hWd:sortWorld enc w b 0 m dk os = W
  have hWsz:w.heap.size ≤ W.heap.size:=by
   rw [← hWd];unfold sortWorld
   simp [putRow,mapBlock,Sort.ahead]
  have hWh:∀ k,k < w.heap.size → k ≠ b → W.heap[k]? = w.heap[k]?:=by
   intro k hk hkb
   rw [← hWd];unfold sortWorld
   rw [heap_grow_old _ _ (by simpa [putRow,mapBlock,Sort.ahead] using hk)]
   simp only [putRow,mapBlock,Array.getElem?_modify]
   rw [if_neg (fun e=>hkb e.symm)]
   rfl
  have hWc:∀ k o,k < w.heap.size → k ≠ b → W.cell? ⟨k,o,none⟩ = w.cell? ⟨k,o,none⟩:=by
   intro k o hk hkb
   simp only [World.cell?,hWh k hk hkb]
  obtain ⟨cxW,hcx⟩:∃ cxW:Cx,cxW = ⟨Tryz.prog,W,W.heap.size,fun _=>none,Nat.le_refl _,by intro _ _ _ h;cases h⟩:=⟨_,rfl⟩
  have hcP:cxW.P = Tryz.prog:=by rw [hcx]
  have hcw:cxW.w0 = W:=by rw [hcx]
  have hcB:cxW.B = W.heap.size:=by rw [hcx]
  obtain ⟨F,hFd⟩:∃ F:AV,F = .ro 4 fs.length (fun i=>((fs[i]?).map Fn.row).getD []):=⟨_,rfl⟩
  have hR:RepW cxW (fun _ _=>none) [] W:=⟨by rw [hcw];exact Blw.refl _ _,by intro id o b n ho;simp at ho,by intro id id' o o' b n n' ho;simp at ho,by intro id ver r hr;simp at hr,by intro id ver b n hr;simp at hr⟩
  have hF:Rep cxW.w0 cxW.B (fun _ _=>none) F (.slice (some ⟨bf,of_,none⟩) fs.length capf):=by
   rw [hFd,hcw,hcB]
   have hc2:∀ i k,i < fs.length → k < 4 → ∃ (x:Fn) (z:Value),fs[i]? = some x ∧ (Fn.row x)[k]? = some (.v z) ∧ W.cell? ⟨bf,of_ + i * 4 + k,none⟩ = some z ∧ z.oneCell' = true:=by
    intro i k hi hk
    have hfi:=List.getElem?_eq_getElem hi
    obtain ⟨z,hz⟩:∃ z,(Fn.row fs[i])[k]? = some (.v z):=by
     match k,hk with
     | 0,_=>exact ⟨_,rfl⟩
     | 1,_=>exact ⟨_,rfl⟩
     | 2,_=>exact ⟨_,rfl⟩
     | 3,_=>exact ⟨_,rfl⟩
    obtain ⟨u,hu,hru,hou⟩:=hcells i k _ _ hfi hz
    have:=rep_v hru
    subst this
    exact ⟨_,u,hfi,hz,by rw [hWc _ _ hbf hbfb];exact hu,hou⟩
   refine .ro 4 fs.length _ _ capf bf of_ (fun i k=>(W.cell? ⟨bf,of_ + i * 4 + k,none⟩).getD undef) hcapf (fun _=>⟨rfl,by omega⟩) ?_ ?_ ?_ ?_
   ·intro i hi
    rw [List.getElem?_eq_getElem hi]
    rfl
   ·intro i k hi hk
    obtain ⟨x,z,_,_,hz,_⟩:=hc2 i k hi hk
    rw [hz];rfl
   ·intro i k hi hk
    obtain ⟨x,z,_,_,hz,h1⟩:=hc2 i k hi hk
    rw [hz];exact h1
   ·intro i k c hi hc
    have hfi:=List.getElem?_eq_getElem hi
    rw [hfi] at hc
    have hk:k < 4:=(List.getElem?_eq_some_iff.1 hc).1
    obtain ⟨x,z,hx,hz,hz2,_⟩:=hc2 i k hi hk
    rw [hfi] at hx
    cases hx
    simp only [Option.map_some,Option.getD_some] at hc
    rw [hz] at hc
    cases hc
    rw [hz2]
    exact .v _
  have hC:Rep cxW.w0 cxW.B (fun _ _=>none) (.rp [.un,F]) (.pointer (some ⟨b0,0,none⟩)):=by
   have hc2:∀ k,W.cell? ⟨b0,0 + k,none⟩ = ccs0[k]?:=by
    intro k
    rw [hWc _ _ hb0.2 hbb0]
    simp [World.cell?,w1]
   rw [hcw,hcB]
   rw [hcw,hcB] at hF
   refine .rp _ b0 0 (fun k=>(W.cell? ⟨b0,0 + k,none⟩).getD undef) (by omega) ?_ ?_ ?_
   ·intro k hk
    simp only [List.length_cons,List.length_nil] at hk
    rw [hc2,Array.getElem?_eq_getElem (by omega)]
    rfl
   ·intro k hk
    simp only [List.length_cons,List.length_nil] at hk
    have hk2:k < ccs0.size:=by omega
    simp only [hc2,Array.getElem?_eq_getElem hk2,Option.getD_some]
    exact w4 k _ (by omega) (Array.getElem?_eq_getElem hk2)
   ·intro k c hc
    match k with
    | 0=>simp at hc;subst hc;exact .un _
    | 1=>
      simp at hc;subst hc
      simp only [hc2,hfval,Option.getD_some]
      exact hF
    | k + 2=>simp at hc
  have hcall:=(c81 (cx:=cxW) hcP (fs:=fs) (fn:=fun i=>((fs[i]?).map Fn.row).getD []) (fun i x hx=>by simp only [hx,Option.map_some,Option.getD_some]) (hfa x) (hfa y)).2 (fun _ _=>none) W (#[enc x,enc y] ++ #[.pointer (some ⟨b0,0,none⟩)]) (by simp) (by
   intro k a v ha hv
   match k with
   | 0=>simp at ha hv;subst ha;subst hv;rw [henc];exact .v _
   | 1=>simp at ha hv;subst ha;subst hv;rw [henc];exact .v _
   | 2=>simp at ha hv;subst ha;subst hv;rw [← hFd];exact hC
   | k + 3=>simp at ha) hR
  rw [hcP] at hcall
  refine hcall.mono ?_
  rintro e w2 ⟨v,r,h',φ',rfl,hr1,hr2,hr3,rfl,rfl⟩
  have:=rep_v hr1
  subst this
  have hbl:=hr2.below
  rw [hcw,hcB] at hbl
  exact ⟨rfl,_,_,world_of_blw hbl⟩
 have hcon:=Any.slices_SortFunc lays80 enc hone1 (fun x y=>cmpF (fa x) (fa y)) (swoF fa) 81 #[.pointer (some ⟨b0,0,none⟩)] b 0 cap xs.toArray w (fun args w=>callFunc_run hcal81 args w) hcmp hH hbw.2 (by simpa using hl)
 change Calls Tryz.prog 80 _ _ _ at hcon
 rw [hO.P]
 refine hcon.mono ?_
 rintro e w' ⟨rfl,d',n',os,hperm,hsorted,rfl⟩
 obtain ⟨hp1,_,hp3⟩:=hperm
 have hp4:d'.toList.Perm xs:=by
  have e1:d'.extract 0 xs.toArray.size = d':=by rw [← hp1];exact Array.extract_size
  have e2:xs.toArray.extract 0 xs.toArray.size = xs.toArray:=Array.extract_size
  rw [e1,e2] at hp3
  simpa using hp3
 have hsz:d'.size = xs.length:=by simpa using hp1
 have hput:Puts w b (.cells (putCells enc 0 d' ccs) T (0,0)) (putRow enc (Sort.ahead w n') b 0 d'):=by
  refine ⟨by simp [putRow,mapBlock,Sort.ahead],?_,?_,rfl,rfl,rfl,Nat.le_add_right _ _⟩
  ·simp [putRow,mapBlock,Sort.ahead,Array.getElem?_modify,q2,onCells]
  ·intro k hk
   simp only [putRow,mapBlock,Array.getElem?_modify]
   rw [if_neg (fun e=>hk e.symm)]
   rfl
 obtain ⟨g1,g2⟩:=hW.put (n:=n) hx rfl (o':=.cells ver (d'.toList.map fun x=>VI (x:Nat))) rfl hφ hput (by
  simp only [List.length_map] at q1 q4 q6
  refine ⟨by rw [q1];simp [hsz],_,T,hput.at_,by simpa [putCells] using q3,by simpa [hsz] using q4,?_,?_⟩
  ·intro k a v ha hv
   rw [List.getElem?_map,Option.map_eq_some_iff] at ha
   obtain ⟨y,hy,rfl⟩:=ha
   have hk:k < d'.size:=by
    have:=(List.getElem?_eq_some_iff.1 hy).1
    simpa using this
   have hyN:y < fs.length:=hb y (hp4.mem_iff.1 (List.mem_of_getElem? hy))
   simp only [putCells,Array.getElem?_mapIdx] at hv
   rw [Array.getElem?_eq_getElem (by omega)] at hv
   simp only [Option.map_some,Option.some.injEq] at hv
   rw [if_pos ⟨Nat.zero_le _,by omega⟩,Nat.sub_zero,getElem!_pos _ k hk] at hv
   have:d'[k] = y:=by
    rw [Array.getElem?_toList,Array.getElem?_eq_getElem hk] at hy
    simpa using hy
   rw [this,henc1 y hyN] at hv
   subst hv
   exact .v _
  ·intro k v hk hv
   have hk:k < d'.size:=by simpa using hk
   simp only [putCells,Array.getElem?_mapIdx] at hv
   rw [Array.getElem?_eq_getElem (by omega)] at hv
   simp only [Option.map_some,Option.some.injEq] at hv
   rw [if_pos ⟨Nat.zero_le _,by omega⟩,henc] at hv
   subst hv
   rfl)
 obtain ⟨k1,k2⟩:=RepW.more g1 os
 refine ⟨.tuple #[],.tup [],_,φ,rfl,.tup _ _ rfl (fun k x v hx=>by simp at hx),k1,g2.trans k2,d'.toList,hp4,?_,rfl,rfl⟩
 intro i j yi yj fi fj hij hi hj hfi hfj hlt
 have hi1:=(List.getElem?_eq_some_iff.1 hi)
 have hj1:=(List.getElem?_eq_some_iff.1 hj)
 obtain ⟨hi1,hi2⟩:=hi1
 obtain ⟨hj1,hj2⟩:=hj1
 simp only [Array.length_toList] at hi1 hj1
 have hs:=hsorted i j (Nat.zero_le _) hij (by simp only [List.size_toArray];omega)
 rw [getElem!_pos d' j hj1,getElem!_pos d' i hi1] at hs
 simp only [Array.getElem_toList] at hi2 hj2
 rw [hi2,hj2] at hs
 have e1:=hfa yi
 have e2:=hfa yj
 have l1:=(List.getElem?_eq_some_iff.1 hfi).1
 have l2:=(List.getElem?_eq_some_iff.1 hfj).1
 rw [Nat.min_eq_left (by omega),hfi] at e1
 rw [Nat.min_eq_left (by omega),hfj] at e2
 cases e1
 cases e2
 unfold ltOf at hs
 exact of_decide_eq_false hs hlt
end Go.Tidy
namespace Go.Tidy
open Go Go.Eng Go.Proofs
def aheadB (f g:Fn):Bool:=Op.bytesLess f.name.toList g.name.toList || (decide (f.name = g.name) && decide (f.obj < g.obj))
theorem aheadB_cmp {f g:Fn}:aheadB f g = true ↔ cmpF f g < 0:=by
 unfold aheadB cmpF cmpS cmpI
 grind
theorem aheadB_lt {f g:Fn}:aheadB f g = true ↔ (f.name.toList < g.name.toList ∨ f.name = g.name ∧ f.obj < g.obj):=aheadB_cmp.trans cmpF_lt
theorem aheadB_irr (f:Fn):aheadB f f = false:=by
 cases h:aheadB f f with
 | false=>rfl
 | true=>
   rcases aheadB_lt.1 h with h | ⟨_,h⟩
   ·exact absurd h (List.lt_irrefl _)
   ·omega
theorem aheadB_trans {f g k:Fn} (h1:aheadB f g = true) (h2:aheadB g k = true):aheadB f k = true:=by
 rw [aheadB_lt] at *
 rcases h1 with h1 | ⟨e1,h1⟩ <;> rcases h2 with h2 | ⟨e2,h2⟩
 ·exact .inl (List.lt_trans h1 h2)
 ·exact .inl (by rw [← e2];exact h1)
 ·exact .inl (by rw [e1];exact h2)
 ·exact .inr ⟨e1.trans e2,by omega⟩
theorem aheadB_tot {f g:Fn} (h1:aheadB f g = false) (h2:aheadB g f = false):f.name = g.name ∧ f.obj = g.obj:=by
 have h1:¬ aheadB f g = true:=by rw [h1];simp
 have h2:¬ aheadB g f = true:=by rw [h2];simp
 rw [aheadB_lt] at h1 h2
 have a1:¬ f.name.toList < g.name.toList:=fun q=>h1 (.inl q)
 have a2:¬ g.name.toList < f.name.toList:=fun q=>h2 (.inl q)
 rw [List.not_lt] at a1 a2
 have e:=str_ext (List.le_antisymm a2 a1)
 have b1:¬ f.obj < g.obj:=fun q=>h1 (.inr ⟨e,q⟩)
 have b2:¬ g.obj < f.obj:=fun q=>h2 (.inr ⟨e.symm,q⟩)
 exact ⟨e,by omega⟩
theorem namesF_seen:∀ (l seen:List (ByteArray × Int)),namesF seen l = true → ∀ k ∈ seen,k ∉ l
 | [],_,_,_,_=>by simp
 | q :: r,seen,h,k,hk=>by
   simp only [namesF,Bool.and_eq_true,Bool.not_eq_true'] at h
   obtain ⟨⟨_,h1⟩,h2⟩:=h
   have h3:=namesF_seen r (seen ++ [q]) h2 k (by simp [hk])
   intro hm
   rcases List.mem_cons.1 hm with rfl | hm
   ·have:(seen.any fun p=>decide (p.1 = k.1) && decide (p.2 = k.2)) = true:=List.any_eq_true.2 ⟨k,hk,by simp⟩
    rw [this] at h1
    cases h1
   ·exact h3 hm
theorem namesF_nodup:∀ (l seen:List (ByteArray × Int)),namesF seen l = true → l.Nodup
 | [],_,_=>List.nodup_nil
 | q :: r,seen,h=>by
   simp only [namesF,Bool.and_eq_true] at h
   exact List.nodup_cons.2 ⟨namesF_seen r _ h.2 q (by simp),namesF_nodup r _ h.2⟩
noncomputable def brkF (im:Img) (f:Fn):Int:=(brkL im.funcs.length im.tables.length (body im.text f) 0 (body im.text f)).2
theorem brkF_zero {im:Img} {f:Fn} (hne:0 < (body im.text f).length):brkF im f = 0 ↔ BodyOk im.funcs.length im.tables.length (body im.text f):=by
 unfold brkF
 rw [brkL_zero,bodyOk_iff hne]
 simp only [Nat.zero_add]
def ErrV (im:Img) (e:Int):Prop:=
 (imgB im = false ∧ e = 190) ∨ (imgB im = true ∧
  ((∃ (y:Nat) (f:Fn),im.funcs[y]? = some f ∧ brkF im f ≠ 0 ∧ (∀ (z:Nat) g,im.funcs[z]? = some g → brkF im g ≠ 0 → aheadB g f = false) ∧ e = brkF im f) ∨
    ((∀ f ∈ im.funcs,brkF im f = 0) ∧ ((RankOk (im.funcs.map fun f=>callsOf (body im.text f)) ∧ e = 0) ∨ (¬ RankOk (im.funcs.map fun f=>callsOf (body im.text f)) ∧ e = 198)))))
theorem ErrV.uniq {im:Img} {e e':Int} (h:ErrV im e) (h':ErrV im e'):e = e':=by
 rcases h with ⟨h1,rfl⟩ | ⟨h1,h⟩
 ·rcases h' with ⟨_,rfl⟩ | ⟨h2,_⟩
  ·rfl
  ·rw [h1] at h2;cases h2
 ·rcases h' with ⟨h2,_⟩ | ⟨_,h'⟩
  ·rw [h1] at h2;cases h2
  rcases h with ⟨y,f,hy,hb,hm,rfl⟩ | ⟨hg,h⟩
  ·rcases h' with ⟨z,g,hz,hb',hm',rfl⟩ | ⟨hg,_⟩
   ·have:=aheadB_tot (hm z g hz hb') (hm' y f hy hb)
    have hnd:=namesF_nodup _ _ (imgB_ok.1 h1).fnames
    have e1:(im.funcs.map fun f=>(f.name,f.obj))[y]? = some (f.name,f.obj):=by rw [List.getElem?_map,hy];rfl
    have e2:(im.funcs.map fun f=>(f.name,f.obj))[z]? = some (f.name,f.obj):=by rw [List.getElem?_map,hz];simp [this.1,this.2]
    have hyz:y = z:=by
     have l1:=(List.getElem?_eq_some_iff.1 e1).1
     exact (List.getElem?_inj l1 hnd).1 (e1.trans e2.symm)
    subst hyz
    rw [hy] at hz
    cases hz
    rfl
   ·exact absurd (hg f (List.mem_of_getElem? hy)) hb
  ·rcases h' with ⟨z,g,hz,hb',hm',rfl⟩ | ⟨_,h'⟩
   ·exact absurd (hg g (List.mem_of_getElem? hz)) hb'
   rcases h with ⟨a,rfl⟩ | ⟨a,rfl⟩ <;> rcases h' with ⟨b,rfl⟩ | ⟨b,rfl⟩
   ·rfl
   ·exact absurd a b
   ·exact absurd b a
   ·rfl
theorem ErrV.zero {im:Img} {e:Int} (h:ErrV im e) (hne:imgB im = true → ∀ f ∈ im.funcs,0 < (body im.text f).length):e = 0 ↔ VOk (tabsB 0) im:=by
 rcases h with ⟨h1,rfl⟩ | ⟨h1,h⟩
 ·refine ⟨(fun q=>by cases q),fun q=>?_⟩
  rw [imgB_ok.2 q.img] at h1
  cases h1
 have hne:=hne h1
 rcases h with ⟨y,f,hy,hb,hm,rfl⟩ | ⟨hg,h⟩
 ·refine ⟨fun q=>absurd q hb,fun q=>?_⟩
  have hf:=List.mem_of_getElem? hy
  exact (brkF_zero (hne f hf)).2 (q.bodies f hf)
 ·have hbod:∀ f ∈ im.funcs,BodyOk im.funcs.length im.tables.length (body im.text f):=fun f hf=>(brkF_zero (hne f hf)).1 (hg f hf)
  rcases h with ⟨a,rfl⟩ | ⟨a,rfl⟩
  ·exact ⟨fun _=>⟨imgB_ok.1 h1,hbod,a⟩,fun _=>rfl⟩
  ·exact ⟨(fun q=>by cases q),fun q=>absurd q.rank a⟩
end Go.Tidy
namespace Go.Tidy
open Go Go.Eng Go.Proofs
variable {cx:Cx}
theorem funcsB_mem (n:Int):∀ (fs:List Fn) (at_:Int),0 ≤ at_ → funcsB n at_ fs = true → ∀ f ∈ fs,0 ≤ f.first ∧ 1 ≤ f.count ∧ f.first + f.count ≤ n
 | [],_,_,_,f,hf=>by simp at hf
 | f :: r,at_,h0,h,g,hg=>by
   simp only [funcsB,Bool.and_eq_true,decide_eq_true_eq] at h
   obtain ⟨⟨⟨h1,h2⟩,h3⟩,h4⟩:=h
   rcases List.mem_cons.1 hg with rfl | hg
   ·omega
   ·exact funcsB_mem n r _ (by omega) h4 g hg
theorem far_held {i:Ins} (h:heldB i = true):-9000000000000000000 ≤ i.far ∧ i.far ≤ 9000000000000000000:=by
 unfold heldB at h
 unfold Ins.far
 simp only [Bool.and_eq_true,Bool.or_eq_true,decide_eq_true_eq] at h
 split <;> omega
theorem body_len {text:List Ins} {f:Fn} (h0:0 ≤ f.first) (h1:1 ≤ f.count) (h2:f.first + f.count ≤ text.length):((body text f).length:Int) = f.count:=by
 unfold body
 rw [List.length_take,List.length_drop]
 omega
theorem SlT.at_lt {α:Type} {f:α → List AV} {sz:Nat} {h:AH} {v:AV} {xs:List α} (s:SlT f sz h v xs) {id:Nat} (hid:v.at_ = some id):id < h.length:=by
 cases s with
 | sl id' ver off cs xs hrd hc=>
   cases hid
   have:=hrd []
   rw [List.append_nil] at this
   exact rd_lt this
 | ro fn xs hr=>cases hid
 | nl A c=>cases hid
theorem dK_app {g:FuncId} {args:List AV} {h:AH} {Kd:AV → AH → Prop} (r:AV) (g':AH) (hc:SimCall cx g args h fun r2 h2=>r2 = r ∧ h2 = h ++ g') (hk:Kd r g'):dK cx g args h Kd:=⟨r,g',hc,hk⟩
set_option maxRecDepth 100000 in
set_option maxHeartbeats 2000000 in
theorem c34 (hO:On cx) {h:AH} {im:Img} {tv fv bv:AV} (hr:ImgR h tv fv bv im) :
 SimCall cx 34 [.agg [tv,fv,bv,VI im.entry]] h fun r h'=>h' = h ∧ ∃ i at_ e:Int,r = .tup [VI i,VI at_,VI e] ∧ ErrV im e:=by
 have c1:=hr.text.cell
 have c2:=hr.funcs.cell
 have c3:=hr.tables.cell
 have hnf:=hr.nf
 have h00:(0:Int) ≤ im.funcs.length:=by omega
 have h8:(im.funcs.length:Int) * ((8:Nat):Int) ≤ 281474976710656:=by omega
 have hbig:(im.funcs.length:Int) < 9223372036854775808:=by omega
 have hfl:∀ n:Nat,(List.replicate n [VI 0]).flatten = (List.replicate n 0).map fun x:Nat=>VI (x:Nat):=by
  intro n
  induction n with
  | zero=>rfl
  | succ n ih=>rw [List.replicate_succ,List.flatten_cons,ih];rfl
 refine SimCall.gc ?_
 refine SimCall.by hO.P res34 ?_
 unfold x34 r34
 repeat' first
  | simp (maxSteps:=1000000) only [go_sem,c1,c2,c3]
 refine (c79 hO im tv fv bv _ (hr.more _)).mono ?_
 rintro r h' ⟨rfl,x0,e0,rfl,he0⟩
 repeat' first
  | ((with_reducible show wx _ (XCode.cond _ _ _) _ _);refine wx_if rfl (fun _=>?_) (fun _=>?_))
  | simp (maxSteps:=1000000) only [go_sem,c1,c2,c3,hr.funcs.len,h00,h8,hbig,Int.le_refl,Int.toNat_natCast,hfl]
 ·rename_i e
  refine ⟨more_one,plain_tup (by simp [Plain.v]),_,_,_,rfl,?_⟩
  simp at e
  refine .inl ⟨?_,rfl⟩
  cases hib:imgB im with
  | false=>rfl
  | true=>exact absurd (he0.2 hib) e
 rename_i e
 have hib:imgB im = true:=he0.1 (by simpa using e)
 have hok:ImgOk (tabsB 0) im:=imgB_ok.1 hib
 have hfs:=funcsB_mem _ _ 0 (by omega) hok.funcs
 have hNN:0 < im.funcs.length:=by have:=hok.entry;omega
 have hbody:∀ (y:Nat) f,im.funcs[y]? = some f → 0 < (body im.text f).length:=by
  intro y f hf
  obtain ⟨q1,q2,q3⟩:=hfs f (List.mem_of_getElem? hf)
  have:=body_len q1 q2 q3
  omega
 refine SimLoop.inv [1,5,21,0] (fun k s=>∃ (i:Nat) (xs:List Nat),k = im.funcs.length - i ∧ i ≤ im.funcs.length ∧ xs = List.range i ++ List.replicate (im.funcs.length - i) 0 ∧
  s = ⟨[.un,.ptr h.length 0 0,.un,.un,.un,.un,.un,.sl (h.length + 1) 0 0 im.funcs.length 1,.un,.un,.un,.un,.un,.un,.un,.un,.un,.un,.un,.un,.un,.un,.un,.un,.un,.un,.un,.un,.un,VI im.funcs.length,VI i,.un,.un,.un,.un,.un,.un,.un,.un,.un,.un,.un,.un,.un,.un,.un,.un,.un,.un,.un,.un,.un,.un,.un,.un,.un,.un,.un,.un,.un,.un,.un,.un,.un,.un,.un,.un,.un,.un,.un,.un,.un,.un,.un,.un,.un,.un,.un,.un,.un,.un,.un],h ++ [.cells 0 [tv,fv,bv,VI im.entry],.cells 0 (xs.map fun x:Nat=>VI (x:Nat))]⟩) ?_ im.funcs.length ?_
 rotate_left
 ·exact ⟨0,List.replicate im.funcs.length 0,rfl,Nat.zero_le _,rfl,by simp only [go_sem];rfl⟩
 rintro k s ⟨i,xs,rfl,hi,hxs,rfl⟩
 have hxl:xs.length = im.funcs.length:=by rw [hxs];simp;omega
 by_cases hlt:i < im.funcs.length
 ·have hlt':((i:Int) < im.funcs.length):=by omega
  have hw:=wrap_succ hlt (by omega)
  have hil:i + 1 ≤ (xs.map fun x:Nat=>VI (x:Nat)).length:=by rw [List.length_map];omega
  have h0i:(0:Int) ≤ i:=by omega
  have hss:(xs.map fun x:Nat=>VI (x:Nat)).take i ++ VI i :: (xs.map fun x:Nat=>VI (x:Nat)).drop (i + 1) = (xs.set i i).map fun x:Nat=>VI (x:Nat):=by
   rw [set_mid _ (by omega),List.map_set]
  repeat' first
   | simp (maxSteps:=1000000) only [go_sem,hlt',hw,h0i,hil,hss,Int.toNat_natCast,Nat.mul_one,Nat.zero_add]
  refine ⟨im.funcs.length - (i + 1),by omega,i + 1,_,rfl,by omega,?_,rfl⟩
  rw [hxs,List.range_succ,List.append_assoc]
  refine List.ext_getElem? fun k=>?_
  by_cases hk:k = i
  ·subst hk
   rw [List.getElem?_set_self (by simp;omega),List.getElem?_append_right (by simp)]
   simp
  ·rw [List.getElem?_set_ne (fun e=>hk e.symm)]
   by_cases hk2:k < i
   ·rw [List.getElem?_append_left (by simpa using hk2),List.getElem?_append_left (by simpa using hk2)]
   ·rw [List.getElem?_append_right (by simp;omega),List.getElem?_append_right (by simp;omega),List.getElem?_append_right (by simp;omega)]
    simp only [List.length_range,List.length_singleton,List.getElem?_replicate]
    by_cases hk3:k < im.funcs.length
    ·rw [if_pos (by omega),if_pos (by omega)]
    ·rw [if_neg (by omega),if_neg (by omega)]
 have hlt':¬ ((i:Int) < im.funcs.length):=by omega
 have hxr:xs = List.range im.funcs.length:=by
  rw [hxs,show i = im.funcs.length by omega]
  simp
 subst hxr
 have h80:=c80 hO (h:=h ++ [.cells 0 [tv,fv,bv,VI im.entry],.cells 0 ((List.range im.funcs.length).map fun x:Nat=>VI (x:Nat))]) (id:=h.length + 1) (ver:=0) (imid:=h.length) (imver:=0) (xs:=List.range im.funcs.length) (fs:=im.funcs) (fv:=fv)
  (cs0:=[tv,fv,bv,VI im.entry]) (by simp) (by simp) hNN (by simp;omega) (by simp only [go_sem]) rfl (hr.funcs.more _) (by omega) (by
   intro hc
   have:=hr.funcs.at_lt hc
   omega)
 rw [List.length_range] at h80
 repeat' first
  | simp (maxSteps:=1000000) only [go_sem,hlt']
 refine h80.mono ?_
 rintro r h' ⟨ys,hperm,hsort,rfl,rfl⟩
 have hset:(h ++ [AO.cells 0 [tv,fv,bv,VI im.entry],AO.cells 0 ((List.range im.funcs.length).map fun x:Nat=>VI (x:Nat))]).set (h.length + 1) (.cells 0 (ys.map fun x:Nat=>VI (x:Nat))) =
  h ++ [AO.cells 0 [tv,fv,bv,VI im.entry],AO.cells 0 (ys.map fun x:Nat=>VI (x:Nat))]:=by
  simp [List.set_append]
 rw [hset]
 have hyl:ys.length = im.funcs.length:=by rw [hperm.length_eq,List.length_range]
 have hyn:∀ (j:Nat) y,ys[j]? = some y → y < im.funcs.length:=by
  intro j y hy
  have:=hperm.mem_iff.1 (List.mem_of_getElem? hy)
  simpa using this
 have hcov:∀ y,y < im.funcs.length → ∃ j,j < im.funcs.length ∧ ys[j]? = some y:=by
  intro y hy
  obtain ⟨j,hj⟩:=List.mem_iff_getElem?.1 (hperm.mem_iff.2 (List.mem_range.2 hy))
  exact ⟨j,by rw [← hyl];exact (List.getElem?_eq_some_iff.1 hj).1,hj⟩
 clear h80 hset
 repeat' first
  | ((with_reducible show SimCall _ 85 _ _ _);refine (c85 hO _).mono ?_;rintro r h' ⟨rfl,rfl⟩)
  | simp (maxSteps:=1000000) only [go_sem,c1,c2,c3]
 have hp:∀ g:AH,h ++ AO.cells 0 [tv,fv,bv,VI im.entry] :: AO.cells 0 (ys.map fun x:Nat=>VI (x:Nat)) :: AO.cells 0 rulesC :: g = h ++ (AO.cells 0 [tv,fv,bv,VI im.entry] :: AO.cells 0 (ys.map fun x:Nat=>VI (x:Nat)) :: AO.cells 0 rulesC :: g):=fun _=>rfl
 refine SimLoop.inv [1,5,1,32,0,0] (fun k s=>∃ (i:Nat) (G:AH),k = im.funcs.length - i ∧ i ≤ im.funcs.length ∧ (∀ (j:Nat) y f,j < i → ys[j]? = some y → im.funcs[y]? = some f → BodyOk im.funcs.length im.tables.length (body im.text f)) ∧
  s = ⟨[.un,.ptr h.length 0 0,.un,.un,.un,.un,.un,.sl (h.length + 1) 0 0 im.funcs.length 1,.un,.sl (h.length + 2) 0 0 7 2,.un,.un,.un,.un,.un,.un,.un,.un,.un,.un,.un,.un,.un,.un,.un,.un,.un,.un,.un,.un,.un,.un,.un,.un,.un,.un,.un,.un,.un,.un,.un,.un,.sl (h.length + 1) 0 0 im.funcs.length 1,VI im.funcs.length,VI i,.un,.un,.un,.un,.un,.un,.un,.un,.un,.un,.un,.un,.un,.un,.un,.un,.un,.un,.un,.un,.un,.un,.un,.un,.un,.un,.un,.un,.un,.un,.un,.un,.un,.un,.un,.un,.un],h ++ (.cells 0 [tv,fv,bv,VI im.entry] :: .cells 0 (ys.map fun x:Nat=>VI (x:Nat)) :: .cells 0 rulesC :: G)⟩) ?_ im.funcs.length ?_
 rotate_left
 ·exact ⟨0,[],rfl,Nat.zero_le _,fun j y f hj=>absurd hj (by omega),by simp only [go_sem];rfl⟩
 clear i hi hlt hlt' hxs hxl
 rintro k s ⟨i,G,rfl,hi,hgood,rfl⟩
 by_cases hlt:i < im.funcs.length
 ·obtain ⟨y,hy⟩:∃ y,ys[i]? = some y:=⟨_,List.getElem?_eq_getElem (by omega)⟩
  have hyb:=hyn i y hy
  have hym:(ys.map fun x:Nat=>VI (x:Nat))[i]? = some (VI y):=by rw [List.getElem?_map,hy];rfl
  have hlt':((i:Int) < im.funcs.length):=by omega
  have hw:=wrap_succ hlt (by omega)
  have h0i:(0:Int) ≤ i:=by omega
  obtain ⟨q,hq1,hq2,hq3,_⟩:=hr.funcs.get Fn.len (by decide) (List.getElem?_eq_getElem hyb)
  have hfi:=List.getElem?_eq_getElem hyb
  obtain ⟨e1,e2,e3⟩:=hfs _ (List.getElem_mem hyb)
  generalize im.funcs[y] = f at hq1 hq2 hq3 hfi e1 e2 e3
  obtain ⟨bodyv,hs1,hs2⟩:=hr.text.sls (a:=f.first) (b:=f.first + f.count) Ins.len e1 (by omega) e3
  have hbe:(im.text.drop f.first.toNat).take ((f.first + f.count).toNat - f.first.toNat) = body im.text f:=by
   unfold body
   congr 1
   omega
  rw [hbe] at hs2
  have hbl:(body im.text f).length ≤ im.text.length:=by unfold body;simp;omega
  have hne:=hbody y f hfi
  have hhd:∀ x ∈ body im.text f,heldB x = true:=by
   intro x hx
   unfold body at hx
   exact hok.held x (List.mem_of_mem_drop (List.mem_of_mem_take hx))
  generalize hbd:body im.text f = is at hs2 hbl hne hhd
  have hr2:=hr.more (.cells 0 [tv,fv,bv,VI im.entry] :: .cells 0 (ys.map fun x:Nat=>VI (x:Nat)) :: .cells 0 rulesC :: G)
  have hs22:=hs2.more (.cells 0 [tv,fv,bv,VI im.entry] :: .cells 0 (ys.map fun x:Nat=>VI (x:Nat)) :: .cells 0 rulesC :: G)
  have h86:=c86 hO hr2 f e1 e2 e3 hs1 hs22 hbl
  have hlk:=look_ok hr2 f hs22 hbl hne
  generalize hLH:lookH (h ++ (.cells 0 [tv,fv,bv,VI im.entry] :: .cells 0 (ys.map fun x:Nat=>VI (x:Nat)) :: .cells 0 rulesC :: G)) im f tv fv bv bodyv is = LH at h86 hlk
  have h87:=c87 hO (rid:=h.length + 2) hlk (by simp only [go_sem]) (by intro g;simp only [go_sem]) (fun x hx=>far_held (hhd x hx))
  simp (maxSteps:=1000000) only [go_sem] at h87
  repeat' first
   | simp (maxSteps:=1000000) only [go_sem,hlt',hw,h0i,hym,hq1,hq2,hq3,Fn.row,c1,c2,c3,Int.toNat_natCast,Nat.mul_one,Nat.zero_add]
  refine dK_app _ _ h86 ?_
  repeat' first
   | ((with_reducible show wx _ (XCode.cond _ _ _) _ _);refine wx_if rfl (fun _=>?_) (fun _=>?_))
   | ((with_reducible show dK _ 87 _ _ _);refine dK_of _ (h87) ?_)
   | simp (maxSteps:=1000000) only [go_sem,hw]
  ·rename_i e
   refine ⟨more_one,plain_tup (by simp [Plain.v]),_,_,_,rfl,?_⟩
   simp at e
   have hbk:brkF im f = (brkL im.funcs.length im.tables.length is 0 is).2:=by unfold brkF;rw [hbd]
   refine .inr ⟨hib,.inl ⟨y,f,hfi,by rw [hbk];exact e,?_,hbk.symm⟩⟩
   intro z g hz hbz
   obtain ⟨jz,hjz,hyz⟩:=hcov z (List.getElem?_eq_some_iff.1 hz).1
   have hge:i ≤ jz:=by
    refine Nat.le_of_not_lt fun q=>hbz ((brkF_zero (hbody z g hz)).2 (hgood jz z g q hyz hz))
   cases hah:aheadB g f with
   | false=>rfl
   | true=>
     by_cases hij:i = jz
     ·subst hij
      rw [hy] at hyz
      cases hyz
      rw [hfi] at hz
      cases hz
      rw [aheadB_irr] at hah
      cases hah
     ·exact absurd (aheadB_cmp.1 hah) (hsort i jz y z f g (by omega) hy hyz hfi hz)
  ·rename_i e
   refine ⟨im.funcs.length - (i + 1),by omega,i + 1,_,rfl,by omega,?_,rfl⟩
   intro j y' f' hj hy' hf'
   by_cases hji:j = i
   ·subst hji
    rw [hy] at hy'
    cases hy'
    rw [hfi] at hf'
    cases hf'
    rw [hbd]
    refine (bodyOk_iff hne).2 fun k x hx=>?_
    have:=(brkL_zero 0 is).1 (by simpa using e) k x hx
    rwa [Nat.zero_add] at this
   ·exact hgood j y' f' (by omega) hy' hf'
 have hlt':¬ ((i:Int) < im.funcs.length):=by omega
 have hbods:∀ f ∈ im.funcs,BodyOk im.funcs.length im.tables.length (body im.text f):=by
  intro f hf
  obtain ⟨y,hy⟩:=List.mem_iff_getElem?.1 hf
  obtain ⟨j,hj,hyj⟩:=hcov y (List.getElem?_eq_some_iff.1 hy).1
  exact hgood j y f (by omega) hyj hy
 repeat' first
  | simp (maxSteps:=1000000) only [go_sem,hlt',c1,c2,c3]
 refine (c89 hO (hr.more _) hfs).mono ?_
 rintro r h' ⟨g9,rfl,hs9⟩
 repeat' first
  | simp (maxSteps:=1000000) only [go_sem]
 have h88:=c88 hO hs9 (by rw [List.length_map];exact hnf) (by
  intro xs hxs c hc
  obtain ⟨f,hf,rfl⟩:=List.mem_map.1 hxs
  unfold callsOf at hc
  obtain ⟨x,hx,rfl⟩:=List.mem_map.1 hc
  obtain ⟨hx,h3⟩:=List.mem_filter.1 hx
  rw [List.length_map]
  exact ((hbods f hf).rule x hx).call (of_decide_eq_true h3)) (by
  intro xs hxs
  obtain ⟨f,hf,rfl⟩:=List.mem_map.1 hxs
  unfold callsOf
  rw [List.length_map]
  refine Nat.lt_of_le_of_lt (List.length_filter_le _ _) (Nat.lt_of_le_of_lt ?_ hr.len)
  unfold body
  simp
  omega)
 simp (maxSteps:=1000000) only [go_sem] at h88
 refine h88.mono ?_
 rintro r h' ⟨g8,D,rfl,hDl,hsD,hrank⟩
 rw [List.length_map] at hDl
 repeat' first
  | simp (maxSteps:=1000000) only [go_sem]
 generalize hGG:G ++ (g9 ++ g8) = GG at *
 refine SimLoop.inv [14,54,0,0] (fun k s=>∃ (i:Nat),k = im.funcs.length - i ∧ i ≤ im.funcs.length ∧ (∀ (j:Nat) y d,j < i → ys[j]? = some y → D[y]? = some d → d ≤ 8) ∧
  s = ⟨[.un,.un,.un,.un,.un,.un,.un,.un,.un,.un,.un,.un,.un,.un,r,.un,.un,.un,.un,.un,.un,.un,.un,.un,.un,.un,.un,.un,.un,.un,.un,.un,.un,.un,.un,.un,.un,.un,.un,.un,.un,.un,.un,.un,.un,.un,.un,.un,.un,.un,.un,.un,.un,.un,.un,.un,.un,.un,.un,.un,.un,.un,.un,.un,.un,.un,.un,.un,.un,.sl (h.length + 1) 0 0 im.funcs.length 1,VI im.funcs.length,VI i,.un,.un,.un,.un,.un,.un,.un,.un,.un,.un],h ++ (.cells 0 [tv,fv,bv,VI im.entry] :: .cells 0 (ys.map fun x:Nat=>VI (x:Nat)) :: .cells 0 rulesC :: GG)⟩) ?_ im.funcs.length ?_
 rotate_left
 ·exact ⟨0,rfl,Nat.zero_le _,fun j y f hj=>absurd hj (by omega),by simp only [go_sem];rfl⟩
 rintro k s ⟨i,rfl,hi,hdeep,rfl⟩
 by_cases hlt:i < im.funcs.length
 ·obtain ⟨y,hy⟩:∃ y,ys[i]? = some y:=⟨_,List.getElem?_eq_getElem (by omega)⟩
  have hyb:=hyn i y hy
  have hym:(ys.map fun x:Nat=>VI (x:Nat))[i]? = some (VI y):=by rw [List.getElem?_map,hy];rfl
  have hlt':((i:Int) < im.funcs.length):=by omega
  have hw:=wrap_succ hlt (by omega)
  have h0i:(0:Int) ≤ i:=by omega
  have hDy:=List.getElem?_eq_getElem (show y < D.length by omega)
  generalize D[y] = d at hDy
  obtain ⟨q,hq1,hq2⟩:=hsD.toI.2 y d hDy
  repeat' first
   | ((with_reducible show wx _ (XCode.cond _ _ _) _ _);refine wx_if rfl (fun _=>?_) (fun _=>?_))
   | simp (maxSteps:=1000000) only [go_sem,hlt',hw,h0i,hym,hq1,hq2,Int.toNat_natCast,Nat.mul_one,Nat.zero_add]
  ·rename_i e
   refine ⟨more_one,plain_tup (by simp [Plain.v]),_,_,_,rfl,?_⟩
   simp at e
   refine .inr ⟨hib,.inr ⟨fun f hf=>?_,.inr ⟨fun hrk=>?_,rfl⟩⟩⟩
   ·obtain ⟨z,hz⟩:=List.mem_iff_getElem?.1 hf
    exact (brkF_zero (hbody z f hz)).2 (hbods f hf)
   ·have:=hrank.2 hrk d (List.mem_of_getElem? hDy)
    omega
  ·rename_i e
   simp at e
   refine ⟨im.funcs.length - (i + 1),by omega,i + 1,rfl,by omega,?_,rfl⟩
   intro j y' d' hj hy' hd'
   by_cases hji:j = i
   ·subst hji
    rw [hy] at hy'
    cases hy'
    rw [hDy] at hd'
    cases hd'
    omega
   ·exact hdeep j y' d' (by omega) hy' hd'
 ·have hlt':¬ ((i:Int) < im.funcs.length):=by omega
  repeat' first
   | simp (maxSteps:=1000000) only [go_sem,hlt']
  refine ⟨more_one,plain_tup (by simp [Plain.v]),_,_,_,rfl,?_⟩
  refine .inr ⟨hib,.inr ⟨fun f hf=>?_,.inl ⟨hrank.1 ?_,rfl⟩⟩⟩
  ·obtain ⟨z,hz⟩:=List.mem_iff_getElem?.1 hf
   exact (brkF_zero (hbody z f hz)).2 (hbods f hf)
  intro d hd
  obtain ⟨y,hy⟩:=List.mem_iff_getElem?.1 hd
  obtain ⟨j,hj,hyj⟩:=hcov y (by rw [← hDl];exact (List.getElem?_eq_some_iff.1 hy).1)
  exact hdeep j y d (by omega) hyj hy
theorem ErrV.ok {im:Img} {e:Int} (h:ErrV im e):e = 0 ↔ VOk (tabsB 0) im:=by
 refine h.zero fun hib f hf=>?_
 obtain ⟨q1,q2,q3⟩:=funcsB_mem _ _ 0 (by omega) (imgB_ok.1 hib).funcs f hf
 have:=body_len q1 q2 q3
 omega
end Go.Tidy
namespace Go.Tidy
open Go Go.Eng Go.Proofs
variable {cx:Cx}
def cpV (n:Nat):Nat:=if n = 0 then 0 else 1
structure Rows {α:Type} (f:α → List AV) (sz:Nat) (h:AH) (v:AV) (xs:List α):Prop where
 sl:SlT f sz h v xs
 rows:∀ g,xRows (h ++ g) sz v = some (xs.length,xs.flatMap f)
theorem Rows.more {α:Type} {f:α → List AV} {sz:Nat} {h:AH} {v:AV} {xs:List α} (r:Rows f sz h v xs) (g:AH):Rows f sz (h ++ g) v xs:=
 ⟨r.sl.more g,fun g'=>by rw [List.append_assoc];exact r.rows _⟩
theorem Rows.whole {α:Type} {f:α → List AV} {sz:Nat} {h:AH} {xs:List α} {id ver:Nat} (hf:∀ x,(f x).length = sz) (hrd:∀ g,AH.rd (h ++ g) id ver = some (xs.flatMap f)):Rows f sz h (.sl id ver 0 xs.length sz) xs:=by
 refine ⟨SlT.whole hrd hf rfl,fun g=>?_⟩
 have hl:=cells_len hf xs
 simp only [xRows,if_true,hrd g,Option.bind_some,Nat.zero_add,List.drop_zero]
 rw [if_pos (by omega),List.take_of_length_le (by omega)]
theorem Rows.ro {α:Type} {f:α → List AV} {sz:Nat} {h:AH} {xs:List α} {fn:Nat → List AV} (hr:∀ (i:Nat) x,xs[i]? = some x → fn i = f x):Rows f sz h (.ro sz xs.length fn) xs:=by
 refine ⟨.ro fn xs hr,fun g=>?_⟩
 simp only [xRows,if_true,Option.some.injEq,Prod.mk.injEq,true_and]
 clear g
 induction xs generalizing fn with
 | nil=>rfl
 | cons x r ih=>
   rw [List.length_cons,List.range_succ_eq_map,List.flatMap_cons,List.flatMap_cons,hr 0 x rfl,List.flatMap_map]
   congr 1
   exact ih (fn:=fun i=>fn (i + 1)) (fun i y hy=>hr (i + 1) y hy)
theorem Rows.nil {α:Type} {f:α → List AV} {sz:Nat} {h:AH} (hz:0 < sz):xRows h sz (.v (.slice none 0 0)) = some (0,([]:List α).flatMap f):=rfl
set_option maxRecDepth 100000 in
theorem c38 (hO:On cx) {h:AH} {v:AV} {xs:List Ins} (hv:∀ g,xRows (h ++ g) 5 v = some (xs.length,xs.flatMap Ins.row)) (hl:xs.length < 1099511627776) :
 SimCall cx 38 [v] h fun r h'=>r = .sl h.length (cpV xs.length) 0 xs.length 5 ∧ h' = h ++ [.cells (cpV xs.length) (xs.flatMap Ins.row)]:=by
 refine SimCall.by hO.P res38 ?_
 unfold x38 r38
 by_cases h0:xs = []
 ·subst h0
  repeat' first
   | simp (maxSteps:=1000000) only [go_sem,hv,List.length_nil,List.flatMap_nil]
  exact ⟨rfl,rfl⟩
 ·have h1:¬ xs.length = 0:=fun e=>h0 (List.eq_nil_of_length_eq_zero e)
  have h2:¬ xs.length * 5 ≤ 0:=by omega
  have h3:xs.length * 40 ≤ 140737488355328:=by omega
  have h4:cpV xs.length = 1:=if_neg h1
  repeat' first
   | simp (maxSteps:=1000000) only [go_sem,hv,h1,h2,h3,h4]
set_option maxRecDepth 100000 in
theorem c75 (hO:On cx) {h:AH} {v:AV} {xs:List Fn} (hv:∀ g,xRows (h ++ g) 4 v = some (xs.length,xs.flatMap Fn.row)) (hl:xs.length < 1099511627776) :
 SimCall cx 75 [v] h fun r h'=>r = .sl h.length (cpV xs.length) 0 xs.length 4 ∧ h' = h ++ [.cells (cpV xs.length) (xs.flatMap Fn.row)]:=by
 refine SimCall.by hO.P res75 ?_
 unfold x75 r75
 by_cases h0:xs = []
 ·subst h0
  repeat' first
   | simp (maxSteps:=1000000) only [go_sem,hv,List.length_nil,List.flatMap_nil]
  exact ⟨rfl,rfl⟩
 ·have h1:¬ xs.length = 0:=fun e=>h0 (List.eq_nil_of_length_eq_zero e)
  have h2:¬ xs.length * 4 ≤ 0:=by omega
  have h3:xs.length * 40 ≤ 140737488355328:=by omega
  have h4:cpV xs.length = 1:=if_neg h1
  repeat' first
   | simp (maxSteps:=1000000) only [go_sem,hv,h1,h2,h3,h4]
set_option maxRecDepth 100000 in
theorem c40 (hO:On cx) {h:AH} {v:AV} {xs:List Tab} (hv:∀ g,xRows (h ++ g) 5 v = some (xs.length,xs.flatMap Tab.row)) (hl:xs.length < 1099511627776) :
 SimCall cx 40 [v] h fun r h'=>r = .sl h.length (cpV xs.length) 0 xs.length 5 ∧ h' = h ++ [.cells (cpV xs.length) (xs.flatMap Tab.row)]:=by
 refine SimCall.by hO.P res40 ?_
 unfold x40 r40
 by_cases h0:xs = []
 ·subst h0
  repeat' first
   | simp (maxSteps:=1000000) only [go_sem,hv,List.length_nil,List.flatMap_nil]
  exact ⟨rfl,rfl⟩
 ·have h1:¬ xs.length = 0:=fun e=>h0 (List.eq_nil_of_length_eq_zero e)
  have h2:¬ xs.length * 5 ≤ 0:=by omega
  have h3:xs.length * 48 ≤ 140737488355328:=by omega
  have h4:cpV xs.length = 1:=if_neg h1
  repeat' first
   | simp (maxSteps:=1000000) only [go_sem,hv,h1,h2,h3,h4]
set_option maxRecDepth 100000 in
theorem c69 (hO:On cx) {h:AH} {v:AV} {xs:List Tab} (hv:∀ g,xRows (h ++ g) 5 v = some (xs.length,xs.flatMap Tab.row)) (hn:xNo v = some false) (hl:xs.length < 1099511627776) :
 SimCall cx 69 [v] h fun r h'=>r = .sl h.length (cpV xs.length) 0 xs.length 5 ∧ h' = h ++ [.cells (cpV xs.length) (xs.flatMap Tab.row)]:=by
 refine SimCall.by hO.P res69 ?_
 unfold x69 r69
 by_cases h0:xs = []
 ·subst h0
  simp only [List.length_nil,List.flatMap_nil] at hv
  repeat' first
   | simp (maxSteps:=1000000) only [go_sem,hv,hn,List.length_nil,List.flatMap_nil]
  exact ⟨rfl,rfl⟩
 ·have h1:¬ xs.length = 0:=fun e=>h0 (List.eq_nil_of_length_eq_zero e)
  have h2:¬ xs.length * 5 ≤ 0:=by omega
  have h3:xs.length * 48 ≤ 140737488355328:=by omega
  have h4:cpV xs.length = 1:=if_neg h1
  repeat' first
   | simp (maxSteps:=1000000) only [go_sem,hv,hn,h1,h2,h3,h4]
theorem c69n (hO:On cx) (h:AH) (c:Nat):SimCall cx 69 [.v (.slice none 0 c)] h fun r h'=>h' = h ∧ r = nilS:=by
 refine SimCall.by hO.P res69 ?_
 unfold x69 r69
 repeat' first
  | simp (maxSteps:=1000000) only [go_sem]
 all_goals exact ⟨rfl,rfl⟩
theorem c16 (hO:On cx) (n:Int) (h:AH):SimCall cx 16 [VI n] h fun r h'=>h' = h ∧ r = VI n:=by
 refine SimCall.gc ?_
 refine SimCall.by hO.P res16 ?_
 unfold x16 r16
 repeat' first
  | simp (maxSteps:=1000000) only [go_sem]
 all_goals first | exact ⟨more_one,plain_v _⟩ | exact ⟨more_nil,plain_v _⟩ | refine ⟨by first | exact more_one | exact more_nil,by first | exact plain_v _ | exact plain_tup (by simp [Plain.v]),?_⟩
 all_goals try simp only [decide_eq_true_eq,decide_eq_false_iff_not,Bool.not_eq_true',Bool.not_eq_false',AV.v.injEq,AV.tup.injEq,List.cons.injEq,Value.int.injEq,Value.bool.injEq,true_and,and_true] at *
 all_goals (try simp only [band] at *)
 all_goals (try simp_all)
 all_goals grind
def cpO (L:Nat) (tv fv bv:AV) (im:Img):AH:=
 [.cells 0 [tv,fv,bv,VI im.entry],.cells 0 [.sl (L + 2) (cpV im.text.length) 0 im.text.length 5,.sl (L + 3) (cpV im.funcs.length) 0 im.funcs.length 4,.sl (L + 4) (cpV im.tables.length) 0 im.tables.length 5,VI im.entry],
  .cells (cpV im.text.length) (im.text.flatMap Ins.row),.cells (cpV im.funcs.length) (im.funcs.flatMap Fn.row),.cells (cpV im.tables.length) (im.tables.flatMap Tab.row)]
def cpA (L:Nat) (im:Img):AV:=.agg [.sl (L + 2) (cpV im.text.length) 0 im.text.length 5,.sl (L + 3) (cpV im.funcs.length) 0 im.funcs.length 4,.sl (L + 4) (cpV im.tables.length) 0 im.tables.length 5,VI im.entry]
set_option maxRecDepth 100000 in
theorem c28x (hO:On cx) {h:AH} {tv fv bv:AV} {im:Img} (ht:Rows Ins.row 5 h tv im.text) (hf:Rows Fn.row 4 h fv im.funcs) (hb:Rows Tab.row 5 h bv im.tables)
 (h1:im.text.length < 1099511627776) (h2:im.funcs.length < 1099511627776) (h3:im.tables.length < 1099511627776) :
 SimCall cx 28 [.agg [tv,fv,bv,VI im.entry]] h fun r h'=>r = cpA h.length im ∧ h' = h ++ cpO h.length tv fv bv im:=by
 have c1:=ht.sl.cell
 have c2:=hf.sl.cell
 have c3:=hb.sl.cell
 refine SimCall.by hO.P res28 ?_
 unfold x28 r28
 repeat' first
  | ((with_reducible show dK _ 38 _ _ _);refine dK_app _ _ (c38 hO (fun g=>by first | exact ht.rows _ | (rw [List.append_assoc];exact ht.rows _)) h1) ?_)
  | ((with_reducible show dK _ 75 _ _ _);refine dK_app _ _ (c75 hO (fun g=>by first | exact hf.rows _ | (rw [List.append_assoc];exact hf.rows _)) h2) ?_)
  | ((with_reducible show dK _ 40 _ _ _);refine dK_app _ _ (c40 hO (fun g=>by first | exact hb.rows _ | (rw [List.append_assoc];exact hb.rows _)) h3) ?_)
  | simp (maxSteps:=1000000) only [go_sem,c1,c2,c3]
 all_goals exact ⟨rfl,rfl⟩
def WSl {α:Type} (f:α → List AV) (sz:Nat) (h:AH) (v:AV) (xs:List α):Prop:=(v = nilS ∧ xs = []) ∨ ∃ id ver,v = .sl id ver 0 xs.length sz ∧ h[id]? = some (.cells ver (xs.flatMap f))
theorem WSl.rows {α:Type} {f:α → List AV} {sz:Nat} {h:AH} {v:AV} {xs:List α} (hf:∀ x,(f x).length = sz) (w:WSl f sz h v xs):Rows f sz h v xs:=by
 rcases w with ⟨rfl,rfl⟩ | ⟨id,ver,rfl,ho⟩
 ·exact ⟨.nl none 0,fun g=>rfl⟩
 ·refine Rows.whole hf fun g=>?_
  unfold AH.rd
  rw [List.getElem?_append_left (List.getElem?_eq_some_iff.1 ho).1,ho]
  simp
end Go.Tidy

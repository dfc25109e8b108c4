/- Part 8 of a proof: an abstract memory for the translated code, and what the functions that the law reaches do over it. -/
import Derived.Lib.IndexAny
import Derived.Test.YtbhdjfhhgnoiiaaGreatDoorProg
import Derived.Test.YtbhdjfhhgnoiiaaGreatDoorS7
set_option linter.unusedSimpArgs false
set_option linter.unusedVariables false
namespace Go.Tidy
open Go Go.Eng Go.Proofs
variable {cx:Cx}
theorem SimCall.calls {P:Program} (hP:cx.P = P) {f:FuncId} (hc:callable P f = true) {vals:List Value} {v:Value} {h:AH} (H:∀ w,Calls P f vals.toArray w fun e w'=>e = .returned v ∧ w' = w) :
 SimCall cx f (vals.map .v) h fun r h'=>h' = h ∧ r = .v v:=by
 subst hP
 refine ⟨hc,fun φ w vs hl hv hW=>?_⟩
 have:vs = vals.toArray:=by
  refine Array.ext (by simpa using hl.symm) fun k h1 h2=>?_
  have hk:k < vals.length:=by simpa using h2
  have:=hv k (.v vals[k]) vs[k] (by simp [hk]) (Array.getElem?_eq_getElem h1)
  simpa using rep_v this
 subst this
 exact (H w).mono fun e w' ⟨h1,h2⟩=>⟨v,.v v,h,φ,h1,.v _,by rw [h2];exact hW,by rw [h2];exact Step.refl _ _ _,rfl,rfl⟩
theorem c245 (hO:On cx) (s:ByteArray) (c:Int) (h:AH):SimCall cx 245 [.v (.string s),.v (.int .u8 c)] h fun r h'=>h' = h ∧ r = VI (Lib.indexByte s.data.toList c.toNat.toUInt8):=
 SimCall.calls hO.P (by kernel_rfl) (vals:=[.string s,.int .u8 c]) fun w=>Any.strings_IndexByte lays137 s c w
theorem u8_eq (u:UInt8) (n:Nat) (hn:n < 256):(u.toNat:Int) = n ↔ u = UInt8.ofNat n:=by
 constructor
 ·intro h
  have:u.toNat = n:=by omega
  rw [← this];simp
 ·rintro rfl
  simp
  omega
theorem digit_spec (u:UInt8):decide (Lib.indexByte [48,49,50,51,52,53,54,55,56,57,46,36] u < 0) = !decide ((u.toNat:Int) ∈ digitsL):=by
 have h:=Lib.contains_iff_indexByte [48,49,50,51,52,53,54,55,56,57,46,36] u
 have h2:([48,49,50,51,52,53,54,55,56,57,46,36]:List UInt8).contains u = decide ((u.toNat:Int) ∈ digitsL):=by
  unfold digitsL
  simp only [List.contains_cons,List.contains_nil,List.mem_cons,List.not_mem_nil,or_false,Bool.or_false]
  have e:∀ n:Nat,n < 256 → ((u == UInt8.ofNat n) = decide ((u.toNat:Int) = n)):=by
   intro n hn
   by_cases h:u = UInt8.ofNat n
   ·rw [decide_eq_true ((u8_eq u n hn).2 h)];simpa using h
   ·rw [decide_eq_false (fun q=>h ((u8_eq u n hn).1 q))];simpa using h
  have:=e 48 (by decide);have:=e 49 (by decide);have:=e 50 (by decide);have:=e 51 (by decide);have:=e 52 (by decide);have:=e 53 (by decide)
  have:=e 54 (by decide);have:=e 55 (by decide);have:=e 56 (by decide);have:=e 57 (by decide);have:=e 46 (by decide);have:=e 36 (by decide)
  simp_all
 rw [← h2,h]
 by_cases h3:Lib.indexByte [48,49,50,51,52,53,54,55,56,57,46,36] u < 0
 ·rw [decide_eq_true h3,decide_eq_false (by omega)];rfl
 ·rw [decide_eq_false h3,decide_eq_true (by omega)];rfl
theorem str_empty (s:ByteArray):decide (s = ⟨#[]⟩) = decide (s.size = 0):=by
 obtain ⟨d⟩:=s
 by_cases h:d = #[]
 ·subst h;rfl
 ·have h1:¬ (⟨d⟩:ByteArray) = ⟨#[]⟩:=fun e=>h (by cases e;rfl)
  have h2:¬ (⟨d⟩:ByteArray).size = 0:=fun e=>h (Array.eq_empty_of_size_eq_zero e)
  rw [decide_eq_false h1,decide_eq_false h2]
set_option maxRecDepth 100000 in
theorem c187 (hO:On cx) (s:ByteArray) (h:AH) (hs:s.size < 4611686018427387904):SimCall cx 187 [.v (.string s)] h fun r h'=>h' = h ∧ r = VB (nameB s):=by
 refine SimCall.gc ?_
 refine SimCall.by hO.P res187 ?_
 unfold x187 r187
 repeat' first
  | ((with_reducible show wx _ (XCode.cond _ _ _) _ _);refine wx_if rfl (fun _=>?_) (fun _=>?_))
  | ((with_reducible show SemL _ _ _ _);refine SemL.of ?_)
  | simp (maxSteps:=1000000) only [go_sem,str_empty]
  | ((with_reducible show wl _ (XI.mk _ (some _) (XBody.op _) :: _) _ _);refine wl_optF rfl (fun e2=>by ((try simp only [Bool.and_eq_true] at e2);first | (simp (maxSteps:=1000000) only [e2,go_sem,str_empty];first | done | rfl))) ?_)
 ·refine ⟨more_nil,plain_v _,?_⟩
  rename_i e
  unfold nameB
  simp at e
  rcases e with e | e
  ·simp [e]
  ·simp [show 64 < s.size by omega]
 ·rename_i e
  have hnm:nameB s = nameL true (bytesI s):=by
   unfold nameB
   simp at e
   simp [e.1]
   omega
  rw [hnm]
  have hsz:s.data.toList.length = s.size:=Array.length_toList
  refine SimLoop.inv [14,0,0] (fun k st=>∃ (i:Nat) (g:AH),k = s.size - i ∧ i ≤ s.size ∧ nameL true (bytesI s) = nameL (decide (i = 0)) ((bytesI s).drop i) ∧
   st = ⟨[.un,.un,.un,.un,.un,.un,.un,.un,.un,.un,.un,.un,.un,.un,.sl h.length 0 0 s.size 1,VI s.size,VI i,.un,.un,.un,.un,.un,.un,.un,.un,.un,.un,.un,.un,.un,.un,.un,.un,.un,.un,.un,.un,.un,.un,.un,.un,.un,.un,.un,.un],h ++ (.froz (s.data.toList.map fun c=>.v (.int .u8 c.toNat)) :: g)⟩) ?_ s.size ?_
  rotate_left
  ·exact ⟨0,[],rfl,Nat.zero_le _,by rw [List.drop_zero];rfl,by simp only [go_sem];rfl⟩
  rintro k st ⟨i,g,rfl,hi,hall,rfl⟩
  by_cases hlt:i < s.size
  ·have hlt':((i:Int) < s.size):=by omega
   have hw:=wrap_succ hlt (by omega)
   have hi2:i < s.data.toList.length:=by omega
   have hbt:(s.data.toList.map fun c=>AV.v (.int .u8 c.toNat))[i]? = some (.v (.int .u8 (s.data.toList[i]).toNat)):=by
    rw [List.getElem?_map,List.getElem?_eq_getElem hi2];rfl
   have h0:(0:Int) ≤ i:=by omega
   have hd:(bytesI s).drop i = (s.data.toList[i].toNat:Int) :: (bytesI s).drop (i + 1):=by
    unfold bytesI
    rw [List.drop_eq_getElem_cons (by simpa using hi2)]
    simp
   rw [hd,nameL] at hall
   generalize s.data.toList[i] = b at hbt hall
   have hlet:letter (b.toNat:Int) = (decide (97 ≤ kor .u8 b.toNat 32) && decide (kor .u8 b.toNat 32 ≤ 122) || decide ((b.toNat:Int) = 95)):=rfl
   have hb8:b.toNat.toUInt8 = b:=by simp
   have hdig:=digit_spec b
   have hi0:decide ((i:Int) = 0) = decide (i = 0):=by simp
   rw [hlet] at hall
   repeat' first
    | ((with_reducible show wx _ (XCode.cond _ _ _) _ _);refine wx_if rfl (fun _=>?_) (fun _=>?_))
    | ((with_reducible show SemL _ _ _ _);refine SemL.of ?_)
    | simp (maxSteps:=1000000) only [go_sem,hbt,hlt',hw,h0,Int.toNat_natCast,Nat.mul_one]
    | ((with_reducible show wl _ (XI.mk _ (some _) (XBody.op _) :: _) _ _);first | refine wl_optT rfl (fun e2=>by ((try simp only [Bool.and_eq_true] at e2);first | (simp (maxSteps:=1000000) only [e2,go_sem,hbt,hlt',hw,h0,Int.toNat_natCast,Nat.mul_one];first | done | rfl))) ?_ | refine wl_optF rfl (fun e2=>by ((try simp only [Bool.and_eq_true] at e2);first | (simp (maxSteps:=1000000) only [e2,go_sem,hbt,hlt',hw,h0,Int.toNat_natCast,Nat.mul_one];first | done | rfl))) ?_ | refine wl_opt2F rfl (fun e1 e2=>by ((try simp only [Bool.and_eq_true] at e1);first | (simp (maxSteps:=1000000) only [e1,e2,go_sem,hbt,hlt',hw,h0,Int.toNat_natCast,Nat.mul_one];first | done | rfl))) ?_)
    | ((with_reducible show wl _ (XI.mk _ (some _) (XBody.call (XO.f 245) _) :: _) _ _);refine wl_optc2F rfl rfl (fun e1 e2=>by simp (maxSteps:=1000000) only [e1,e2,go_sem,hbt,hlt',hw,h0,Int.toNat_natCast,Nat.mul_one];exact (c245 hO _ _ _)) ?_)
   ·rename_i e
    refine ⟨more_one,plain_v _,?_⟩
    rw [hall]
    rw [hb8,hdig,hi0] at e
    revert e
    generalize (decide (97 ≤ kor IntKind.u8 (↑b.toNat) 32) && decide (kor IntKind.u8 (↑b.toNat) 32 ≤ 122) || decide ((b.toNat:Int) = 95)) = L
    generalize decide ((b.toNat:Int) ∈ digitsL) = D
    generalize decide (i = 0) = Z
    cases L <;> cases D <;> cases Z <;> simp
   ·rename_i e
    refine ⟨s.size - (i + 1),by omega,i + 1,_,rfl,by omega,?_,rfl⟩
    rw [hall]
    rw [hb8,hdig,hi0] at e
    have hz:decide (i + 1 = 0) = false:=rfl
    rw [hz]
    revert e
    generalize (decide (97 ≤ kor IntKind.u8 (↑b.toNat) 32) && decide (kor IntKind.u8 (↑b.toNat) 32 ≤ 122) || decide ((b.toNat:Int) = 95)) = L
    generalize decide ((b.toNat:Int) ∈ digitsL) = D
    generalize decide (i = 0) = Z
    cases L <;> cases D <;> cases Z <;> simp
  ·have hlt':¬ ((i:Int) < s.size):=by omega
   repeat' first
    | simp (maxSteps:=1000000) only [go_sem,hlt']
   refine ⟨more_one,plain_v _,?_⟩
   rw [hall,List.drop_eq_nil_of_le (by simp [bytesI];omega)]
   rfl
set_option maxRecDepth 100000 in
theorem c134 (hO:On cx) (im:Img) (tv fv bv:AV) (h:AH) (hv:SlIns h tv im.text) (hf:SlT Fn.row 4 h fv im.funcs) (hb:bv.cell = true) (hl:im.text.length < 1099511627776) (hlf:im.funcs.length < 1099511627776) :
 SimCall cx 134 [.agg [tv,fv,bv,VI im.entry]] h fun r h'=>h' = h ∧ ∃ x:Int,r = .tup [VI x,VB (!funcsB im.text.length 0 im.funcs)]:=by
 have htc:=hv.cell
 have hfc:=hf.cell
 refine SimCall.gc ?_
 refine SimCall.by hO.P res134 ?_
 unfold x134 r134
 simp only [go_sem,hf.len,htc,hfc,hb]
 refine SimLoop.inv [1,2,3,0,0] (fun k s=>∃ (i:Nat) (g:AH) (at_:Int),k = im.funcs.length - i ∧ i ≤ im.funcs.length ∧ 0 ≤ at_ ∧ at_ ≤ im.text.length ∧ funcsB im.text.length 0 im.funcs = funcsB im.text.length at_ (im.funcs.drop i) ∧
  s = ⟨[.un,.ptr h.length 0 0,.un,.un,VI at_,.un,.un,.un,fv,VI im.funcs.length,VI i,.un,.un,.un,.un,.un,.un,.un,.un,.un,.un,.un,.un,.un,.un,.un,.un,.un,.un,.un,.un,.un,.un,.un,.un,.un,.un,.un,.un,.un,.un,.un,.un,.un,.un,.un,.un,.un],h ++ (.cells 0 [tv,fv,bv,VI im.entry] :: g)⟩) ?_ im.funcs.length ?_
 rotate_left
 ·exact ⟨0,_,0,rfl,Nat.zero_le _,Int.le_refl _,by omega,by rw [List.drop_zero],by simp only [go_sem];rfl⟩
 rintro k s ⟨i,g,at_,rfl,hi,ha0,ha1,hall,rfl⟩
 by_cases hlt:i < im.funcs.length
 ·obtain ⟨p,hp1,hp2,hp3,_⟩:=hf.get Fn.len (by decide) (List.getElem?_eq_getElem hlt)
  have hlt':((i:Int) < im.funcs.length):=by omega
  have hw:=wrap_succ hlt (by omega)
  rw [List.drop_eq_getElem_cons hlt,funcsB] at hall
  generalize im.funcs[i] = f at hp1 hp2 hp3 hall
  have hw2:IntKind.i64.wrap ((im.text.length:Int) - at_) = im.text.length - at_:=wrap_id (by omega) (by omega)
  repeat' first
   | ((with_reducible show wx _ (XCode.cond _ _ _) _ _);refine wx_if rfl (fun _=>?_) (fun _=>?_))
   | ((with_reducible show SemL _ _ _ _);refine SemL.of ?_)
   | simp (maxSteps:=1000000) only [go_sem,hp1,hp2,hp3,hlt',hw,hw2,Fn.row,hv.len,htc,hfc,hb]
   | ((with_reducible show wl _ (XI.mk _ (some _) (XBody.op _) :: _) _ _);refine wl_optF rfl (fun e2=>by ((try simp only [Bool.and_eq_true] at e2);first | (simp (maxSteps:=1000000) only [e2,go_sem,hp1,hp2,hp3,hlt',hw,hw2,Fn.row,hv.len,htc,hfc,hb];first | done | rfl))) ?_)
  ·rename_i e
   refine ⟨more_one,plain_tup (by simp [Plain.v]),i,?_⟩
   rw [hall]
   simp at e
   congr 5
   revert e
   by_cases q1:f.first = at_ <;> by_cases q2:1 ≤ f.count <;> by_cases q3:f.count ≤ im.text.length - at_ <;> simp [q1,q2,q3] <;> omega
  ·rename_i e
   simp at e
   have hc:f.first = at_ ∧ 1 ≤ f.count ∧ f.count ≤ im.text.length - at_:=by omega
   rw [wrap_id (by omega) (by omega)]
   refine ⟨im.funcs.length - (i + 1),by omega,i + 1,_,_,rfl,by omega,?_,?_,?_,rfl⟩
   ·omega
   ·omega
   ·rw [hall]
    simp [hc.1,hc.2.1,hc.2.2]
 ·have hlt':¬ ((i:Int) < im.funcs.length):=by omega
  repeat' first
   | simp (maxSteps:=1000000) only [go_sem,hlt',hf.len,hv.len]
  refine ⟨more_one,plain_tup (by simp [Plain.v]),im.funcs.length,?_⟩
  rw [hall,List.drop_eq_nil_of_le (by omega),funcsB]
  congr 5
  by_cases q:at_ = im.text.length
  ·simp [q]
  ·simp [q];omega
end Go.Tidy
namespace Go.Tidy
open Go Go.Eng Go.Proofs
section
variable {h l:AH} {n c:Nat} {o:AO} {es:List (Nat × Value × AV)}
@[go_sem] theorem mapAt_plus:AH.mapAt (h ++ l) (.mp (h.length + n)) = (AH.mapAt l (.mp n)).map fun p=>(h.length + n,p.2):=by
 have e:(h ++ l)[h.length + n]? = l[n]?:=by rw [List.getElem?_append_right (by omega),Nat.add_sub_cancel_left]
 unfold AH.mapAt
 simp only [e]
 cases l[n]? with
 | none=>rfl
 | some o=>cases o <;> rfl
@[go_sem] theorem mapAt_self:AH.mapAt (h ++ l) (.mp h.length) = (AH.mapAt l (.mp 0)).map fun p=>(h.length,p.2):=by
 have:=mapAt_plus (h:=h) (l:=l) (n:=0)
 exact this
@[go_sem] theorem mapAt_zero:AH.mapAt (.map c es :: l) (.mp 0) = some (0,c,es):=rfl
@[go_sem] theorem mapAt_succ:AH.mapAt (o :: l) (.mp (n + 1)) = (AH.mapAt l (.mp n)).map fun p=>(n + 1,p.2):=by
 unfold AH.mapAt
 simp only [List.getElem?_cons_succ]
 cases l[n]? with
 | none=>rfl
 | some o=>cases o <;> rfl
end
variable {α:Type}
def esOf (f:α → Value) (x:AV):Nat → List α → List (Nat × Value × AV)
 | _,[]=>[]
 | n,k :: r=>(n,f k,x) :: esOf f x (n + 1) r
theorem esOf_app {f:α → Value} {x:AV}:∀ (n:Nat) (a:List α) (k:α),esOf f x n (a ++ [k]) = esOf f x n a ++ [(n + a.length,f k,x)]
 | n,[],k=>rfl
 | n,y :: r,k=>by
   simp only [List.cons_append,esOf,esOf_app (n + 1) r k,List.length_cons]
   have:n + 1 + r.length = n + (r.length + 1):=by omega
   rw [this]
theorem esOf_len {f:α → Value} {x:AV}:∀ (n:Nat) (a:List α),(esOf f x n a).length = a.length
 | n,[]=>rfl
 | n,y :: r=>by simp [esOf,esOf_len (n + 1) r]
theorem esOf_find {f:α → Value} {x:AV} {sh:Sh} {k:α} [DecidableEq α] (heq:∀ a b:α,xEq sh (ofV (f a)) (ofV (f b)) = some (decide (a = b))):∀ (n:Nat) (a:List α),xFind sh (f k) (esOf f x n a) = some (a.findIdx? fun y=>decide (k = y))
 | n,[]=>rfl
 | n,y :: r=>by
   simp only [esOf,xFind,heq k y,List.findIdx?_cons]
   by_cases h:k = y
   ·simp [h]
   ·simp [h,esOf_find heq (n + 1) r]
theorem esOf_get {f:α → Value} {x:AV}:∀ (n:Nat) (a:List α) (i:Nat),(esOf f x n a)[i]? = (a[i]?).map fun k=>(n + i,f k,x)
 | n,[],i=>by simp [esOf]
 | n,y :: r,0=>by simp [esOf]
 | n,y :: r,i + 1=>by
   simp only [esOf,List.getElem?_cons_succ,esOf_get (n + 1) r i]
   cases r[i]? with
   | none=>rfl
   | some k=>simp;omega
theorem esOf_stamp {f:α → Value} {x y:AV} {v:Value}:∀ (n:Nat) (a:List α),((esOf f x n a ++ [(n + a.length,v,y)]).findIdx? fun e=>decide ((e.1:Int) = ((n + a.length:Nat):Int))) = some a.length
 | n,[]=>by simp [esOf,List.findIdx?_cons]
 | n,z :: r=>by
   have ih:=esOf_stamp (f:=f) (x:=x) (y:=y) (v:=v) (n + 1) r
   have e:n + 1 + r.length = n + (z :: r).length:=by simp;omega
   rw [e] at ih
   simp only [esOf,List.cons_append,List.findIdx?_cons,ih]
   have:¬ ((n:Int) = ((n + (z :: r).length:Nat):Int)):=by simp;omega
   rw [decide_eq_false this]
   rfl
def keyNO (k:ByteArray × Int):Value:=.agg #[.string k.1,.int .i64 k.2]
theorem keyNO_eq (a b:ByteArray × Int):xEq ⟨true,[2,1]⟩ (ofV (keyNO a)) (ofV (keyNO b)) = some (decide (a = b)):=by
 obtain ⟨a1,a2⟩:=a
 obtain ⟨b1,b2⟩:=b
 simp [xEq,ofV,keyNO,xEqs,sameOne]
theorem keyNO_v (n:ByteArray) (o:Int):(AV.agg [.v (.string n),VI o]).toV = some (keyNO (n,o)):=rfl
theorem keyNO_ok (k:ByteArray × Int):keyOk ⟨true,[2,1]⟩ (keyNO k) = true:=by
 unfold keyOk
 rw [keyNO_eq]
 rfl
end Go.Tidy
namespace Go.Tidy
open Go Go.Eng Go.Proofs
variable {cx:Cx}
def seenB (seen:List (ByteArray × Int)) (k:ByteArray × Int):Bool:=seen.any fun q=>decide (q.1 = k.1) && decide (q.2 = k.2)
theorem seen_find (seen:List (ByteArray × Int)) (k:ByteArray × Int):(seen.findIdx? fun y=>decide (k = y)).isSome = seenB seen k:=by
 unfold seenB
 induction seen with
 | nil=>rfl
 | cons q r ih=>
   rw [List.findIdx?_cons,List.any_cons]
   by_cases h:k = q
   ·subst h;simp
   ·have:(decide (q.1 = k.1) && decide (q.2 = k.2)) = false:=by
     cases hh:(decide (q.1 = k.1) && decide (q.2 = k.2)) with
     | false=>rfl
     | true=>
       simp at hh
       exact absurd (Prod.ext hh.1.symm hh.2.symm) h
    rw [this,decide_eq_false h]
    simpa using ih
section
variable {H:AH} {m:AV} {id:Nat} {seen:List (ByteArray × Int)} {n:ByteArray} {o:Int}
theorem lku_seen {c:Nat} (hm:H.mapAt m = some (id,c,esOf keyNO (VI 1) 0 seen)):xLku H ⟨true,[2,1]⟩ (.int .i64 0) false m (.agg [.v (.string n),VI o]) = some (VI (if seenB seen (n,o) = true then 1 else 0)):=by
 have hs:=seen_find seen (n,o)
 unfold xLku xLk
 rw [keyNO_v]
 simp only [Option.bind_some,keyNO_ok,if_true,hm,esOf_find keyNO_eq,Option.map_some,Option.some.injEq]
 cases hf:seen.findIdx? fun y=>decide ((n,o) = y) with
 | none=>rw [hf] at hs;simp [← hs,ofV]
 | some i=>
   rw [hf] at hs
   have hi:=(List.findIdx?_eq_some_iff_getElem.1 hf).1
   simp [← hs,esOf_get,List.getElem?_eq_getElem hi]
theorem men_new (hm:H.mapAt m = some (id,seen.length,esOf keyNO (VI 1) 0 seen)) (hn:seenB seen (n,o) = false) :
 xMen H ⟨true,[2,1]⟩ (.int .i64 0) m (.agg [.v (.string n),VI o]) = some (.tup [VI 0,VI seen.length],H.set id (.map (seen.length + 1) (esOf keyNO (VI 1) 0 seen ++ [(seen.length,keyNO (n,o),VI 0)]))):=by
 have hs:=seen_find seen (n,o)
 unfold xMen
 rw [keyNO_v]
 simp only [Option.bind_some,keyNO_ok,if_true,hm,esOf_find keyNO_eq]
 cases hf:seen.findIdx? fun y=>decide ((n,o) = y) with
 | none=>rfl
 | some i=>rw [hf,hn] at hs;cases hs
theorem mes_new (hm:H.mapAt m = some (id,seen.length + 1,esOf keyNO (VI 1) 0 seen ++ [(seen.length,keyNO (n,o),VI 0)])) :
 xMes H m (VI seen.length) (VI 1) = some (H.set id (.map (seen.length + 1) (esOf keyNO (VI 1) 0 (seen ++ [(n,o)])))):=by
 have h:=esOf_stamp (f:=keyNO) (x:=VI 1) (y:=VI 0) (v:=keyNO (n,o)) 0 seen
 rw [Nat.zero_add] at h
 unfold xMes
 simp only [hm,Option.bind_some,h,Option.map_some]
 rw [esOf_app,Nat.zero_add]
 have e:=esOf_len (f:=keyNO) (x:=VI 1) 0 seen
 have:(esOf keyNO (VI 1) 0 seen ++ [(seen.length,keyNO (n,o),VI 0)]).modify seen.length (fun e=>(e.1,e.2.1,VI 1)) = esOf keyNO (VI 1) 0 seen ++ [(seen.length,keyNO (n,o),VI 1)]:=by
  refine List.ext_getElem? fun k=>?_
  rw [List.getElem?_modify]
  by_cases hk:k < seen.length
  ·have hne:¬ seen.length = k:=by omega
   rw [List.getElem?_append_left (by omega),List.getElem?_append_left (by omega)]
   simp [hne]
  ·rw [List.getElem?_append_right (by omega),List.getElem?_append_right (by omega),e]
   by_cases hk2:k = seen.length
   ·subst hk2;simp
   ·have:k - seen.length = (k - seen.length - 1) + 1:=by omega
    rw [this];simp
 rw [this]
end
def fkey (f:Fn):ByteArray × Int:=(f.name,f.obj)
def okP:Option ByteArray → ByteArray → Bool
 | none,_=>true
 | some q,n=>!strLe n q
theorem namesT_cons (p:Option ByteArray) (t:Tab) (r:List Tab):namesT p (t :: r) = (nameB t.name && okP p t.name && namesT (some t.name) r):=by cases p <;> rfl
theorem seen_val (b:Bool):decide ((0:Int) < if b = true then 1 else 0) = b:=by cases b <;> rfl
set_option maxRecDepth 100000 in
set_option maxHeartbeats 2000000 in
theorem c133 (hO:On cx) (im:Img) (tv fv bv:AV) (h:AH) (htc:tv.cell = true) (hf:SlT Fn.row 4 h fv im.funcs) (hb:SlT Tab.row 5 h bv im.tables) (hlf:im.funcs.length < 1099511627776) (hlt:im.tables.length < 1099511627776)
 (hnf:∀ f ∈ im.funcs,f.name.size < 4611686018427387904) (hnt:∀ t ∈ im.tables,t.name.size < 4611686018427387904) :
 SimCall cx 133 [.agg [tv,fv,bv,VI im.entry]] h fun r h'=>h' = h ∧ ∃ x:Int,r = .tup [VI x,VB (!(namesF [] (im.funcs.map fkey) && namesT none im.tables))]:=by
 have hfc:=hf.cell
 have hbc:=hb.cell
 refine SimCall.gc ?_
 refine SimCall.by hO.P res133 ?_
 unfold x133 r133
 simp only [go_sem,hf.len,htc,hfc,hbc]
 refine SimLoop.inv [1,2,10,0,0] (fun k s=>∃ (i:Nat) (g:AH) (es:List (Nat × Value × AV)),k = im.funcs.length - i ∧ i ≤ im.funcs.length ∧ es = esOf keyNO (VI 1) 0 ((im.funcs.take i).map fkey) ∧ namesF [] (im.funcs.map fkey) = namesF ((im.funcs.take i).map fkey) ((im.funcs.drop i).map fkey) ∧
  s = ⟨[.un,.ptr h.length 0 0,.un,.un,.mp (h.length + 1),.un,.un,.un,.un,.un,.un,.un,.un,.un,.un,fv,VI im.funcs.length,VI i,.un,.un,.un,.un,.un,.un,.un,.un,.un,.un,.un,.un,.un,.un,.un,.un,.un,.un,.un,.un,.un,.un,.un,.un,.un,.un,.un,.un,.un,.un,.un,.un,.un,.un,.un,.un,.un,.un,.un,.un,.un,.un,.un,.un,.un,.un,.un,.un,.un,.un,.un,.un,.un,.un,.un,.un,.un,.un,.un,.un,.un,.un,.un,.un,.un,.un,.un,.un,.un,.un,.un],h ++ (.cells 0 [tv,fv,bv,VI im.entry] :: .map i es :: g)⟩) ?_ im.funcs.length ?_
 rotate_left
 ·exact ⟨0,_,_,rfl,Nat.zero_le _,rfl,by simp,by simp only [go_sem];rfl⟩
 rintro k s ⟨i,g,es,rfl,hi,hes,hall,rfl⟩
 by_cases hli:i < im.funcs.length
 ·obtain ⟨p,hp1,hp2,hp3,_⟩:=hf.get Fn.len (by decide) (List.getElem?_eq_getElem hli)
  have hlt':((i:Int) < im.funcs.length):=by omega
  have hw:=wrap_succ hli (by omega)
  have hfm:im.funcs[i] ∈ im.funcs:=List.getElem_mem _
  have htk:(im.funcs.take (i + 1)).map fkey = (im.funcs.take i).map fkey ++ [fkey im.funcs[i]]:=by
   rw [List.take_succ_eq_append_getElem hli,List.map_append];rfl
  rw [List.drop_eq_getElem_cons hli,List.map_cons,namesF] at hall
  have hsz:=hnf _ hfm
  generalize im.funcs[i] = f at hp1 hp2 hp3 hall htk hfm hsz
  have hseenl:((im.funcs.take i).map fkey).length = i:=by simp;omega
  have hseen:(((im.funcs.take i).map fkey).any fun q=>decide (q.1 = (fkey f).1) && decide (q.2 = (fkey f).2)) = seenB ((im.funcs.take i).map fkey) (f.name,f.obj):=rfl
  rw [hseen] at hall
  have hk0:fkey f = (f.name,f.obj):=rfl
  rw [hk0] at hall htk
  simp only at hall
  generalize hgs:(im.funcs.take i).map fkey = seen at hall htk hseenl hes
  subst hes
  have hw1:IntKind.i64.wrap ((if seenB seen (f.name,f.obj) = true then 1 else 0) + 1) = if seenB seen (f.name,f.obj) = true then 2 else 1:=by
   cases seenB seen (f.name,f.obj) <;> rfl
  have hlk:∀ g',xLku (h ++ .cells 0 [tv,fv,bv,VI im.entry] :: .map i (esOf keyNO (VI 1) 0 seen) :: g') ⟨true,[2,1]⟩ (.int .i64 0) false (.mp (h.length + 1)) (.agg [.v (.string f.name),VI f.obj]) = some (VI (if seenB seen (f.name,f.obj) = true then 1 else 0)):=fun g'=>by
   refine lku_seen (id:=h.length + 1) (c:=i) ?_
   simp only [go_sem]
  repeat' first
   | ((with_reducible show wx _ (XCode.cond _ _ _) _ _);refine wx_if rfl (fun _=>?_) (fun _=>?_))
   | ((with_reducible show SemL _ _ _ _);refine SemL.of ?_)
   | ((with_reducible show SimCall _ 187 _ _ _);refine (c187 hO f.name _ hsz).mono ?_;rintro r h' ⟨rfl,rfl⟩)
   | simp (maxSteps:=1000000) only [go_sem,hp1,hp2,hp3,hlt',hw,hw1,Fn.row,htc,hfc,hbc,hlk,seen_val]
   | ((with_reducible show wl _ (XI.mk _ (some _) (XBody.op _) :: _) _ _);refine wl_optF rfl (fun e2=>by ((try simp only [Bool.and_eq_true] at e2);first | (simp (maxSteps:=1000000) only [e2,go_sem,hp1,hp2,hp3,hlt',hw,hw1,Fn.row,htc,hfc,hbc,hlk,seen_val];first | done | rfl))) ?_)
  ·rename_i e
   refine ⟨more_one,plain_tup (by simp [Plain.v]),i,?_⟩
   rw [hall]
   congr 5
   revert e
   generalize namesF (seen ++ [(f.name,f.obj)]) (List.map fkey (List.drop (i + 1) im.funcs)) = R
   by_cases q1:f.obj < 0
   ·have:¬ 0 ≤ f.obj:=by omega
    simp [fkey,this]
   ·by_cases q2:64 ≤ f.obj
    ·have:¬ f.obj < 64:=by omega
     simp [fkey,this]
    ·have a1:0 ≤ f.obj:=by omega
     have a2:f.obj < 64:=by omega
     cases nameB f.name <;> cases seenB seen (f.name,f.obj) <;> simp [fkey,q1,q2,a1,a2]
  ·rename_i e
   have hno:seenB seen (f.name,f.obj) = false:=by
    revert e
    cases seenB seen (f.name,f.obj) <;> simp
   rw [hno]
   have hmen:∀ g',xMen (h ++ .cells 0 [tv,fv,bv,VI im.entry] :: .map i (esOf keyNO (VI 1) 0 seen) :: g') ⟨true,[2,1]⟩ (.int .i64 0) (.mp (h.length + 1)) (.agg [.v (.string f.name),VI f.obj])
    = some (.tup [VI 0,VI i],h ++ .cells 0 [tv,fv,bv,VI im.entry] :: .map (i + 1) (esOf keyNO (VI 1) 0 seen ++ [(i,keyNO (f.name,f.obj),VI 0)]) :: g'):=fun g'=>by
    have hx:=men_new (H:=h ++ .cells 0 [tv,fv,bv,VI im.entry] :: .map i (esOf keyNO (VI 1) 0 seen) :: g') (m:=.mp (h.length + 1)) (id:=h.length + 1) (seen:=seen) (n:=f.name) (o:=f.obj) (by simp only [go_sem,hseenl]) hno
    rw [hx,hseenl]
    simp only [go_sem]
   have hmes:∀ g',xMes (h ++ .cells 0 [tv,fv,bv,VI im.entry] :: .map (i + 1) (esOf keyNO (VI 1) 0 seen ++ [(i,keyNO (f.name,f.obj),VI 0)]) :: g') (.mp (h.length + 1)) (VI i) (VI 1)
    = some (h ++ .cells 0 [tv,fv,bv,VI im.entry] :: .map (i + 1) (esOf keyNO (VI 1) 0 (seen ++ [(f.name,f.obj)])) :: g'):=fun g'=>by
    have hx:=mes_new (H:=h ++ .cells 0 [tv,fv,bv,VI im.entry] :: .map (i + 1) (esOf keyNO (VI 1) 0 seen ++ [(i,keyNO (f.name,f.obj),VI 0)]) :: g') (m:=.mp (h.length + 1)) (id:=h.length + 1) (seen:=seen) (n:=f.name) (o:=f.obj) (by simp only [go_sem,hseenl])
    rw [hseenl] at hx
    rw [hx]
    simp only [go_sem]
   have hw3:IntKind.i64.wrap 1 = 1:=rfl
   repeat' first
    | simp (maxSteps:=1000000) only [go_sem,hw,hmen,hmes,hw3,Bool.false_eq_true]
   refine ⟨im.funcs.length - (i + 1),by omega,i + 1,_,_,rfl,by omega,by rw [htk],?_,rfl⟩
   rw [hall,htk]
   simp at e
   simp [e,hno,show 0 ≤ f.obj by omega,show f.obj < 64 by omega]
 ·have hlt':¬ ((i:Int) < im.funcs.length):=by omega
  have hT:namesF [] (im.funcs.map fkey) = true:=by rw [hall,List.drop_eq_nil_of_le (by omega)];rfl
  rw [hT,Bool.true_and]
  clear hall hes
  repeat' first
   | simp (maxSteps:=1000000) only [go_sem,hlt',hb.len]
  refine SimLoop.inv [1,54,0,0] (fun k s=>∃ (j:Nat) (g:AH),k = im.tables.length - j ∧ j ≤ im.tables.length ∧ namesT none im.tables = namesT (if j = 0 then none else (im.tables[j - 1]?).map (·.name)) (im.tables.drop j) ∧
   s = ⟨[.un,.ptr h.length 0 0,.un,.un,.un,.un,.un,.un,.un,.un,.un,.un,.un,.un,.un,.un,.un,.un,.un,.un,.un,.un,.un,.un,.un,.un,.un,.un,.un,.un,.un,.un,.un,.un,.un,.un,.un,.un,.un,.un,.un,.un,.un,.un,.un,.un,.un,.un,.un,.un,.un,.un,.un,.un,.un,.un,bv,VI im.tables.length,VI j,.un,.un,.un,.un,.un,.un,.un,.un,.un,.un,.un,.un,.un,.un,.un,.un,.un,.un,.un,.un,.un,.un,.un,.un,.un,.un,.un,.un,.un,.un],h ++ (.cells 0 [tv,fv,bv,VI im.entry] :: g)⟩) ?_ im.tables.length ?_
  rotate_left
  ·exact ⟨0,_,rfl,Nat.zero_le _,rfl,by simp only [go_sem];rfl⟩
  rintro k s ⟨j,g,rfl,hj,hall,rfl⟩
  by_cases hlj:j < im.tables.length
  ·obtain ⟨p,hp1,hp2,hp3,_⟩:=hb.get Tab.len (by decide) (List.getElem?_eq_getElem hlj)
   have hlt':((j:Int) < im.tables.length):=by omega
   have hw:=wrap_succ hlj (by omega)
   have hsz:=hnt im.tables[j] (List.getElem_mem _)
   rw [List.drop_eq_getElem_cons hlj,namesT_cons] at hall
   have hnext:(if j + 1 = 0 then none else (im.tables[j + 1 - 1]?).map (·.name)) = some im.tables[j].name:=by
    rw [if_neg (by omega),Nat.add_sub_cancel,List.getElem?_eq_getElem hlj];rfl
   generalize im.tables[j] = t at hp1 hp2 hp3 hall hnext hsz
   cases j with
   | zero=>
     simp only [if_true] at hall
     have hnp:¬ (0:Int) < ((0:Nat):Int):=by decide
     cases hnb:nameB t.name with
     | false=>
       repeat' first
        | ((with_reducible show SemD _ _ _ _ _);refine SemD.of ?_)
        | ((with_reducible show dK _ 187 _ _ _);refine dK_of _ (c187 hO t.name _ hsz) ?_)
        | simp (maxSteps:=1000000) only [go_sem,hp1,hp2,hp3,hlt',hw,Tab.row,htc,hfc,hbc,hf.len,hnp,hnb]
       refine ⟨more_one,plain_tup (by simp [Plain.v]),IntKind.i64.wrap (im.funcs.length + ((0:Nat):Int)),?_⟩
       congr 5
       rw [hall,hnb]
       rfl
     | true=>
       repeat' first
        | ((with_reducible show SemD _ _ _ _ _);refine SemD.of ?_)
        | ((with_reducible show dK _ 187 _ _ _);refine dK_of _ (c187 hO t.name _ hsz) ?_)
        | simp (maxSteps:=1000000) only [go_sem,hp1,hp2,hp3,hlt',hw,Tab.row,htc,hfc,hbc,hf.len,hnp,hnb]
       refine ⟨im.tables.length - 1,by omega,1,_,rfl,by omega,?_,rfl⟩
       rw [hall,hnext,hnb]
       rfl
   | succ j=>
     have hj2:j < im.tables.length:=by omega
     obtain ⟨p2,hq1,_,_,hq4⟩:=hb.get Tab.len (by decide) (List.getElem?_eq_getElem hj2)
     obtain ⟨q,hr1,_,hr3⟩:=hq4 0 (.v (.string im.tables[j].name)) rfl
     have hprev:(if j + 1 = 0 then none else (im.tables[j + 1 - 1]?).map (·.name)) = some im.tables[j].name:=by
      rw [if_neg (by omega),Nat.add_sub_cancel,List.getElem?_eq_getElem hj2];rfl
     rw [hprev] at hall
     have hpos:(0:Int) < ((j + 1:Nat):Int):=by omega
     have hsub:IntKind.i64.wrap (((j + 1:Nat):Int) - 1) = (j:Int):=by rw [wrap_id (by omega) (by omega)];omega
     generalize im.tables[j].name = q0 at hr3 hall
     repeat' first
      | ((with_reducible show wx _ (XCode.cond _ _ _) _ _);refine wx_if rfl (fun _=>?_) (fun _=>?_))
      | ((with_reducible show SemD _ _ _ _ _);refine SemD.of ?_)
      | ((with_reducible show dK _ 187 _ _ _);refine dK_of _ (c187 hO t.name _ hsz) ?_)
      | simp (maxSteps:=1000000) only [go_sem,hp1,hp2,hp3,hlt',hw,Tab.row,htc,hfc,hbc,hf.len,hq1,hr1,hr3,hpos,hsub]
      | ((with_reducible show wds _ _ (DI.i (XI.mk _ (some _) (XBody.op _)) :: _) _ _);first | refine wds_optF rfl (fun e2=>by ((try simp only [Bool.and_eq_true] at e2);first | (simp (maxSteps:=1000000) only [e2,go_sem,hp1,hp2,hp3,hlt',hw,Tab.row,htc,hfc,hbc,hf.len,hq1,hr1,hr3,hpos,hsub];first | done | rfl))) ?_ | refine wds_opt2T rfl (fun e1 e2=>by ((try simp only [Bool.and_eq_true] at e1);first | (simp (maxSteps:=1000000) only [e1,e2,go_sem,hp1,hp2,hp3,hlt',hw,Tab.row,htc,hfc,hbc,hf.len,hq1,hr1,hr3,hpos,hsub];first | done | rfl))) ?_)
     ·rename_i e
      refine ⟨more_one,plain_tup (by simp [Plain.v]),IntKind.i64.wrap (im.funcs.length + ((j + 1:Nat):Int)),?_⟩
      congr 5
      rw [hall]
      have hok:okP (some q0) t.name = !(Op.bytesLess t.name.toList q0.toList || decide (t.name = q0)):=rfl
      rw [hok]
      revert e
      generalize (Op.bytesLess t.name.toList q0.toList || decide (t.name = q0)) = L
      cases nameB t.name <;> cases L <;> simp
     ·rename_i e
      refine ⟨im.tables.length - (j + 1 + 1),by omega,j + 1 + 1,_,rfl,by omega,?_,rfl⟩
      rw [hall,hnext]
      have hok:okP (some q0) t.name = !(Op.bytesLess t.name.toList q0.toList || decide (t.name = q0)):=rfl
      rw [hok]
      revert e
      generalize (Op.bytesLess t.name.toList q0.toList || decide (t.name = q0)) = L
      cases nameB t.name <;> cases L <;> simp
  ·have hlt':¬ ((j:Int) < im.tables.length):=by omega
   repeat' first
    | simp (maxSteps:=1000000) only [go_sem,hlt']
   refine ⟨more_one,plain_tup (by simp [Plain.v]),0,?_⟩
   rw [hall,List.drop_eq_nil_of_le (by omega)]
   rfl
end Go.Tidy
namespace Go.Tidy
open Go Go.Eng Go.Proofs
variable {cx:Cx}
structure ImgR (h:AH) (tv fv bv:AV) (im:Img):Prop where
 text:SlIns h tv im.text
 funcs:SlT Fn.row 4 h fv im.funcs
 tables:SlT Tab.row 5 h bv im.tables
 len:im.text.length < 1099511627776
 nf:im.funcs.length < 1099511627776
 nt:im.tables.length < 1099511627776
 fname:∀ f ∈ im.funcs,f.name.size < 4611686018427387904
 tname:∀ t ∈ im.tables,t.name.size < 4611686018427387904
theorem ImgR.more {h:AH} {tv fv bv:AV} {im:Img} (r:ImgR h tv fv bv im) (g:AH):ImgR (h ++ g) tv fv bv im:=
 ⟨r.text.more g,r.funcs.more g,r.tables.more g,r.len,r.nf,r.nt,r.fname,r.tname⟩
def imgB (im:Img):Bool:=
 decide ((wsI im.text).sum ≤ 1048576 ∧ im.funcs.length ≤ 4096 ∧ im.tables.length ≤ 1024) && (namesF [] (im.funcs.map fkey) && namesT none im.tables) && funcsB im.text.length 0 im.funcs && tabsB 0 im.tables
  && decide (0 ≤ im.entry ∧ im.entry < im.funcs.length) && im.text.all heldB
theorem imgB_ok {im:Img}:imgB im = true ↔ ImgOk (tabsB 0) im:=by
 unfold imgB
 simp only [Bool.and_eq_true,decide_eq_true_eq,List.all_eq_true]
 constructor
 ·rintro ⟨⟨⟨⟨⟨⟨h1,h2,h3⟩,h4,h5⟩,h6⟩,h7⟩,h8⟩,h9⟩
  exact ⟨h1,h2,h3,h4,h5,h6,h7,h8,h9⟩
 ·rintro ⟨h1,h2,h3,h4,h5,h6,h7,h8,h9⟩
  exact ⟨⟨⟨⟨⟨⟨h1,h2,h3⟩,h4,h5⟩,h6⟩,h7⟩,h8⟩,h9⟩
set_option maxHeartbeats 2000000 in
theorem c79 (hO:On cx) (im:Img) (tv fv bv:AV) (h:AH) (hr:ImgR h tv fv bv im) :
 SimCall cx 79 [.agg [tv,fv,bv,VI im.entry]] h fun r h'=>h' = h ∧ ∃ x:Int,∃ e:Int,r = .tup [VI x,VI e] ∧ (e = 0 ↔ imgB im = true):=by
 have h1:=hr.text.cell
 have h2:=hr.funcs.cell
 have h3:=hr.tables.cell
 refine SimCall.gc ?_
 refine SimCall.by hO.P res79 ?_
 unfold x79 r79
 repeat' first
  | ((with_reducible show wx _ (XCode.cond _ _ _) _ _);refine wx_if rfl (fun _=>?_) (fun _=>?_))
  | ((with_reducible show SimCall _ 132 _ _ _);refine (c132 hO im tv fv bv _ (hr.more _).text (hr.more _).funcs (hr.more _).tables hr.len).mono ?_;rintro r h' ⟨rfl,x,rfl⟩)
  | ((with_reducible show SimCall _ 133 _ _ _);refine (c133 hO im tv fv bv _ h1 (hr.more _).funcs (hr.more _).tables hr.nf hr.nt hr.fname hr.tname).mono ?_;rintro r h' ⟨rfl,x,rfl⟩)
  | ((with_reducible show SimCall _ 134 _ _ _);refine (c134 hO im tv fv bv _ (hr.more _).text (hr.more _).funcs h3 hr.len hr.nf).mono ?_;rintro r h' ⟨rfl,x,rfl⟩)
  | ((with_reducible show SimCall _ 135 _ _ _);refine (c135 hO im tv fv bv _ (hr.more _).tables h2 h1 hr.nt).mono ?_;rintro r h' ⟨rfl,x,rfl⟩)
  | ((with_reducible show SimCall _ 136 _ _ _);refine (c136 hO im tv fv bv _ (hr.more _).funcs h3 h1).mono ?_;rintro r h' ⟨rfl,x,rfl⟩)
  | ((with_reducible show SimCall _ 137 _ _ _);refine (c137 hO im tv fv bv _ (hr.more _).text h2 h3 hr.len).mono ?_;rintro r h' ⟨rfl,x,rfl⟩)
  | simp (maxSteps:=1000000) only [go_sem,h1,h2,h3]
 all_goals refine ⟨more_one,plain_tup (by simp [Plain.v]),_,_,rfl,?_⟩
 all_goals unfold imgB
 all_goals (try simp_all)
 all_goals (intros;first | omega | simp_all)
end Go.Tidy
namespace Go.Tidy
open Go Go.Eng Go.Proofs
variable {cx:Cx}
theorem sli_nil (h:AH):SlI h (.v (.slice none 0 0)) []:=⟨rfl,fun i x hx=>by simp at hx⟩
theorem sli_whole {h:AH} {id ver:Nat} {xs:List Int} (hrd:h.rd id ver = some (xs.map VI)):SlI h (.sl id ver 0 xs.length 1) xs:=by
 refine ⟨rfl,fun i x hx=>?_⟩
 have hi:=(List.getElem?_eq_some_iff.1 hx).1
 refine ⟨.ptr id ver (0 + i * 1),?_,?_⟩
 ·simp [xIad,hi]
 ·simp [xLd1,hrd,hx]
set_option maxRecDepth 100000 in
theorem c205 (hO:On cx) (h:AH):SimCall cx 205 [VI 0,VI 5] h fun r h'=>∃ g,h' = h ++ g ∧ SlI (h ++ g) r [0,1,2,3,4,5]:=by
 refine SimCall.by hO.P res205 ?_
 unfold x205 r205
 have hw:∀ n:Int,-9223372036854775808 ≤ n → n < 9223372036854775808 → IntKind.i64.wrap n = n:=fun n=>wrap_id
 repeat' first
  | ((with_reducible show SimLoop _ _ _ _);refine SimLoop.go ?_)
  | simp (maxSteps:=1000000) only [go_sem,wrap_id,xRows]
 exact ⟨_,rfl,sli_whole (xs:=[0,1,2,3,4,5]) (by simp only [go_sem])⟩
theorem c149 (hO:On cx) (i:Ins) (h:AH):SimCall cx 149 [i.av] h fun r h'=>∃ g,h' = h ++ g ∧ SlI (h ++ g) r (writes i):=by
 refine SimCall.by hO.P res149 ?_
 unfold x149 r149
 repeat' first
  | ((with_reducible show wx _ (XCode.cond _ _ _) _ _);refine wx_if rfl (fun _=>?_) (fun _=>?_))
  | ((with_reducible show SimCall _ 143 _ _ _);refine (c143 hO i _).mono ?_;rintro r h' ⟨rfl,rfl⟩)
  | ((with_reducible show SimCall _ 203 _ _ _);refine (c203 hO _ _).mono ?_;rintro r h' ⟨rfl,rfl⟩)
  | ((with_reducible show SimCall _ 205 _ _ _);refine (c205 hO _).mono ?_;rintro r h' ⟨g,rfl,hs⟩)
  | simp (maxSteps:=1000000) only [go_sem]
 all_goals simp only [decide_eq_true_eq,decide_eq_false_iff_not,Bool.not_eq_true',Bool.not_eq_false'] at *
 all_goals unfold writes
 all_goals repeat' split
 all_goals first
  | (exfalso;simp_all;done)
  | exact ⟨_,rfl,sli_nil _⟩
  | (refine ⟨_,rfl,sli_whole (xs:=[i.dst]) ?_⟩;simp only [go_sem];done)
  | (refine ⟨_,rfl,sli_whole (xs:=[i.src]) ?_⟩;simp only [go_sem];done)
  | (refine ⟨_,rfl,sli_whole (xs:=[0]) ?_⟩;simp only [go_sem];done)
  | (refine ⟨_,rfl,?_⟩;rw [List.append_assoc] at hs;exact hs)
theorem writes_short (i:Ins):(writes i).length < 4611686018427387904:=by
 unfold writes
 repeat' split
 all_goals simp
def beginsL (is:List Ins):List Int:=(List.range is.length).map fun k=>(psum (wsI is) k:Int)
def mapE (is:List Ins):List (Nat × Value × AV):=(List.range is.length).map fun k=>(k,.int .i64 (psum (wsI is) k),VI k)
structure Look (h:AH) (id mid:Nat) (im:Img) (is:List Ins) (tv fv bv bodyv slotsv:AV):Prop where
 rd0:AH.rd h id 0 = some [tv,fv,bv,VI im.entry,bodyv,slotsv,.mp mid]
 rd:∀ g,AH.rd (h ++ g) id 0 = some [tv,fv,bv,VI im.entry,bodyv,slotsv,.mp mid]
 img:ImgR h tv fv bv im
 body:SlIns h bodyv is
 slots:SlT fI 1 h slotsv (beginsL is)
 map:∀ g,AH.mapAt (h ++ g) (.mp mid) = some (mid,is.length,mapE is)
 len:is.length < 1099511627776
theorem Look.more {h:AH} {id mid:Nat} {im:Img} {is:List Ins} {tv fv bv bodyv slotsv:AV} (l:Look h id mid im is tv fv bv bodyv slotsv) (g:AH):Look (h ++ g) id mid im is tv fv bv bodyv slotsv:=
 ⟨l.rd g,fun g'=>by rw [List.append_assoc];exact l.rd _,l.img.more g,l.body.more g,l.slots.more g,fun g'=>by rw [List.append_assoc];exact l.map _,l.len⟩
section
variable {h:AH} {id mid k:Nat} {im:Img} {is:List Ins} {i:Ins} {tv fv bv bodyv slotsv:AV}
theorem c142 (hO:On cx) (l:Look h id mid im is tv fv bv bodyv slotsv) (hk:is[k]? = some i):SimCall cx 142 [.ptr id 0 0,VI k] h fun r h'=>h' = h ∧ r = VB (!decide (may i = 0)):=by
 obtain ⟨p,hp1,hp2,hp3,_⟩:=l.body.get Ins.len (by decide) hk
 refine SimCall.gc ?_
 refine SimCall.by hO.P res142 ?_
 unfold x142 r142
 repeat' first
  | ((with_reducible show SimCall _ 143 _ _ _);refine (c143 hO i _).mono ?_;rintro r h' ⟨rfl,rfl⟩)
  | simp (maxSteps:=1000000) only [go_sem,l.rd0,l.rd,hp1,hp2,hp3,Ins.row]
 all_goals first | exact ⟨more_one,plain_v _⟩ | exact ⟨more_nil,plain_v _⟩ | refine ⟨by first | exact more_one | exact more_nil,by first | exact plain_v _ | exact plain_tup (by simp [Plain.v]),?_⟩
 all_goals try simp only [decide_eq_true_eq,decide_eq_false_iff_not,Bool.not_eq_true',Bool.not_eq_false',AV.v.injEq,AV.tup.injEq,List.cons.injEq,Value.int.injEq,Value.bool.injEq,true_and,and_true] at *
 all_goals (try simp only [band] at *)
 all_goals (try simp_all)
 all_goals grind
theorem c146 (hO:On cx) (l:Look h id mid im is tv fv bv bodyv slotsv) (hk:is[k]? = some i):SimCall cx 146 [.ptr id 0 0,VI k] h fun r h'=>h' = h ∧ r = VB (decide (k + 1 = is.length) && !decide (jumps i = 1) && !decide (jumps i = 4)):=by
 obtain ⟨p,hp1,hp2,hp3,_⟩:=l.body.get Ins.len (by decide) hk
 have hlt:=(List.getElem?_eq_some_iff.1 hk).1
 have hll:=l.len
 have hsub:IntKind.i64.wrap ((is.length:Int) - 1) = (is.length:Int) - 1:=wrap_id (by omega) (by omega)
 have hd:decide ((k:Int) = (is.length:Int) - 1) = decide (k + 1 = is.length):=by
  by_cases h:k + 1 = is.length
  ·rw [decide_eq_true h,decide_eq_true (by omega)]
  ·rw [decide_eq_false h,decide_eq_false (by omega)]
 refine SimCall.gc ?_
 refine SimCall.by hO.P res146 ?_
 unfold x146 r146
 repeat' first
  | ((with_reducible show SemL _ _ _ _);refine SemL.of ?_)
  | ((with_reducible show SimCall _ 145 _ _ _);refine (c145 hO i _).mono ?_;rintro r h' ⟨rfl,rfl⟩)
  | simp (maxSteps:=1000000) only [go_sem,l.rd0,l.rd,l.body.len,hsub,hd,hp1,hp2,hp3,Ins.row]
  | ((with_reducible show wl _ (XI.mk _ (some _) (XBody.op _) :: _) _ _);refine wl_optT rfl (fun e2=>by ((try simp only [Bool.and_eq_true] at e2);first | (simp (maxSteps:=1000000) only [e2,go_sem,l.rd0,l.rd,l.body.len,hsub,hd,hp1,hp2,hp3,Ins.row];first | done | rfl))) ?_)
 all_goals first | exact ⟨more_one,plain_v _⟩ | exact ⟨more_nil,plain_v _⟩ | refine ⟨by first | exact more_one | exact more_nil,by first | exact plain_v _ | exact plain_tup (by simp [Plain.v]),?_⟩
 all_goals try simp only [decide_eq_true_eq,decide_eq_false_iff_not,Bool.not_eq_true',Bool.not_eq_false',AV.v.injEq,AV.tup.injEq,List.cons.injEq,Value.int.injEq,Value.bool.injEq,true_and,and_true] at *
 all_goals (try simp only [band] at *)
 all_goals (try simp_all)
 all_goals grind
theorem c147 (hO:On cx) (l:Look h id mid im is tv fv bv bodyv slotsv) (hk:is[k]? = some i):SimCall cx 147 [.ptr id 0 0,VI k] h fun r h'=>h' = h ∧ r = VB (decide (10 ∈ writes i)):=by
 obtain ⟨p,hp1,hp2,hp3,_⟩:=l.body.get Ins.len (by decide) hk
 refine SimCall.gc ?_
 refine SimCall.by hO.P res147 ?_
 unfold x147 r147
 repeat' first
  | ((with_reducible show SimCall _ 149 _ _ _);refine (c149 hO i _).mono ?_;rintro r h' ⟨g,rfl,hs⟩)
  | ((with_reducible show SimCall _ 148 _ _ _);refine (c148 hO.P _ _ _ _ hs (writes_short i)).mono ?_;rintro r h' ⟨rfl,rfl⟩)
  | simp (maxSteps:=1000000) only [go_sem,l.rd0,l.rd,hp1,hp2,hp3,Ins.row]
 all_goals first | exact ⟨more_one,plain_v _⟩ | exact ⟨more_nil,plain_v _⟩ | refine ⟨by first | exact more_one | exact more_nil,by first | exact plain_v _ | exact plain_tup (by simp [Plain.v]),?_⟩
 all_goals try simp only [decide_eq_true_eq,decide_eq_false_iff_not,Bool.not_eq_true',Bool.not_eq_false',AV.v.injEq,AV.tup.injEq,List.cons.injEq,Value.int.injEq,Value.bool.injEq,true_and,and_true] at *
 all_goals (try simp only [band] at *)
 all_goals (try simp_all)
 all_goals grind
theorem c151 (hO:On cx) (a b:Int) (h:AH):SimCall cx 151 [VI a,VI b] h fun r h'=>h' = h ∧ r = VB (decide (0 ≤ a) && decide (a < b)):=by
 refine SimCall.gc ?_
 refine SimCall.by hO.P res151 ?_
 unfold x151 r151
 repeat' first
  | ((with_reducible show SemL _ _ _ _);refine SemL.of ?_)
  | simp (maxSteps:=1000000) only [go_sem]
  | ((with_reducible show wl _ (XI.mk _ (some _) (XBody.op _) :: _) _ _);refine wl_optT rfl (fun e2=>by ((try simp only [Bool.and_eq_true] at e2);first | (simp (maxSteps:=1000000) only [e2,go_sem];first | done | rfl))) ?_)
 all_goals first | exact ⟨more_one,plain_v _⟩ | exact ⟨more_nil,plain_v _⟩ | refine ⟨by first | exact more_one | exact more_nil,by first | exact plain_v _ | exact plain_tup (by simp [Plain.v]),?_⟩
 all_goals try simp only [decide_eq_true_eq,decide_eq_false_iff_not,Bool.not_eq_true',Bool.not_eq_false',AV.v.injEq,AV.tup.injEq,List.cons.injEq,Value.int.injEq,Value.bool.injEq,true_and,and_true] at *
 all_goals (try simp only [band] at *)
 all_goals (try simp_all)
 all_goals grind
theorem c150 (hO:On cx) (l:Look h id mid im is tv fv bv bodyv slotsv) (hk:is[k]? = some i):SimCall cx 150 [.ptr id 0 0,VI k] h fun r h'=>h' = h ∧ r = VB (decide (jumps i = 3) && !(decide (0 ≤ i.imm) && decide (i.imm < im.funcs.length))):=by
 obtain ⟨p,hp1,hp2,hp3,_⟩:=l.body.get Ins.len (by decide) hk
 refine SimCall.gc ?_
 refine SimCall.by hO.P res150 ?_
 unfold x150 r150
 repeat' first
  | ((with_reducible show SemD _ _ _ _ _);refine SemD.of ?_)
  | ((with_reducible show dK _ 145 _ _ _);refine dK_of _ (c145 hO i _) ?_)
  | simp (maxSteps:=1000000) only [go_sem,l.rd0,l.rd,l.img.funcs.len,hp1,hp2,hp3,Ins.row]
  | ((with_reducible show wds _ _ (DI.i (XI.mk _ (some _) (XBody.op _)) :: _) _ _);refine wds_optT rfl (fun e2=>by ((try simp only [Bool.and_eq_true] at e2);first | (simp (maxSteps:=1000000) only [e2,go_sem,l.rd0,l.rd,l.img.funcs.len,hp1,hp2,hp3,Ins.row];first | done | rfl))) ?_)
  | ((with_reducible show wds _ _ (DI.i (XI.mk _ (some _) (XBody.call (XO.f 151) _)) :: _) _ _);refine wds_optcT rfl rfl (fun e2=>by simp (maxSteps:=1000000) only [e2,go_sem,l.rd0,l.rd,l.img.funcs.len,hp1,hp2,hp3,Ins.row];exact (c151 hO _ _ _)) ?_)
 all_goals first | exact ⟨more_one,plain_v _⟩ | exact ⟨more_nil,plain_v _⟩ | refine ⟨by first | exact more_one | exact more_nil,by first | exact plain_v _ | exact plain_tup (by simp [Plain.v]),?_⟩
 all_goals try simp only [decide_eq_true_eq,decide_eq_false_iff_not,Bool.not_eq_true',Bool.not_eq_false',AV.v.injEq,AV.tup.injEq,List.cons.injEq,Value.int.injEq,Value.bool.injEq,true_and,and_true] at *
 all_goals (try simp only [band] at *)
 all_goals (try simp_all)
 all_goals grind
theorem c152 (hO:On cx) (l:Look h id mid im is tv fv bv bodyv slotsv) (hk:is[k]? = some i):SimCall cx 152 [.ptr id 0 0,VI k] h fun r h'=>h' = h ∧ r = VB (decide (i.op = 24) && decide (i.src = 1) && !(decide (0 ≤ i.imm) && decide (i.imm < im.tables.length))):=by
 obtain ⟨p,hp1,hp2,hp3,_⟩:=l.body.get Ins.len (by decide) hk
 refine SimCall.gc ?_
 refine SimCall.by hO.P res152 ?_
 unfold x152 r152
 repeat' first
  | ((with_reducible show SemD _ _ _ _ _);refine SemD.of ?_)
  | ((with_reducible show dK _ 107 _ _ _);refine dK_of _ (c107 hO i _) ?_)
  | simp (maxSteps:=1000000) only [go_sem,l.rd0,l.rd,l.img.tables.len,hp1,hp2,hp3,Ins.row]
  | ((with_reducible show wds _ _ (DI.i (XI.mk _ (some _) (XBody.op _)) :: _) _ _);refine wds_optT rfl (fun e2=>by ((try simp only [Bool.and_eq_true] at e2);first | (simp (maxSteps:=1000000) only [e2,go_sem,l.rd0,l.rd,l.img.tables.len,hp1,hp2,hp3,Ins.row];first | done | rfl))) ?_)
  | ((with_reducible show wds _ _ (DI.i (XI.mk _ (some _) (XBody.call (XO.f 151) _)) :: _) _ _);refine wds_optcT rfl rfl (fun e2=>by simp (maxSteps:=1000000) only [e2,go_sem,l.rd0,l.rd,l.img.tables.len,hp1,hp2,hp3,Ins.row];exact (c151 hO _ _ _)) ?_)
 all_goals first | exact ⟨more_one,plain_v _⟩ | exact ⟨more_nil,plain_v _⟩ | refine ⟨by first | exact more_one | exact more_nil,by first | exact plain_v _ | exact plain_tup (by simp [Plain.v]),?_⟩
 all_goals try simp only [decide_eq_true_eq,decide_eq_false_iff_not,Bool.not_eq_true',Bool.not_eq_false',AV.v.injEq,AV.tup.injEq,List.cons.injEq,Value.int.injEq,Value.bool.injEq,true_and,and_true] at *
 all_goals (try simp only [band] at *)
 all_goals (try simp_all)
 all_goals grind
theorem info_form (op:Int):(info op).form = form op:=by
 unfold info
 simp only
 split
 ·rename_i h;rw [h]
 ·rfl
theorem c153 (hO:On cx) (l:Look h id mid im is tv fv bv bodyv slotsv) (hk:is[k]? = some i):SimCall cx 153 [.ptr id 0 0,VI k] h fun r h'=>h' = h ∧ r = VB (decide (form i.op = 9) && decide (i.src = 0) && (decide (i.imm < 1) || decide (4 < i.imm))):=by
 obtain ⟨p,hp1,hp2,hp3,_⟩:=l.body.get Ins.len (by decide) hk
 refine SimCall.gc ?_
 refine SimCall.by hO.P res153 ?_
 unfold x153 r153
 repeat' first
  | ((with_reducible show SemL _ _ _ _);refine SemL.of ?_)
  | ((with_reducible show SimCall _ 154 _ _ _);refine (c154 hO _ _).mono ?_;rintro r h' ⟨rfl,rfl⟩)
  | simp (maxSteps:=1000000) only [go_sem,l.rd0,l.rd,hp1,hp2,hp3,Ins.row,Use.av,info_form]
  | ((with_reducible show wl _ (XI.mk _ (some _) (XBody.op _) :: _) _ _);first | refine wl_optT rfl (fun e2=>by ((try simp only [Bool.and_eq_true] at e2);first | (simp (maxSteps:=1000000) only [e2,go_sem,l.rd0,l.rd,hp1,hp2,hp3,Ins.row,Use.av,info_form];first | done | rfl))) ?_ | refine wl_opt2F rfl (fun e1 e2=>by ((try simp only [Bool.and_eq_true] at e1);first | (simp (maxSteps:=1000000) only [e1,e2,go_sem,l.rd0,l.rd,hp1,hp2,hp3,Ins.row,Use.av,info_form];first | done | rfl))) ?_)
 all_goals first | exact ⟨more_one,plain_v _⟩ | exact ⟨more_nil,plain_v _⟩ | refine ⟨by first | exact more_one | exact more_nil,by first | exact plain_v _ | exact plain_tup (by simp [Plain.v]),?_⟩
 all_goals try simp only [decide_eq_true_eq,decide_eq_false_iff_not,Bool.not_eq_true',Bool.not_eq_false',AV.v.injEq,AV.tup.injEq,List.cons.injEq,Value.int.injEq,Value.bool.injEq,true_and,and_true] at *
 all_goals (try simp only [band] at *)
 all_goals (try simp_all)
 all_goals grind
end
end Go.Tidy
namespace Go.Tidy
open Go Go.Eng Go.Proofs
variable {cx:Cx}
def mapN (ws:List Nat) (n:Nat):List (Nat × Value × AV):=(List.range n).map fun k=>(k,.int .i64 (psum ws k),VI k)
theorem mapN_succ (ws:List Nat) (n:Nat):mapN ws (n + 1) = mapN ws n ++ [(n,.int .i64 (psum ws n),VI n)]:=by
 unfold mapN
 rw [List.range_succ,List.map_append]
 rfl
theorem find_int (x:Int):∀ (es:List (Nat × Value × AV)),(∀ e ∈ es,∃ n:Int,e.2.1 = .int .i64 n) → ∃ o:Option Nat,xFind ⟨false,[1]⟩ (.int .i64 x) es = some o ∧ (o.isSome = true ↔ ∃ e ∈ es,e.2.1 = .int .i64 x) ∧ ∀ i,o = some i → i < es.length
 | [],_=>⟨none,rfl,by simp,fun i h=>by cases h⟩
 | e :: r,h=>by
   obtain ⟨n,hn⟩:=h e (by simp)
   obtain ⟨o,h1,h2,h3⟩:=find_int x r (fun e' he=>h e' (by simp [he]))
   simp only [xFind,hn]
   by_cases hx:x = n
   ·subst hx
    refine ⟨some 0,by simp [xEq,ofV,xEqs,sameOne],by simp [hn],fun i hi=>by cases hi;simp⟩
   ·refine ⟨o.map (· + 1),by simp [xEq,ofV,xEqs,sameOne,hx,h1],?_,?_⟩
    ·simp only [Option.isSome_map,h2,List.mem_cons]
     constructor
     ·rintro ⟨e',he,q⟩;exact ⟨e',.inr he,q⟩
     ·rintro ⟨e',rfl | he,q⟩
      ·rw [hn] at q;cases q;exact absurd rfl hx
      ·exact ⟨e',he,q⟩
    ·intro i hi
     cases o with
     | none=>cases hi
     | some j=>simp at hi;subst hi;simpa using h3 j rfl
theorem keyI_ok (x:Int):keyOk ⟨false,[1]⟩ (.int .i64 x) = true:=by simp [keyOk,xEq,ofV,xEqs,sameOne]
theorem mapN_int (ws:List Nat) (n:Nat):∀ e ∈ mapN ws n,∃ x:Int,e.2.1 = .int .i64 x:=by
 intro e he
 obtain ⟨k,_,rfl⟩:=List.mem_map.1 he
 exact ⟨_,rfl⟩
theorem mapN_has (ws:List Nat) (n:Nat) (x:Int):(∃ e ∈ mapN ws n,e.2.1 = .int .i64 x) ↔ ∃ k,k < n ∧ (psum ws k:Int) = x:=by
 constructor
 ·rintro ⟨e,he,h⟩
  obtain ⟨k,hk,rfl⟩:=List.mem_map.1 he
  simp at h
  exact ⟨k,by simpa using hk,h⟩
 ·rintro ⟨k,hk,h⟩
  exact ⟨_,List.mem_map.2 ⟨k,by simpa using hk,rfl⟩,by simp [h]⟩
section
variable {H:AH} {m:AV} {id c n:Nat} {ws:List Nat} {x:Int}
open Classical in
theorem lku_int (hm:H.mapAt m = some (id,c,mapN ws n)):∃ a:Int,xLku H ⟨false,[1]⟩ (.int .i64 0) true m (VI x) = some (.tup [VI a,VB (decide (∃ k,k < n ∧ (psum ws k:Int) = x))]):=by
 obtain ⟨o,h1,h2,h3⟩:=find_int x (mapN ws n) (mapN_int ws n)
 rw [mapN_has] at h2
 unfold xLku xLk
 simp only [AV.toV,Option.bind_some,keyI_ok,if_true,hm,h1,Option.map_some]
 cases o with
 | none=>
   refine ⟨0,?_⟩
   have:¬ ∃ k,k < n ∧ (psum ws k:Int) = x:=fun h=>by simpa using h2.2 h
   rw [decide_eq_false this]
   rfl
 | some i=>
   have hi:=h3 i rfl
   have hi':i < n:=by simpa [mapN] using hi
   refine ⟨i,?_⟩
   rw [decide_eq_true (h2.1 rfl)]
   have hg:(mapN ws n)[i]? = some (i,.int .i64 (psum ws i),VI i):=by
    unfold mapN
    rw [List.getElem?_map,List.getElem?_range hi']
    rfl
   simp [hg]
theorem mup_int (hm:H.mapAt m = some (id,n,mapN ws n)) (hx:∀ k,k < n → psum ws k < psum ws n) :
 xMup H ⟨false,[1]⟩ m (VI (psum ws n:Nat)) (VI n) = some (H.set id (.map (n + 1) (mapN ws (n + 1)))):=by
 obtain ⟨o,h1,h2,h3⟩:=find_int (psum ws n:Nat) (mapN ws n) (mapN_int ws n)
 rw [mapN_has] at h2
 unfold xMup
 simp only [AV.toV,Option.bind_some,keyI_ok,if_true,hm,h1]
 cases o with
 | none=>simp [mapN_succ]
 | some i=>
   obtain ⟨k,hk,he⟩:=h2.1 rfl
   have:=hx k hk
   omega
end
theorem mapE_eq (is:List Ins):mapE is = mapN (wsI is) is.length:=rfl
open Classical in
theorem c144 (hO:On cx) {h:AH} {id mid k:Nat} {im:Img} {is:List Ins} {i:Ins} {tv fv bv bodyv slotsv:AV} (l:Look h id mid im is tv fv bv bodyv slotsv) (hk:is[k]? = some i) (hfar:-9000000000000000000 ≤ i.far ∧ i.far ≤ 9000000000000000000) :
 SimCall cx 144 [.ptr id 0 0,VI k] h fun r h'=>h' = h ∧ r = VB (leads i && !decide (∃ t,t < is.length ∧ (psum (wsI is) t:Int) = psum (wsI is) k + 1 + i.far)):=by
 obtain ⟨p,hp1,hp2,hp3,_⟩:=l.body.get Ins.len (by decide) hk
 have hlt:=(List.getElem?_eq_some_iff.1 hk).1
 have hll:=l.len
 have hkb:(beginsL is)[k]? = some (psum (wsI is) k:Int):=by simp [beginsL,hlt]
 obtain ⟨q,hq1,_,_,hq4⟩:=l.slots.get fI_len (by decide) hkb
 obtain ⟨q2,hr1,hr2,hr3⟩:=hq4 0 _ rfl
 have hq5:xLd1 h q = some (VI (psum (wsI is) k:Nat)) ∧ ∀ g,xLd1 (h ++ g) q = some (VI (psum (wsI is) k:Nat)):=by
  cases q <;> simp_all [xFad,xLd1]
  all_goals subst hr1;simp_all [xLd1]
 have hps:psum (wsI is) k ≤ 2 * is.length:=by
  refine Nat.le_trans ?_ (wsI_le is)
  rw [← psum_all (wsI is) (t:=max k (wsI is).length) (by omega)]
  exact psum_mono _ (by omega)
 have hw1:IntKind.i64.wrap (((psum (wsI is) k:Nat):Int) + 1) = ((psum (wsI is) k:Nat):Int) + 1:=wrap_id (by omega) (by omega)
 have hlk:∀ y g,∃ a:Int,xLku (h ++ g) ⟨false,[1]⟩ (.int .i64 0) true (.mp mid) (VI y) = some (.tup [VI a,VB (decide (∃ t,t < is.length ∧ (psum (wsI is) t:Int) = y))]):=by
  intro y g
  exact lku_int (by rw [l.map g,mapE_eq])
 by_cases h6:i.op = 6
 ·have hd6:decide (i.op = 6) = true:=decide_eq_true h6
  have hf:i.far = i.imm:=by unfold Ins.far;rw [if_pos h6]
  rw [hf] at hfar ⊢
  have hw2:IntKind.i64.wrap (((psum (wsI is) k:Nat):Int) + 1 + i.imm) = ((psum (wsI is) k:Nat):Int) + 1 + i.imm:=wrap_id (by omega) (by omega)
  refine SimCall.gc ?_
  refine SimCall.by hO.P res144 ?_
  unfold x144 r144
  obtain ⟨a,ha⟩:∃ a:AH → Int,∀ g,xLku (h ++ g) ⟨false,[1]⟩ (.int .i64 0) true (.mp mid) (VI (((psum (wsI is) k:Nat):Int) + 1 + i.imm)) = some (.tup [VI (a g),VB (decide (∃ t,t < is.length ∧ (psum (wsI is) t:Int) = ((psum (wsI is) k:Nat):Int) + 1 + i.imm))]):=
   ⟨fun g=>Classical.choose (hlk _ g),fun g=>Classical.choose_spec (hlk _ g)⟩
  repeat' first
   | ((with_reducible show SemL _ _ _ _);refine SemL.of ?_)
   | ((with_reducible show SimCall _ 145 _ _ _);refine (c145 hO i _).mono ?_;rintro r h' ⟨rfl,rfl⟩)
   | simp (maxSteps:=1000000) only [go_sem,l.rd0,l.rd,hp1,hp2,hp3,Ins.row,hd6,hq1,hq5.1,hq5.2,hw1,hw2,ha]
   | ((with_reducible show wl _ (XI.mk _ (some _) (XBody.op _) :: _) _ _);first | refine wl_optT rfl (fun e2=>by ((try simp only [Bool.and_eq_true] at e2);first | (simp (maxSteps:=1000000) only [e2,go_sem,l.rd0,l.rd,hp1,hp2,hp3,Ins.row,hd6,hq1,hq5.1,hq5.2,hw1,hw2,ha];first | done | rfl))) ?_ | refine wl_optF rfl (fun e2=>by ((try simp only [Bool.and_eq_true] at e2);first | (simp (maxSteps:=1000000) only [e2,go_sem,l.rd0,l.rd,hp1,hp2,hp3,Ins.row,hd6,hq1,hq5.1,hq5.2,hw1,hw2,ha];first | done | rfl))) ?_)
  all_goals first | exact ⟨more_one,plain_v _⟩ | exact ⟨more_nil,plain_v _⟩ | refine ⟨by first | exact more_one | exact more_nil,by first | exact plain_v _ | exact plain_tup (by simp [Plain.v]),?_⟩
  all_goals try simp only [decide_eq_true_eq,decide_eq_false_iff_not,Bool.not_eq_true',Bool.not_eq_false',AV.v.injEq,AV.tup.injEq,List.cons.injEq,Value.int.injEq,Value.bool.injEq,true_and,and_true] at *
  all_goals unfold leads
  all_goals (try simp only [band] at *)
  all_goals (try simp_all)
  all_goals grind
 ·have hd6:decide (i.op = 6) = false:=decide_eq_false h6
  have hf:i.far = i.off:=by unfold Ins.far;rw [if_neg h6]
  rw [hf] at hfar ⊢
  have hw2:IntKind.i64.wrap (((psum (wsI is) k:Nat):Int) + 1 + i.off) = ((psum (wsI is) k:Nat):Int) + 1 + i.off:=wrap_id (by omega) (by omega)
  refine SimCall.gc ?_
  refine SimCall.by hO.P res144 ?_
  unfold x144 r144
  obtain ⟨a,ha⟩:∃ a:AH → Int,∀ g,xLku (h ++ g) ⟨false,[1]⟩ (.int .i64 0) true (.mp mid) (VI (((psum (wsI is) k:Nat):Int) + 1 + i.off)) = some (.tup [VI (a g),VB (decide (∃ t,t < is.length ∧ (psum (wsI is) t:Int) = ((psum (wsI is) k:Nat):Int) + 1 + i.off))]):=
   ⟨fun g=>Classical.choose (hlk _ g),fun g=>Classical.choose_spec (hlk _ g)⟩
  repeat' first
   | ((with_reducible show SemL _ _ _ _);refine SemL.of ?_)
   | ((with_reducible show SimCall _ 145 _ _ _);refine (c145 hO i _).mono ?_;rintro r h' ⟨rfl,rfl⟩)
   | simp (maxSteps:=1000000) only [go_sem,l.rd0,l.rd,hp1,hp2,hp3,Ins.row,hd6,hq1,hq5.1,hq5.2,hw1,hw2,ha]
   | ((with_reducible show wl _ (XI.mk _ (some _) (XBody.op _) :: _) _ _);first | refine wl_optT rfl (fun e2=>by ((try simp only [Bool.and_eq_true] at e2);first | (simp (maxSteps:=1000000) only [e2,go_sem,l.rd0,l.rd,hp1,hp2,hp3,Ins.row,hd6,hq1,hq5.1,hq5.2,hw1,hw2,ha];first | done | rfl))) ?_ | refine wl_optF rfl (fun e2=>by ((try simp only [Bool.and_eq_true] at e2);first | (simp (maxSteps:=1000000) only [e2,go_sem,l.rd0,l.rd,hp1,hp2,hp3,Ins.row,hd6,hq1,hq5.1,hq5.2,hw1,hw2,ha];first | done | rfl))) ?_)
  all_goals first | exact ⟨more_one,plain_v _⟩ | exact ⟨more_nil,plain_v _⟩ | refine ⟨by first | exact more_one | exact more_nil,by first | exact plain_v _ | exact plain_tup (by simp [Plain.v]),?_⟩
  all_goals try simp only [decide_eq_true_eq,decide_eq_false_iff_not,Bool.not_eq_true',Bool.not_eq_false',AV.v.injEq,AV.tup.injEq,List.cons.injEq,Value.int.injEq,Value.bool.injEq,true_and,and_true] at *
  all_goals unfold leads
  all_goals (try simp only [band] at *)
  all_goals (try simp_all)
  all_goals grind
end Go.Tidy
namespace Go.Tidy
open Go Go.Eng Go.Proofs
variable {cx:Cx}
theorem SlT.cells {α:Type} {f:α → List AV} {sz:Nat} {h:AH} {v:AV} {xs:List α} (s:SlT f sz h v xs):v.cellsOf = some [v]:=by cases s <;> rfl
def beginsN (ws:List Nat) (n:Nat):List Int:=(List.range n).map fun k=>(psum ws k:Int)
theorem beginsN_succ (ws:List Nat) (n:Nat):beginsN ws (n + 1) = beginsN ws n ++ [(psum ws n:Int)]:=by
 unfold beginsN
 rw [List.range_succ,List.map_append]
 rfl
theorem beginsN_len (ws:List Nat) (n:Nat):(beginsN ws n).length = n:=by simp [beginsN]
theorem psum_wsI {is:List Ins} {k:Nat} {i:Ins} (h:is[k]? = some i):psum (wsI is) (k + 1) = psum (wsI is) k + wd i:=by
 have:=wsI_take h
 unfold psum wsI at *
 rw [← List.map_take,← List.map_take]
 exact this
theorem psum_bound (is:List Ins) (k:Nat):psum (wsI is) k ≤ 2 * is.length:=by
 refine Nat.le_trans ?_ (wsI_le is)
 rw [← psum_all (wsI is) (t:=max k (wsI is).length) (by omega)]
 exact psum_mono _ (by omega)
def lookG (is:List Ins) (n:Nat):AH:=match n with
 | 0=>[]
 | n + 1=>[.cells 0 (is.getD 0 ⟨0,0,0,0,0⟩).row,.cells 0 [VI ((psum (wsI is) 0:Nat):Int)]] ++ .cells n ((beginsN (wsI is) (n + 1)).map VI) ::
     (List.range n).flatMap fun k=>[.cells 0 (is.getD (k + 1) ⟨0,0,0,0,0⟩).row,.cells 0 [VI ((psum (wsI is) (k + 1):Nat):Int)]]
def lookS (L:Nat) (n:Nat):AV:=match n with
 | 0=>.v (.slice none 0 0)
 | n + 1=>.sl (L + 6) n 0 (n + 1) 1
def lookH (h:AH) (im:Img) (f:Fn) (tv fv bv bodyv:AV) (is:List Ins):AH:=
 .cells 0 [tv,fv,bv,VI im.entry] :: .cells 0 f.row :: .map is.length (mapN (wsI is) is.length) :: .cells 0 [tv,fv,bv,VI im.entry,bodyv,lookS h.length is.length,.mp (h.length + 2)] :: lookG is is.length
theorem lookG_succ (is:List Ins) (n:Nat) {x:Ins} (hx:is[n + 1]? = some x) :
 lookG is (n + 2) = [.cells 0 (is.getD 0 ⟨0,0,0,0,0⟩).row,.cells 0 [VI ((psum (wsI is) 0:Nat):Int)]] ++ .cells (n + 1) ((beginsN (wsI is) (n + 2)).map VI) ::
  (((List.range n).flatMap fun k=>[AO.cells 0 (is.getD (k + 1) ⟨0,0,0,0,0⟩).row,.cells 0 [VI ((psum (wsI is) (k + 1):Nat):Int)]]) ++ [.cells 0 x.row,.cells 0 [VI ((psum (wsI is) (n + 1):Nat):Int)]]):=by
 have e:lookG is (n + 2) = [.cells 0 (is.getD 0 ⟨0,0,0,0,0⟩).row,.cells 0 [VI ((psum (wsI is) 0:Nat):Int)]] ++ .cells (n + 1) ((beginsN (wsI is) (n + 2)).map VI) ::
  (List.range (n + 1)).flatMap fun k=>[.cells 0 (is.getD (k + 1) ⟨0,0,0,0,0⟩).row,.cells 0 [VI ((psum (wsI is) (k + 1):Nat):Int)]]:=rfl
 rw [e,List.range_succ,List.flatMap_append]
 simp [hx]
set_option maxRecDepth 100000 in
set_option maxHeartbeats 4000000 in
theorem c86 (hO:On cx) {h:AH} {im:Img} {tv fv bv bodyv:AV} {is:List Ins} (hr:ImgR h tv fv bv im) (f:Fn) (h0:0 ≤ f.first) (h1:1 ≤ f.count) (h2:f.first + f.count ≤ im.text.length)
 (hs1:xSls 5 tv (some (VI f.first)) (some (VI (f.first + f.count))) = some bodyv) (hs2:SlIns h bodyv is) (hbl:is.length ≤ im.text.length) :
 SimCall cx 86 [.agg [tv,fv,bv,VI im.entry],f.av] h fun r h'=>r = .ptr (h.length + 3) 0 0 ∧ h' = h ++ lookH h im f tv fv bv bodyv is:=by
 have c1:=hr.text.cell
 have c2:=hr.funcs.cell
 have c3:=hr.tables.cell
 have hlen:=hr.len
 have hw0:IntKind.i64.wrap (f.first + f.count) = f.first + f.count:=wrap_id (by omega) (by omega)
 have c4:=hs2.cell
 have c5:=hs2.cells
 refine SimCall.by hO.P res86 ?_
 unfold x86 r86
 repeat' first
  | simp (maxSteps:=1000000) only [go_sem,c1,c2,c3,c4,c5,hs1,hw0,hs2.len]
 refine SimLoop.inv [5,0,19,0,0] (fun k s=>∃ (i:Nat) (g:AH) (sv:AV) (p:Nat),k = is.length - i ∧ i ≤ is.length ∧ p = psum (wsI is) i ∧ g = lookG is i ∧ sv = lookS h.length i ∧
  s = ⟨[.un,.un,.un,.un,.un,.ptr (h.length + 3) 0 0,VI p,.un,.un,.un,.un,.un,.un,.un,.un,.un,.un,.un,.un,.un,.un,.un,.un,.un,.un,.un,bodyv,VI is.length,VI i,.un,.un,.un,.un,.un,.un,.un,.un,.un,.un,.un,.un,.un,.un,.un,.un,.un,.un,.un,.un,.un,.un,.un,.un,.un,.un,.un,.un],
    h ++ (.cells 0 [tv,fv,bv,VI im.entry] :: .cells 0 f.row :: .map i (mapN (wsI is) i) :: .cells 0 [tv,fv,bv,VI im.entry,bodyv,sv,.mp (h.length + 2)] :: g)⟩) ?_ is.length ?_
 rotate_left
 ·exact ⟨0,_,_,0,rfl,Nat.zero_le _,rfl,rfl,rfl,by simp only [go_sem];rfl⟩
 rintro k s ⟨i,g,sv,p,rfl,hi,hp,hg,hsv,rfl⟩
 by_cases hlt:i < is.length
 ·obtain ⟨q,hq1,hq2,hq3,_⟩:=hs2.get Ins.len (by decide) (List.getElem?_eq_getElem hlt)
  have hlt':((i:Int) < is.length):=by omega
  have hw:=wrap_succ hlt (by omega)
  have hpb:=psum_bound is i
  have hw1:IntKind.i64.wrap ((p:Int) + 1) = ((p + 1:Nat):Int):=by rw [wrap_id (by omega) (by omega)];omega
  have hw2:IntKind.i64.wrap (((p + 1:Nat):Int) + 1) = ((p + 2:Nat):Int):=by rw [wrap_id (by omega) (by omega)];omega
  have hgi:=List.getElem?_eq_getElem hlt
  have hps:=psum_wsI hgi
  have hbs:=beginsN_succ (wsI is) i
  have hmono:∀ k,k < i → psum (wsI is) k < psum (wsI is) i:=by
   intro k hk
   have:=psum_lt (wsI is) (fun w hw=>by obtain ⟨j,_,rfl⟩:=List.mem_map.1 hw;exact wd_pos j) hk (by simp [wsI];omega)
   omega
  generalize is[i] = x at hq1 hq2 hq3 hps hgi
  have hmup:∀ o g',xMup (h ++ .cells 0 [tv,fv,bv,VI im.entry] :: .cells 0 f.row :: .map i (mapN (wsI is) i) :: o :: g') ⟨false,[1]⟩ (.mp (h.length + 2)) (VI p) (VI i)
   = some (h ++ .cells 0 [tv,fv,bv,VI im.entry] :: .cells 0 f.row :: .map (i + 1) (mapN (wsI is) (i + 1)) :: o :: g'):=fun o g'=>by
   have hm:=mup_int (H:=h ++ .cells 0 [tv,fv,bv,VI im.entry] :: .cells 0 f.row :: .map i (mapN (wsI is) i) :: o :: g') (m:=.mp (h.length + 2)) (id:=h.length + 2) (n:=i) (ws:=wsI is) (by simp only [go_sem]) hmono
   rw [← hp] at hm
   rw [hm]
   simp only [go_sem]
  have hfr:f.row = [.v (.string f.name),VI f.obj,VI f.first,VI f.count]:=rfl
  rw [hfr] at hmup ⊢
  cases i with
  | zero=>
    simp only [lookG,lookS] at hg hsv
    subst hg
    subst hsv
    have hg1:lookG is 1 = [.cells 0 x.row,.cells 0 [VI p],.cells 0 [VI p]]:=by
     simp [lookG,hgi,hp,beginsN]
    repeat' first
     | ((with_reducible show wx _ (XCode.cond _ _ _) _ _);refine wx_if rfl (fun _=>?_) (fun _=>?_))
     | ((with_reducible show SimCall _ 107 _ _ _);refine (c107 hO x _).mono ?_;rintro r h' ⟨rfl,rfl⟩)
     | simp (maxSteps:=1000000) only [go_sem,hq1,hq2,hq3,hlt',hw,hw1,hw2,hmup,Ins.row,xRows]
    ·rename_i e
     simp at e
     exact ⟨is.length - 1,by omega,1,_,_,p + 2,rfl,by omega,by rw [hps,hp];simp [wd,e],hg1.symm,rfl,rfl⟩
    ·rename_i e
     simp at e
     exact ⟨is.length - 1,by omega,1,_,_,p + 1,rfl,by omega,by rw [hps,hp];simp [wd,e],hg1.symm,rfl,rfl⟩
  | succ i=>
    have hxl:=beginsN_len (wsI is) (i + 1)
    have hsucc:=lookG_succ is i hgi
    rw [← hp,hbs] at hsucc
    rw [← hp] at hbs hsucc
    simp only [lookG,lookS] at hg hsv
    generalize beginsN (wsI is) (i + 1) = xs at hbs hxl hg hsucc
    generalize hg1:[AO.cells 0 (is.getD 0 ⟨0,0,0,0,0⟩).row,.cells 0 [VI ((psum (wsI is) 0:Nat):Int)]] = g1 at hg hsucc
    have hg1l:g1.length = 2:=by rw [← hg1];rfl
    generalize (List.range i).flatMap (fun k=>[AO.cells 0 (is.getD (k + 1) ⟨0,0,0,0,0⟩).row,.cells 0 [VI ((psum (wsI is) (k + 1):Nat):Int)]]) = g2 at hg hsucc
    have hid:h.length + 6 = h.length + (g1.length + 1 + 1 + 1 + 1):=by omega
    rw [hid] at hsv
    subst hg
    subst hsv
    have htk:(xs.map VI).take (i + 1) = xs.map VI:=List.take_of_length_le (by simp;omega)
    have hby:(i + 1 + 1) * 8 ≤ 140737488355328:=by omega
    have hnle:¬ i + 1 + 1 ≤ xs.length:=by omega
    have hnle2:i + 1 ≤ xs.length:=by omega
    repeat' first
     | ((with_reducible show wx _ (XCode.cond _ _ _) _ _);refine wx_if rfl (fun _=>?_) (fun _=>?_))
     | ((with_reducible show SimCall _ 107 _ _ _);refine (c107 hO x _).mono ?_;rintro r h' ⟨rfl,rfl⟩)
     | simp (maxSteps:=1000000) only [go_sem,hq1,hq2,hq3,hlt',hw,hw1,hw2,hmup,Ins.row,xRows,htk,hby,hnle,hnle2,List.length_map,Nat.mul_one]
    ·rename_i e
     simp at e
     refine ⟨is.length - (i + 1 + 1),by omega,i + 1 + 1,_,_,p + 2,rfl,by omega,by rw [hps,hp];simp [wd,e],?_,?_,rfl⟩
     ·rw [hsucc];simp [Ins.row]
     ·rw [← hid];rfl
    ·rename_i e
     simp at e
     refine ⟨is.length - (i + 1 + 1),by omega,i + 1 + 1,_,_,p + 1,rfl,by omega,by rw [hps,hp];simp [wd,e],?_,?_,rfl⟩
     ·rw [hsucc];simp [Ins.row]
     ·rw [← hid];rfl
 ·have hlt':¬ ((i:Int) < is.length):=by omega
  have hin:i = is.length:=by omega
  subst hin
  repeat' first
   | simp (maxSteps:=1000000) only [go_sem,hlt']
  rw [hg,hsv]
  rfl
theorem look_ok {h:AH} {im:Img} {tv fv bv bodyv:AV} {is:List Ins} (hr:ImgR h tv fv bv im) (f:Fn) (hs2:SlIns h bodyv is) (hbl:is.length ≤ im.text.length) (hne:0 < is.length) :
 Look (h ++ lookH h im f tv fv bv bodyv is) (h.length + 3) (h.length + 2) im is tv fv bv bodyv (lookS h.length is.length):=by
 have hlen:=hr.len
 unfold lookH
 refine ⟨by simp only [go_sem],fun g'=>by simp only [go_sem],hr.more _,hs2.more _,?_,fun g'=>by simp only [go_sem];rfl,by omega⟩
 obtain ⟨n,hn⟩:∃ n,is.length = n + 1:=⟨is.length - 1,by omega⟩
 have hbl2:(beginsL is).length = n + 1:=by simp [beginsL,hn]
 have e:lookS h.length is.length = .sl (h.length + 6) n 0 (beginsL is).length 1:=by rw [hn,hbl2];rfl
 rw [e]
 refine SlT.whole (f:=fI) (xs:=beginsL is) (l:=(beginsL is).map VI) (fun g'=>?_) fI_len (flat_fI _).symm
 have e2:beginsL is = beginsN (wsI is) (n + 1):=by unfold beginsL beginsN;rw [hn]
 rw [hn,e2]
 simp only [lookG]
 simp only [go_sem]
end Go.Tidy
namespace Go.Tidy
open Go Go.Eng Go.Proofs
variable {cx:Cx}
def rulesC:List AV:=[VI 191,.fn 142 [],VI 192,.fn 144 [],VI 193,.fn 146 [],VI 194,.fn 147 [],VI 195,.fn 150 [],VI 196,.fn 152 [],VI 197,.fn 153 []]
theorem c85 (hO:On cx) (h:AH):SimCall cx 85 [] h fun r h'=>h' = h ++ [.cells 0 rulesC] ∧ r = .sl h.length 0 0 7 2:=by
 refine SimCall.by hO.P res85 ?_
 unfold x85 r85
 repeat' first
  | simp (maxSteps:=1000000) only [go_sem]
 rfl
structure Good (nf nt:Int) (is:List Ins) (k:Nat) (i:Ins):Prop where
 rule:RuleOk nf nt i
 to:leads i = true → ∃ t,t < is.length ∧ (psum (wsI is) t:Int) = psum (wsI is) k + 1 + i.far
 last:k + 1 = is.length → jumps i = 1 ∨ jumps i = 4
theorem bodyOk_iff {nf nt:Int} {is:List Ins} (hne:0 < is.length):BodyOk nf nt is ↔ ∀ (k:Nat) i,is[k]? = some i → Good nf nt is k i:=by
 constructor
 ·intro h k i hk
  exact ⟨h.rule i (List.mem_of_getElem? hk),h.to k i hk,fun hl=>h.last i (by rw [← hl];exact hk)⟩
 ·intro h
  refine ⟨hne,?_,fun k i hk=>(h k i hk).to,fun i hi=>(h _ i hi).last (by omega)⟩
  intro i hi
  obtain ⟨k,hk⟩:=List.mem_iff_getElem?.1 hi
  exact (h k i hk).rule
open Classical in
noncomputable def codeOf (nf nt:Int) (is:List Ins) (k:Nat) (i:Ins):Int:=
 if ¬ may i = 0 then 191
 else if leads i = true ∧ ¬ ∃ t,t < is.length ∧ (psum (wsI is) t:Int) = psum (wsI is) k + 1 + i.far then 192
 else if k + 1 = is.length ∧ ¬ jumps i = 1 ∧ ¬ jumps i = 4 then 193
 else if 10 ∈ writes i then 194
 else if jumps i = 3 ∧ ¬ (0 ≤ i.imm ∧ i.imm < nf) then 195
 else if i.op = 24 ∧ i.src = 1 ∧ ¬ (0 ≤ i.imm ∧ i.imm < nt) then 196
 else if form i.op = 9 ∧ i.src = 0 ∧ (i.imm < 1 ∨ 4 < i.imm) then 197
 else 0
open Classical in
theorem codeOf_zero {nf nt:Int} {is:List Ins} {k:Nat} {i:Ins}:codeOf nf nt is k i = 0 ↔ Good nf nt is k i:=by
 unfold codeOf
 constructor
 ·intro h
  by_cases h1:may i = 0
  ·rw [if_neg (by simpa using h1)] at h
   by_cases h2:leads i = true ∧ ¬ ∃ t,t < is.length ∧ (psum (wsI is) t:Int) = psum (wsI is) k + 1 + i.far
   ·rw [if_pos h2] at h;cases h
   ·rw [if_neg h2] at h
    by_cases h3:k + 1 = is.length ∧ ¬ jumps i = 1 ∧ ¬ jumps i = 4
    ·rw [if_pos h3] at h;cases h
    ·rw [if_neg h3] at h
     by_cases h4:10 ∈ writes i
     ·rw [if_pos h4] at h;cases h
     ·rw [if_neg h4] at h
      by_cases h5:jumps i = 3 ∧ ¬ (0 ≤ i.imm ∧ i.imm < nf)
      ·rw [if_pos h5] at h;cases h
      ·rw [if_neg h5] at h
       by_cases h6:i.op = 24 ∧ i.src = 1 ∧ ¬ (0 ≤ i.imm ∧ i.imm < nt)
       ·rw [if_pos h6] at h;cases h
       ·rw [if_neg h6] at h
        by_cases h7:form i.op = 9 ∧ i.src = 0 ∧ (i.imm < 1 ∨ 4 < i.imm)
        ·rw [if_pos h7] at h;cases h
        ·refine ⟨⟨h1,h4,fun q=>?_,fun q1 q2=>?_,fun q1 q2=>?_⟩,fun q=>?_,fun q=>?_⟩
         ·exact Decidable.not_not.1 fun q3=>h5 ⟨q,q3⟩
         ·exact Decidable.not_not.1 fun q3=>h6 ⟨q1,q2,q3⟩
         ·have:=fun q3=>h7 ⟨q1,q2,q3⟩
          omega
         ·exact Decidable.not_not.1 fun q3=>h2 ⟨q,q3⟩
         ·have:=fun q3=>h3 ⟨q,q3⟩
          omega
  ·rw [if_pos h1] at h;cases h
 ·rintro ⟨⟨h1,h2,h3,h4,h5⟩,h6,h7⟩
  rw [if_neg (by simpa using h1),if_neg (fun q=>q.2 (h6 q.1)),if_neg (fun q=>by have:=h7 q.1;omega),if_neg h2,if_neg (fun q=>q.2 (h3 q.1)),if_neg (fun q=>q.2.2 (h4 q.1 q.2.1)),if_neg (fun q=>by have:=h5 q.1 q.2.1;omega)]
noncomputable def brkL (nf nt:Int) (is:List Ins):Nat → List Ins → Int × Int
 | _,[]=>(0,0)
 | k,i :: r=>if codeOf nf nt is k i = 0 then brkL nf nt is (k + 1) r else (k,codeOf nf nt is k i)
theorem brkL_zero {nf nt:Int} {is:List Ins}:∀ (k:Nat) (l:List Ins),(brkL nf nt is k l).2 = 0 ↔ ∀ (j:Nat) i,l[j]? = some i → Good nf nt is (k + j) i
 | k,[]=>by simp [brkL]
 | k,i :: r=>by
   unfold brkL
   by_cases h:codeOf nf nt is k i = 0
   ·rw [if_pos h,brkL_zero (k + 1) r]
    constructor
    ·intro q j x hx
     cases j with
     | zero=>simp at hx;subst hx;exact codeOf_zero.1 h
     | succ j=>have:=q j x (by simpa using hx);rwa [show k + 1 + j = k + (j + 1) by omega] at this
    ·intro q j x hx
     have:=q (j + 1) x (by simpa using hx)
     rwa [show k + (j + 1) = k + 1 + j by omega] at this
   ·rw [if_neg h]
    refine ⟨fun q=>absurd q h,fun q=>absurd (codeOf_zero.2 (q 0 i rfl)) h⟩
open Classical in
set_option maxRecDepth 100000 in
set_option maxHeartbeats 4000000 in
theorem c87 (hO:On cx) {h:AH} {id mid rid:Nat} {im:Img} {is:List Ins} {tv fv bv bodyv slotsv:AV} (l:Look h id mid im is tv fv bv bodyv slotsv) (hr0:AH.rd h rid 0 = some rulesC) (hr:∀ g,AH.rd (h ++ g) rid 0 = some rulesC)
 (hfar:∀ i ∈ is,-9000000000000000000 ≤ i.far ∧ i.far ≤ 9000000000000000000) :
 SimCall cx 87 [.ptr id 0 0,.sl rid 0 0 7 2] h fun r h'=>h' = h ∧ r = .tup [VI (brkL im.funcs.length im.tables.length is 0 is).1,VI (brkL im.funcs.length im.tables.length is 0 is).2]:=by
 have hll:=l.len
 refine SimCall.gc ?_
 refine SimCall.by hO.P res87 ?_
 unfold x87 r87
 repeat' first
  | simp (maxSteps:=1000000) only [go_sem,l.rd0,l.body.len]
 refine SimLoop.inv [0,0,11,0] (fun k s=>∃ (i:Nat) (g:AH),k = is.length - i ∧ i ≤ is.length ∧ brkL im.funcs.length im.tables.length is 0 is = brkL im.funcs.length im.tables.length is i (is.drop i) ∧
  s = ⟨[.ptr id 0 0,.sl rid 0 0 7 2,.un,.un,.un,.un,.un,.un,.un,.un,.un,.un,.un,VI is.length,VI i,.un,.un,.un,.un,.un,.un,.un,.un,.un,.un,.un,.un,.un,.un,.un,.un,.un,.un],h ++ g⟩) ?_ is.length ?_
 rotate_left
 ·exact ⟨0,[],rfl,Nat.zero_le _,by rw [List.drop_zero],by simp only [go_sem];rfl⟩
 rintro k s ⟨i,g,rfl,hi,hall,rfl⟩
 by_cases hlt:i < is.length
 ·have hlt':((i:Int) < is.length):=by omega
  have hw:=wrap_succ hlt (by omega)
  have hk:=List.getElem?_eq_getElem hlt
  have hfx:=hfar _ (List.getElem_mem hlt)
  rw [List.drop_eq_getElem_cons hlt,brkL] at hall
  generalize is[i] = x at hk hfx hall
  have h7:((7:Nat):Int) = 7:=rfl
  repeat' first
   | ((with_reducible show wx _ (XCode.cond _ _ _) _ _);refine wx_if rfl (fun _=>?_) (fun _=>?_))
   | ((with_reducible show SimLoop _ _ _ _);refine SimLoop.go ?_)
   | ((with_reducible show SimCall _ 142 _ _ _);refine (c142 hO (l.more _) hk).mono ?_;rintro r h' ⟨rfl,rfl⟩)
   | ((with_reducible show SimCall _ 144 _ _ _);refine (c144 hO (l.more _) hk hfx).mono ?_;rintro r h' ⟨rfl,rfl⟩)
   | ((with_reducible show SimCall _ 146 _ _ _);refine (c146 hO (l.more _) hk).mono ?_;rintro r h' ⟨rfl,rfl⟩)
   | ((with_reducible show SimCall _ 147 _ _ _);refine (c147 hO (l.more _) hk).mono ?_;rintro r h' ⟨rfl,rfl⟩)
   | ((with_reducible show SimCall _ 150 _ _ _);refine (c150 hO (l.more _) hk).mono ?_;rintro r h' ⟨rfl,rfl⟩)
   | ((with_reducible show SimCall _ 152 _ _ _);refine (c152 hO (l.more _) hk).mono ?_;rintro r h' ⟨rfl,rfl⟩)
   | ((with_reducible show SimCall _ 153 _ _ _);refine (c153 hO (l.more _) hk).mono ?_;rintro r h' ⟨rfl,rfl⟩)
   | simp (maxSteps:=1000000) only [go_sem,hlt',hw,hr,rulesC,wrap_id,h7,Int.reduceToNat]
  all_goals simp only [Bool.and_eq_true,Bool.and_eq_false_imp,Bool.or_eq_true,Bool.or_eq_false_iff,Bool.not_eq_true',Bool.not_eq_false',decide_eq_true_eq,decide_eq_false_iff_not] at *
  iterate 7
   rotate_left
  ·have hcode:codeOf im.funcs.length im.tables.length is i x = 0:=by
    unfold codeOf
    repeat' split
    all_goals first
     | rfl
     | (exfalso;grind)
   rw [if_pos hcode] at hall
   exact ⟨is.length - (i + 1),by omega,i + 1,_,rfl,by omega,hall,rfl⟩
  all_goals refine ⟨more_one,plain_tup (by simp [Plain.v]),?_⟩
  all_goals rw [hall]
  ·have hcode:codeOf im.funcs.length im.tables.length is i x = 191:=by
    unfold codeOf
    repeat' split
    all_goals first
     | rfl
     | (exfalso;grind)
   rw [hcode];rfl
  ·have hcode:codeOf im.funcs.length im.tables.length is i x = 192:=by
    unfold codeOf
    repeat' split
    all_goals first
     | rfl
     | (exfalso;grind)
   rw [hcode];rfl
  ·have hcode:codeOf im.funcs.length im.tables.length is i x = 193:=by
    unfold codeOf
    repeat' split
    all_goals first
     | rfl
     | (exfalso;grind)
   rw [hcode];rfl
  ·have hcode:codeOf im.funcs.length im.tables.length is i x = 194:=by
    unfold codeOf
    repeat' split
    all_goals first
     | rfl
     | (exfalso;grind)
   rw [hcode];rfl
  ·have hcode:codeOf im.funcs.length im.tables.length is i x = 195:=by
    unfold codeOf
    repeat' split
    all_goals first
     | rfl
     | (exfalso;grind)
   rw [hcode];rfl
  ·have hcode:codeOf im.funcs.length im.tables.length is i x = 196:=by
    unfold codeOf
    repeat' split
    all_goals first
     | rfl
     | (exfalso;grind)
   rw [hcode];rfl
  ·have hcode:codeOf im.funcs.length im.tables.length is i x = 197:=by
    unfold codeOf
    repeat' split
    all_goals first
     | rfl
     | (exfalso;grind)
   rw [hcode];rfl
 ·have hlt':¬ ((i:Int) < is.length):=by omega
  repeat' first
   | simp (maxSteps:=1000000) only [go_sem,hlt']
  refine ⟨more_one,plain_tup (by simp [Plain.v]),?_⟩
  rw [hall,List.drop_eq_nil_of_le (by omega)]
  rfl
end Go.Tidy
namespace Go.Tidy
open Go Go.Eng Go.Proofs
variable {cx:Cx}
abbrev nilS:AV:=.v (.slice none 0 0)
def CellOk (L:Nat) (G:AH) (c:AV) (xs:List Int):Prop:=
 (xs = [] ∧ c = nilS) ∨ ∃ g1 g2 ver,G = g1 ++ AO.cells ver (xs.map VI) :: g2 ∧ c = .sl (L + (g1.length + 1 + 1)) ver 0 xs.length 1
theorem CellOk.more {L:Nat} {G:AH} {c:AV} {xs:List Int} (h:CellOk L G c xs) (g:AH):CellOk L (G ++ g) c xs:=by
 rcases h with h | ⟨g1,g2,ver,rfl,rfl⟩
 ·exact .inl h
 ·exact .inr ⟨g1,g2 ++ g,ver,by simp,rfl⟩
theorem CellOk.sli {h:AH} {o1 o2:AO} {G:AH} {c:AV} {xs:List Int} (hc:CellOk h.length G c xs) (g:AH):SlI (h ++ o1 :: o2 :: (G ++ g)) c xs:=by
 rcases hc with ⟨rfl,rfl⟩ | ⟨g1,g2,ver,rfl,rfl⟩
 ·exact sli_nil _
 ·refine sli_whole ?_
  simp only [go_sem]
structure SlL (h:AH) (v:AV) (ls:List (List Int)):Prop where
 ex:∃ id ver cells,v = .sl id ver 0 ls.length 1 ∧ (∀ g,AH.rd (h ++ g) id ver = some cells) ∧ cells.length = ls.length ∧ ∀ (i:Nat) c xs,cells[i]? = some c → ls[i]? = some xs → ∀ g,SlI (h ++ g) c xs
theorem callsOf_take {b:List Ins} {k:Nat} {i:Ins} (h:b[k]? = some i):callsOf (b.take (k + 1)) = callsOf (b.take k) ++ (if jumps i = 3 then [i.imm] else []):=by
 obtain ⟨hk,rfl⟩:=List.getElem?_eq_some_iff.1 h
 rw [List.take_succ_eq_append_getElem hk]
 unfold callsOf
 rw [List.filter_append,List.map_append]
 congr 1
 by_cases hj:jumps b[k] = 3 <;> simp [hj]
theorem set_mid (cs:List AV) {i:Nat} (hi:i < cs.length) (x:AV):cs.take i ++ x :: cs.drop (i + 1) = cs.set i x:=by
 rw [List.set_eq_take_append_cons_drop,if_pos hi]
set_option maxRecDepth 100000 in
set_option maxHeartbeats 4000000 in
theorem c89 (hO:On cx) {h:AH} {im:Img} {tv fv bv:AV} (hr:ImgR h tv fv bv im) (hfs:∀ f ∈ im.funcs,0 ≤ f.first ∧ 1 ≤ f.count ∧ f.first + f.count ≤ im.text.length) :
 SimCall cx 89 [.agg [tv,fv,bv,VI im.entry]] h fun r h'=>∃ g,h' = h ++ g ∧ SlL (h ++ g) r (im.funcs.map fun f=>callsOf (body im.text f)):=by
 have c1:=hr.text.cell
 have c2:=hr.funcs.cell
 have c3:=hr.tables.cell
 have hlen:=hr.len
 have hnf:=hr.nf
 have h00:(0:Int) ≤ im.funcs.length:=by omega
 have h24:(im.funcs.length:Int) * ((24:Nat):Int) ≤ 281474976710656:=by omega
 have hbig:(im.funcs.length:Int) < 9223372036854775808:=by omega
 have hfl:∀ n:Nat,(List.replicate n [nilS]).flatten = List.replicate n nilS:=by
  intro n
  induction n with
  | zero=>rfl
  | succ n ih=>rw [List.replicate_succ,List.flatten_cons,ih];rfl
 refine SimCall.by hO.P res89 ?_
 unfold x89 r89
 repeat' first
  | simp (maxSteps:=1000000) only [go_sem,c1,c2,c3,hr.funcs.len,h00,h24,hbig,Int.le_refl,Int.toNat_natCast,hfl]
 refine SimLoop.inv [1,1,9,0,0] (fun k s=>∃ (i:Nat) (G:AH) (cs:List AV),k = im.funcs.length - i ∧ i ≤ im.funcs.length ∧ cs.length = im.funcs.length ∧ (∀ (k:Nat) f c,k < i → im.funcs[k]? = some f → cs[k]? = some c → CellOk h.length G c (callsOf (body im.text f))) ∧ (∀ (k:Nat) c,i ≤ k → cs[k]? = some c → c = nilS) ∧
  s = ⟨[.un,.ptr h.length 0 0,.un,.sl (h.length + 1) 0 0 im.funcs.length 1,.un,.un,.un,.un,.un,.un,.un,.un,.un,fv,VI im.funcs.length,VI i,.un,.un,.un,.un,.un,.un,.un,.un,.un,.un,.un,.un,.un,.un,.un,.un,.un,.un,.un,.un,.un,.un,.un,.un,.un,.un,.un,.un,.un,.un,.un,.un,.un,.un,.un,.un],h ++ (.cells 0 [tv,fv,bv,VI im.entry] :: .cells 0 cs :: G)⟩) ?_ im.funcs.length ?_
 rotate_left
 ·refine ⟨0,[],List.replicate im.funcs.length nilS,rfl,Nat.zero_le _,by simp,fun k f c hk=>absurd hk (by omega),?_,by simp only [go_sem];rfl⟩
  intro k c _ hc
  exact List.eq_of_mem_replicate (List.mem_of_getElem? hc)
 rintro k s ⟨i,G,cs,rfl,hi,hcl,hlo,hhi,rfl⟩
 by_cases hlt:i < im.funcs.length
 ·obtain ⟨q,hq1,hq2,hq3,_⟩:=hr.funcs.get Fn.len (by decide) (List.getElem?_eq_getElem hlt)
  have hlt':((i:Int) < im.funcs.length):=by omega
  have hw:=wrap_succ hlt (by omega)
  have hfi:=List.getElem?_eq_getElem hlt
  obtain ⟨e1,e2,e3⟩:=hfs _ (List.getElem_mem hlt)
  generalize im.funcs[i] = f at hq1 hq2 hq3 hfi e1 e2 e3
  obtain ⟨bodyv,hs1,hs2⟩:=hr.text.sls (a:=f.first) (b:=f.first + f.count) Ins.len e1 (by omega) e3
  have hbe:(im.text.drop f.first.toNat).take ((f.first + f.count).toNat - f.first.toNat) = body im.text f:=by
   unfold body
   congr 1
   omega
  rw [hbe] at hs2
  have hbl:(body im.text f).length ≤ im.text.length:=by unfold body;simp;omega
  have hw0:IntKind.i64.wrap (f.first + f.count) = f.first + f.count:=wrap_id (by omega) (by omega)
  generalize hbd:body im.text f = is at hs2 hbl
  repeat' first
   | simp (maxSteps:=1000000) only [go_sem,hq1,hq2,hq3,hlt',Fn.row,hs1,hs2.len,hw0]
  refine SimLoop.inv [1,1,0,8,0,0,13,0,0] (fun k s=>∃ (j:Nat) (t:AH) (c:AV),k = is.length - j ∧ j ≤ is.length ∧
   ((callsOf (is.take j) = [] ∧ c = nilS) ∨ ∃ t1 g2 ver,t = t1 ++ AO.cells ver ((callsOf (is.take j)).map VI) :: g2 ∧ c = .sl (h.length + (G.length + t1.length + 1 + 1)) ver 0 (callsOf (is.take j)).length 1) ∧
   s = ⟨[.un,.ptr h.length 0 0,.un,.sl (h.length + 1) 0 0 im.funcs.length 1,VI i,.un,.un,.un,.un,.un,.un,.un,.un,fv,VI im.funcs.length,VI i,.un,.un,.un,.un,.un,.un,.un,.un,.un,.un,.un,.un,.un,bodyv,VI is.length,VI j,.un,.un,.un,.un,.un,.un,.un,.un,.un,.un,.un,.un,.un,.un,.un,.un,.un,.un,.un,.un],
     h ++ (.cells 0 [tv,fv,bv,VI im.entry] :: .cells 0 (cs.set i c) :: (G ++ t))⟩) ?_ is.length ?_
  rotate_left
  ·have hnil:cs.set i nilS = cs:=by
    refine List.ext_getElem? fun m=>?_
    by_cases hm:m = i
    ·subst hm
     rw [List.getElem?_set_self (by omega)]
     have:=List.getElem?_eq_getElem (show m < cs.length by omega)
     rw [this,hhi m _ (Nat.le_refl _) this]
    ·rw [List.getElem?_set_ne (fun h=>hm h.symm)]
   refine ⟨0,[.cells 0 [.v (.string f.name),VI f.obj,VI f.first,VI f.count]],nilS,rfl,Nat.zero_le _,.inl ⟨rfl,rfl⟩,?_⟩
   rw [hnil]
   simp only [go_sem]
   rfl
  rintro k s ⟨j,t,c,rfl,hj,hcur,rfl⟩
  by_cases hlj:j < is.length
  ·obtain ⟨p,hp1,hp2,hp3,_⟩:=hs2.get Ins.len (by decide) (List.getElem?_eq_getElem hlj)
   have hlj':((j:Int) < is.length):=by omega
   have hwj:=wrap_succ hlj (by omega)
   have hct:=callsOf_take (List.getElem?_eq_getElem hlj)
   generalize is[j] = x at hp1 hp2 hp3 hct
   have hci:(cs.set i c)[i]? = some c:=List.getElem?_set_self (by omega)
   have hil:i + 1 ≤ (cs.set i c).length:=by rw [List.length_set];omega
   have hss:∀ y,(cs.set i c).take i ++ y :: (cs.set i c).drop (i + 1) = cs.set i y:=by
    intro y
    rw [set_mid _ (by rw [List.length_set];omega),List.set_set]
   have h0i:(0:Int) ≤ i:=by omega
   have hxl:(callsOf (is.take j)).length ≤ j:=by
    unfold callsOf
    rw [List.length_map]
    refine Nat.le_trans (List.length_filter_le _ _) ?_
    simp
    omega
   generalize callsOf (is.take j) = xs at hct hcur hxl
   rcases hcur with ⟨hx,rfl⟩ | ⟨t1,g2,ver,rfl,rfl⟩
   ·skip
    repeat' first
     | ((with_reducible show wx _ (XCode.cond _ _ _) _ _);refine wx_if rfl (fun _=>?_) (fun _=>?_))
     | ((with_reducible show SimCall _ 145 _ _ _);refine (c145 hO x _).mono ?_;rintro r h' ⟨rfl,rfl⟩)
     | simp (maxSteps:=1000000) only [go_sem,hp1,hp2,hp3,hlj',hwj,Ins.row,hci,hil,hss,h0i,hlt',xRows,Int.toNat_natCast,Nat.mul_one,Nat.zero_add]
    ·rename_i e
     simp at e
     rw [if_pos e] at hct
     refine ⟨is.length - (j + 1),by omega,j + 1,_,_,rfl,by omega,.inr ⟨t ++ [.cells 0 x.row,.cells 0 [VI x.imm]],[],0,?_,?_⟩,rfl⟩
     ·rw [hct,hx];simp [Ins.row]
     ·rw [hct,hx];simp
    ·rename_i e
     simp at e
     rw [if_neg e,List.append_nil] at hct
     exact ⟨is.length - (j + 1),by omega,j + 1,_,_,rfl,by omega,.inl ⟨by rw [hct,hx],rfl⟩,rfl⟩
   ·have htk:(xs.map VI).take xs.length = xs.map VI:=List.take_of_length_le (by simp)
    have hby:(xs.length + 1) * 8 ≤ 140737488355328:=by omega
    repeat' first
     | ((with_reducible show wx _ (XCode.cond _ _ _) _ _);refine wx_if rfl (fun _=>?_) (fun _=>?_))
     | ((with_reducible show SimCall _ 145 _ _ _);refine (c145 hO x _).mono ?_;rintro r h' ⟨rfl,rfl⟩)
     | simp (maxSteps:=1000000) only [go_sem,hp1,hp2,hp3,hlj',hwj,Ins.row,hci,hil,hss,h0i,hlt',xRows,Int.toNat_natCast,Nat.mul_one,Nat.zero_add,htk,hby,Nat.not_succ_le_self,List.length_map]
    ·rename_i e
     simp at e
     rw [if_pos e] at hct
     refine ⟨is.length - (j + 1),by omega,j + 1,_,_,rfl,by omega,.inr ⟨t1,g2 ++ [.cells 0 x.row,.cells 0 [VI x.imm]],ver + 1,?_,?_⟩,rfl⟩
     ·rw [hct];simp [Ins.row]
     ·rw [hct];simp
    ·rename_i e
     simp at e
     rw [if_neg e,List.append_nil] at hct
     refine ⟨is.length - (j + 1),by omega,j + 1,_,_,rfl,by omega,.inr ⟨t1,g2 ++ [.cells 0 x.row],ver,?_,?_⟩,rfl⟩
     ·rw [hct];simp [Ins.row]
     ·rw [hct]
  ·have hlj':¬ ((j:Int) < is.length):=by omega
   repeat' first
    | simp (maxSteps:=1000000) only [go_sem,hlj',hw]
   have hjn:is.take j = is:=List.take_of_length_le (by omega)
   rw [hjn] at hcur
   refine ⟨im.funcs.length - (i + 1),by omega,i + 1,_,_,rfl,by omega,?_,?_,?_,rfl⟩
   ·rw [List.length_set];exact hcl
   ·intro k f' c' hk hf' hc'
    by_cases hki:k = i
    ·subst hki
     rw [List.getElem?_set_self (by omega)] at hc'
     simp only [Option.some.injEq] at hc'
     subst hc'
     rw [hfi] at hf'
     simp only [Option.some.injEq] at hf'
     subst hf'
     rw [hbd]
     rcases hcur with ⟨q1,q2⟩ | ⟨t1,g2,ver,q1,q2⟩
     ·exact .inl ⟨q1,q2⟩
     ·refine .inr ⟨G ++ t1,g2,ver,by rw [q1];simp,by rw [q2,List.length_append]⟩
    ·rw [List.getElem?_set_ne (fun h=>hki h.symm)] at hc'
     exact (hlo k f' c' (by omega) hf' hc').more _
   ·intro k c' hk hc'
    rw [List.getElem?_set_ne (by omega)] at hc'
    exact hhi k c' (by omega) hc'
 ·have hlt':¬ ((i:Int) < im.funcs.length):=by omega
  repeat' first
   | simp (maxSteps:=1000000) only [go_sem,hlt']
  refine ⟨_,rfl,⟨h.length + 1,0,cs,?_,?_,?_,?_⟩⟩
  ·rw [List.length_map]
  ·intro g
   simp only [go_sem]
  ·rw [List.length_map];exact hcl
  ·intro k c xs hc hx g
   rw [List.getElem?_map,Option.map_eq_some_iff] at hx
   obtain ⟨f,hf,rfl⟩:=hx
   have hk:k < im.funcs.length:=(List.getElem?_eq_some_iff.1 hf).1
   have:=(hlo k f c (by omega) hf hc).sli (o1:=.cells 0 [tv,fv,bv,VI im.entry]) (o2:=.cells 0 cs) g
   simpa using this
end Go.Tidy
namespace Go.Tidy
open Go Go.Eng Go.Proofs
structure Fr where
 f:Nat
 nx:Nat
 dp:Int
def Rank (ls:List (List Int)) (r:Nat → Nat):Prop:=(∀ (i:Nat) xs,ls[i]? = some xs → ∀ c ∈ xs,r c.toNat < r i) ∧ ∀ i,i < ls.length → 1 ≤ r i ∧ r i ≤ 8
def Done (D:List Int) (c:Nat) (P:Int → Prop):Prop:=∃ d,D[c]? = some d ∧ 1 ≤ d ∧ P d
def FOk (ls:List (List Int)) (D:List Int) (p:Option Nat) (a:Fr):Prop:=
 D[a.f]? = some (-1) ∧ ∃ xs,ls[a.f]? = some xs ∧ a.nx ≤ xs.length ∧ 0 ≤ a.dp ∧ a.dp ≤ 9 ∧ (∀ q,p = some q → (q:Int) ∈ xs) ∧ ∀ c ∈ xs.take a.nx,p = some c.toNat ∨ 9 ≤ a.dp ∨ Done D c.toNat fun d=>d ≤ a.dp
def StOk (ls:List (List Int)) (D:List Int):Option Nat → List Fr → Prop
 | _,[]=>True
 | p,a :: r=>FOk ls D p a ∧ StOk ls D (some a.f) r
structure Dfs (ls:List (List Int)) (D:List Int) (p:Option Nat) (st:List Fr):Prop where
 len:D.length = ls.length
 dom:∀ (i:Nat) d,D[i]? = some d → -1 ≤ d ∧ d ≤ 9
 fin:∀ (i:Nat) d,D[i]? = some d → 1 ≤ d → d = 9 ∨ ∀ xs,ls[i]? = some xs → ∀ c ∈ xs,Done D c.toNat fun dc=>dc < d
 und:∀ (i:Nat),D[i]? = some (-1) → ∃ a ∈ st,a.f = i
 frs:StOk ls D p st
 nd:(st.map (·.f)).Nodup
 rank:∀ r,Rank ls r → (∀ (i:Nat) d,D[i]? = some d → 1 ≤ d → d ≤ r i) ∧ ∀ a ∈ st,a.dp < r a.f
def Turns (D D':List Int):Prop:=D'.length = D.length ∧ ∀ (i:Nat) d,D[i]? = some d → 1 ≤ d → D'[i]? = some d
theorem Done.turn {D D':List Int} (ht:Turns D D') {c:Nat} {P:Int → Prop} (h:Done D c P):Done D' c P:=by
 obtain ⟨d,h1,h2,h3⟩:=h
 exact ⟨d,ht.2 c d h1 h2,h2,h3⟩
theorem turns_set {D:List Int} {i:Nat} {d v:Int} (hi:D[i]? = some d) (hd:d ≤ 0):Turns D (D.set i v):=by
 refine ⟨by simp,fun j e hj he=>?_⟩
 by_cases h:j = i
 ·subst h;rw [hi] at hj;cases hj;omega
 ·rw [List.getElem?_set_ne (fun q=>h q.symm)];exact hj
theorem FOk.turn {ls:List (List Int)} {D D':List Int} {p:Option Nat} {a:Fr} (h:FOk ls D p a) (ht:Turns D D') (hu:D'[a.f]? = some (-1)):FOk ls D' p a:=by
 obtain ⟨_,xs,h1,h2,h3,h4,h5,h6⟩:=h
 refine ⟨hu,xs,h1,h2,h3,h4,h5,fun c hc=>?_⟩
 rcases h6 c hc with h | h | h
 ·exact .inl h
 ·exact .inr (.inl h)
 ·exact .inr (.inr (h.turn ht))
theorem StOk.turn {ls:List (List Int)} {D D':List Int} (ht:Turns D D'):∀ {p:Option Nat} {st:List Fr},StOk ls D p st → (∀ a ∈ st,D'[a.f]? = some (-1)) → StOk ls D' p st
 | _,[],_,_=>trivial
 | p,a :: r,h,hu=>⟨h.1.turn ht (hu a (by simp)),h.2.turn ht fun b hb=>hu b (by simp [hb])⟩
theorem StOk.under {ls:List (List Int)} {D:List Int}:∀ {p:Option Nat} {st:List Fr},StOk ls D p st → ∀ a ∈ st,D[a.f]? = some (-1)
 | _,[],_,a,ha=>by simp at ha
 | p,b :: r,h,a,ha=>by
   rcases List.mem_cons.1 ha with rfl | ha
   ·exact h.1.1
   ·exact h.2.under a ha
theorem StOk.rise {ls:List (List Int)} {D:List Int} {r:Nat → Nat} (hr:Rank ls r):∀ {q:Nat} {st:List Fr},StOk ls D (some q) st → ∀ a ∈ st,r q < r a.f
 | _,[],_,a,ha=>by simp at ha
 | q,b :: rest,h,a,ha=>by
   obtain ⟨⟨_,xs,h1,_,_,_,h5,_⟩,h2⟩:=h
   have hq:r q < r b.f:=by
    have:=hr.1 b.f xs h1 (q:Int) (h5 q rfl)
    simpa using this
   rcases List.mem_cons.1 ha with rfl | ha
   ·exact hq
   ·exact Nat.lt_trans hq (h2.rise hr a ha)
section
variable {ls:List (List Int)} {D:List Int} {st:List Fr} {a:Fr}
theorem dfs_start:Dfs ls (List.replicate ls.length 0) none []:=by
 refine ⟨by simp,?_,?_,?_,trivial,List.nodup_nil,?_⟩
 ·intro i d h
  have:=List.eq_of_mem_replicate (List.mem_of_getElem? h)
  omega
 ·intro i d h h1
  have:=List.eq_of_mem_replicate (List.mem_of_getElem? h)
  omega
 ·intro i h
  have:=List.eq_of_mem_replicate (List.mem_of_getElem? h)
  omega
 ·intro r hr
  refine ⟨fun i d h h1=>?_,fun a ha=>by simp at ha⟩
  have:=List.eq_of_mem_replicate (List.mem_of_getElem? h)
  omega
theorem set_get {D:List Int} {i:Nat} {v:Int} (hi:i < D.length) {j:Nat} {d:Int} (h:(D.set i v)[j]? = some d):(j = i ∧ d = v) ∨ (j ≠ i ∧ D[j]? = some d):=by
 by_cases hj:j = i
 ·subst hj
  rw [List.getElem?_set_self hi] at h
  exact .inl ⟨rfl,by simpa using h.symm⟩
 ·rw [List.getElem?_set_ne (fun q=>hj q.symm)] at h
  exact .inr ⟨hj,h⟩
theorem Dfs.push {p:Option Nat} {c:Nat} (h:Dfs ls D p st) (hp:StOk ls D (some c) st) (hc:D[c]? = some 0):Dfs ls (D.set c (-1)) none (⟨c,0,0⟩ :: st):=by
 have hi:=(List.getElem?_eq_some_iff.1 hc).1
 have ht:Turns D (D.set c (-1)):=turns_set hc (by omega)
 have hlen:=h.len
 have hself:(D.set c (-1))[c]? = some (-1):=List.getElem?_set_self hi
 have hcl:c < ls.length:=by omega
 refine ⟨by simp [hlen],?_,?_,?_,?_,?_,?_⟩
 ·intro i d hd
  rcases set_get hi hd with ⟨_,rfl⟩ | ⟨_,hd⟩
  ·omega
  ·exact h.dom i d hd
 ·intro i d hd h1
  rcases set_get hi hd with ⟨_,rfl⟩ | ⟨_,hd⟩
  ·omega
  ·rcases h.fin i d hd h1 with q | q
   ·exact .inl q
   ·exact .inr fun xs hx c' hc'=>(q xs hx c' hc').turn ht
 ·intro i hd
  rcases set_get hi hd with ⟨rfl,_⟩ | ⟨_,hd⟩
  ·exact ⟨_,List.mem_cons_self,rfl⟩
  ·obtain ⟨b,hb,q⟩:=h.und i hd
   exact ⟨b,List.mem_cons_of_mem _ hb,q⟩
 ·refine ⟨⟨hself,ls[c],List.getElem?_eq_getElem hcl,Nat.zero_le _,by simp,by simp,fun q hq=>by simp at hq,fun c' hc'=>by simp at hc'⟩,?_⟩
  refine hp.turn ht fun b hb=>?_
  have:=hp.under b hb
  by_cases hbc:b.f = c
  ·rw [hbc];exact hself
  ·rw [List.getElem?_set_ne (fun q=>hbc q.symm)];exact this
 ·simp only [List.map_cons,List.nodup_cons]
  refine ⟨fun hm=>?_,h.nd⟩
  obtain ⟨b,hb,q⟩:=List.mem_map.1 hm
  have:=hp.under b hb
  rw [q,hc] at this
  simp at this
 ·intro r hr
  obtain ⟨r1,r2⟩:=h.rank r hr
  refine ⟨?_,?_⟩
  ·intro i d hd h1
   rcases set_get hi hd with ⟨_,rfl⟩ | ⟨_,hd⟩
   ·omega
   ·exact r1 i d hd h1
  ·intro b hb
   rcases List.mem_cons.1 hb with rfl | hb
   ·have:=(hr.2 c (by omega)).1
    simp
    omega
   ·exact r2 b hb
theorem Dfs.step {c:Int} (h:Dfs ls D none (a :: st)) {xs:List Int} (hx:ls[a.f]? = some xs) (hc:xs[a.nx]? = some c) {d v:Int} (hd:D[c.toNat]? = some d) (hv:(d = -1 ∧ v = 9) ∨ (1 ≤ d ∧ v = max a.dp d)):Dfs ls D none (⟨a.f,a.nx + 1,v⟩ :: st):=by
 obtain ⟨⟨hu,xs',h1,h2,h3,h4,h5,h6⟩,h7⟩:=h.frs
 rw [hx] at h1
 cases h1
 have hcm:=List.mem_of_getElem? hc
 have hdom:=h.dom _ _ hd
 have hlt:=(List.getElem?_eq_some_iff.1 hc).1
 refine ⟨h.len,h.dom,h.fin,?_,⟨⟨hu,xs,hx,hlt,?_,?_,fun q hq=>by simp at hq,?_⟩,h7⟩,h.nd,?_⟩
 ·intro i hi
  obtain ⟨b,hb,q⟩:=h.und i hi
  rcases List.mem_cons.1 hb with rfl | hb
  ·exact ⟨_,List.mem_cons_self,q⟩
  ·exact ⟨b,List.mem_cons_of_mem _ hb,q⟩
 ·simp only;omega
 ·simp only;omega
 ·intro c' hc'
  simp only at hc' ⊢
  rw [List.take_succ_eq_append_getElem hlt,List.mem_append] at hc'
  rcases hc' with hc' | hc'
  ·rcases h6 c' hc' with q | q | ⟨e,q1,q2,q3⟩
   ·simp at q
   ·exact .inr (.inl (by omega))
   ·rcases hv with ⟨_,rfl⟩ | ⟨_,rfl⟩
    ·exact .inr (.inl (by omega))
    ·exact .inr (.inr ⟨e,q1,q2,by omega⟩)
  ·have he:xs[a.nx] = c:=(List.getElem?_eq_some_iff.1 hc).2
   rw [List.mem_singleton,he] at hc'
   subst hc'
   rcases hv with ⟨_,rfl⟩ | ⟨h1,rfl⟩
   ·exact .inr (.inl (by omega))
   ·exact .inr (.inr ⟨d,hd,h1,by omega⟩)
 ·intro r hr
  obtain ⟨r1,r2⟩:=h.rank r hr
  refine ⟨r1,?_⟩
  have hrc:=hr.1 a.f xs hx c hcm
  intro b hb
  rcases List.mem_cons.1 hb with rfl | hb
  ·simp only
   rcases hv with ⟨rfl,rfl⟩ | ⟨h1,rfl⟩
   ·exfalso
    obtain ⟨b,hb,q⟩:=h.und _ hd
    rcases List.mem_cons.1 hb with rfl | hb
    ·rw [q] at hrc;omega
    ·have:=h7.rise hr b hb
     rw [q] at this
     omega
   ·have:=r1 _ _ hd h1
    have:=r2 a List.mem_cons_self
    omega
  ·exact r2 b (List.mem_cons_of_mem _ hb)
theorem Dfs.down {c:Int} (h:Dfs ls D none (a :: st)) {xs:List Int} (hx:ls[a.f]? = some xs) (hc:xs[a.nx]? = some c) (h0:0 ≤ c) (hd:D[c.toNat]? = some 0):Dfs ls (D.set c.toNat (-1)) none (⟨c.toNat,0,0⟩ :: ⟨a.f,a.nx + 1,a.dp⟩ :: st):=by
 obtain ⟨⟨hu,xs',h1,h2,h3,h4,h5,h6⟩,h7⟩:=h.frs
 rw [hx] at h1
 cases h1
 have hlt:=(List.getElem?_eq_some_iff.1 hc).1
 have hcm:=List.mem_of_getElem? hc
 have hfr:StOk ls D (some c.toNat) (⟨a.f,a.nx + 1,a.dp⟩ :: st):=by
  refine ⟨⟨hu,xs,hx,hlt,h3,h4,?_,?_⟩,h7⟩
  ·intro q hq
   simp only [Option.some.injEq] at hq
   subst hq
   have:((c.toNat:Nat):Int) = c:=by omega
   rw [this];exact hcm
  ·intro c' hc'
   simp only at hc' ⊢
   rw [List.take_succ_eq_append_getElem hlt,List.mem_append] at hc'
   rcases hc' with hc' | hc'
   ·rcases h6 c' hc' with q | q | q
    ·simp at q
    ·exact .inr (.inl q)
    ·exact .inr (.inr q)
   ·have he:xs[a.nx] = c:=(List.getElem?_eq_some_iff.1 hc).2
    rw [List.mem_singleton,he] at hc'
    subst hc'
    exact .inl rfl
 have h':Dfs ls D (some c.toNat) (⟨a.f,a.nx + 1,a.dp⟩ :: st):=by
  refine ⟨h.len,h.dom,h.fin,?_,hfr,h.nd,?_⟩
  ·intro i hi
   obtain ⟨b,hb,q⟩:=h.und i hi
   rcases List.mem_cons.1 hb with rfl | hb
   ·exact ⟨_,List.mem_cons_self,q⟩
   ·exact ⟨b,List.mem_cons_of_mem _ hb,q⟩
  ·intro r hr
   obtain ⟨r1,r2⟩:=h.rank r hr
   refine ⟨r1,fun b hb=>?_⟩
   rcases List.mem_cons.1 hb with rfl | hb
   ·exact r2 a List.mem_cons_self
   ·exact r2 b (List.mem_cons_of_mem _ hb)
 exact h'.push hfr hd
def liftD (d:Int):List Fr → List Fr
 | []=>[]
 | b :: r=>⟨b.f,b.nx,max b.dp d⟩ :: r
theorem Dfs.pop (h:Dfs ls D none (a :: st)) {xs:List Int} (hx:ls[a.f]? = some xs) (hn:a.nx = xs.length):Dfs ls (D.set a.f (min (a.dp + 1) 9)) none (liftD (min (a.dp + 1) 9) st):=by
 obtain ⟨⟨hu,xs',h1,h2,h3,h4,h5,h6⟩,h7⟩:=h.frs
 rw [hx] at h1
 cases h1
 have hi:=(List.getElem?_eq_some_iff.1 hu).1
 have hnd:=h.nd
 simp only [List.map_cons,List.nodup_cons] at hnd
 have hne:∀ b ∈ st,b.f ≠ a.f:=fun b hb q=>hnd.1 (by rw [← q];exact List.mem_map_of_mem hb)
 have ht:Turns D (D.set a.f (min (a.dp + 1) 9)):=turns_set hu (by omega)
 have hself:(D.set a.f (min (a.dp + 1) 9))[a.f]? = some (min (a.dp + 1) 9):=List.getElem?_set_self hi
 have hall:9 ≤ a.dp ∨ ∀ c ∈ xs,Done D c.toNat fun d=>d ≤ a.dp:=by
  by_cases h9:9 ≤ a.dp
  ·exact .inl h9
  ·right
   intro c hc
   rcases h6 c (by rw [hn,List.take_length];exact hc) with q | q | q
   ·simp at q
   ·exact absurd q h9
   ·exact q
 have hst:StOk ls (D.set a.f (min (a.dp + 1) 9)) (some a.f) st:=h7.turn ht fun b hb=>by
  rw [List.getElem?_set_ne (fun q=>hne b hb q.symm)]
  exact h7.under b hb
 refine ⟨by simp [h.len],?_,?_,?_,?_,by cases st <;> exact hnd.2,?_⟩
 ·intro i d hd
  rcases set_get hi hd with ⟨_,rfl⟩ | ⟨_,hd⟩
  ·omega
  ·exact h.dom i d hd
 ·intro i d hd hd1
  rcases set_get hi hd with ⟨rfl,rfl⟩ | ⟨_,hd⟩
  ·by_cases h9:9 ≤ a.dp
   ·left;omega
   ·rcases hall with q | q
    ·exact absurd q h9
    ·right
     intro ys hy c hc
     rw [hx] at hy
     cases hy
     obtain ⟨e,e1,e2,e3⟩:=q c hc
     exact ⟨e,ht.2 _ _ e1 e2,e2,by omega⟩
  ·rcases h.fin i d hd hd1 with q | q
   ·exact .inl q
   ·exact .inr fun ys hy c hc=>(q ys hy c hc).turn ht
 ·intro i hd
  rcases set_get hi hd with ⟨_,q⟩ | ⟨hne',hd⟩
  ·omega
  ·obtain ⟨b,hb,q⟩:=h.und i hd
   rcases List.mem_cons.1 hb with rfl | hb
   ·exact absurd q.symm hne'
   ·cases st with
    | nil=>simp at hb
    | cons b0 r=>
      rcases List.mem_cons.1 hb with rfl | hb
      ·exact ⟨_,List.mem_cons_self,q⟩
      ·exact ⟨b,List.mem_cons_of_mem _ hb,q⟩
 ·cases st with
  | nil=>trivial
  | cons b r=>
    obtain ⟨⟨q0,ys,q1,q2,q3,q4,q5,q6⟩,q7⟩:=hst
    refine ⟨⟨q0,ys,q1,q2,by simp only;omega,by simp only;omega,fun q hq=>by simp at hq,fun c hc=>?_⟩,q7⟩
    simp only at hc ⊢
    rcases q6 c hc with q | q | ⟨e,e1,e2,e3⟩
    ·simp only [Option.some.injEq] at q
     right;right
     refine ⟨min (a.dp + 1) 9,by rw [← q];exact hself,by omega,by omega⟩
    ·exact .inr (.inl (by omega))
    ·exact .inr (.inr ⟨e,e1,e2,by omega⟩)
 ·intro r hr
  obtain ⟨r1,r2⟩:=h.rank r hr
  have ha:=r2 a List.mem_cons_self
  refine ⟨?_,?_⟩
  ·intro i d hd hd1
   rcases set_get hi hd with ⟨rfl,rfl⟩ | ⟨_,hd⟩
   ·omega
   ·exact r1 i d hd hd1
  ·intro b hb
   cases st with
   | nil=>simp [liftD] at hb
   | cons b0 rr=>
     have hrise:=h7.rise hr
     rcases List.mem_cons.1 hb with rfl | hb
     ·simp only
      have:=hrise b0 List.mem_cons_self
      have:=r2 b0 (by simp)
      omega
     ·exact r2 b (by simp [hb])
def unseen:List Int → Nat
 | []=>0
 | d :: r=>(if d = 0 then 1 else 0) + unseen r
theorem unseen_set:∀ {D:List Int} {i:Nat} {d v:Int},D[i]? = some d → v ≠ 0 → unseen (D.set i v) + (if d = 0 then 1 else 0) = unseen D
 | [],i,d,v,h,_=>by simp at h
 | x :: r,0,d,v,h,hv=>by
   simp at h
   subst h
   simp [unseen,hv]
   omega
 | x :: r,i + 1,d,v,h,hv=>by
   have:=unseen_set (D:=r) (i:=i) (d:=d) (v:=v) (by simpa using h) hv
   simp only [List.set_cons_succ,unseen]
   omega
theorem unseen_le:∀ D:List Int,unseen D ≤ D.length
 | []=>Nat.le_refl _
 | d :: r=>by
   have:=unseen_le r
   simp only [unseen,List.length_cons]
   split <;> omega
theorem Dfs.done (h:Dfs ls D none []) (hall:∀ (i:Nat) d,D[i]? = some d → d ≠ 0) (hin:∀ xs ∈ ls,∀ c ∈ xs,0 ≤ c ∧ c < ls.length):(∀ d ∈ D,d ≤ 8) ↔ RankOk ls:=by
 have hpos:∀ (i:Nat) d,D[i]? = some d → 1 ≤ d:=by
  intro i d hd
  have h1:=h.dom i d hd
  have h2:=hall i d hd
  have h3:d ≠ -1:=by
   rintro rfl
   obtain ⟨a,ha,_⟩:=h.und i hd
   simp at ha
  omega
 constructor
 ·intro h8
  refine ⟨fun i=>(D.getD i 1).toNat,?_,?_⟩
  ·intro i xs hi c hc
   have hlt:=(List.getElem?_eq_some_iff.1 hi).1
   have hlen:=h.len
   have hd:=List.getElem?_eq_getElem (show i < D.length by omega)
   rcases h.fin i _ hd (hpos i _ hd) with q | q
   ·have:=h8 _ (List.getElem_mem (show i < D.length by omega))
    omega
   ·obtain ⟨e,e1,e2,e3⟩:=q xs hi c hc
    simp only [List.getD_eq_getElem?_getD,e1,hd,Option.getD_some]
    omega
  ·intro i hi
   have hlen:=h.len
   have hd:=List.getElem?_eq_getElem (show i < D.length by omega)
   have h1:=hpos i _ hd
   have h2:=h8 _ (List.getElem_mem (show i < D.length by omega))
   simp only [List.getD_eq_getElem?_getD,hd,Option.getD_some]
   omega
 ·rintro ⟨r,hr1,hr2⟩ d hd
  obtain ⟨i,hi⟩:=List.mem_iff_getElem?.1 hd
  have hlt:=(List.getElem?_eq_some_iff.1 hi).1
  have:=((h.rank r ⟨hr1,hr2⟩).1 i d hi (hpos i d hi))
  have:=(hr2 i (by have:=h.len;omega)).2
  omega
end
end Go.Tidy
namespace Go.Tidy
open Go Go.Eng Go.Proofs
variable {cx:Cx}
theorem mxF (a b:Int):xMx false (VI a) (VI b) = some (VI (max a b)):=by
 simp only [xMx,if_true,Bool.false_eq_true,if_false]
 congr 3
 split <;> omega
theorem mxT (a b:Int):xMx true (VI a) (VI b) = some (VI (min a b)):=by
 simp only [xMx,if_true]
 congr 3
 split <;> omega
def frC (a:Fr):List AV:=[VI a.f,VI a.nx,VI a.dp]
def stC (st:List Fr):List AV:=st.reverse.flatMap frC
theorem stC_cons (a:Fr) (st:List Fr):stC (a :: st) = stC st ++ frC a:=by
 unfold stC
 rw [List.reverse_cons,List.flatMap_append]
 simp
theorem stC_len (st:List Fr):(stC st).length = st.length * 3:=by
 unfold stC
 rw [cells_len (sz:=3) (fun _=>rfl),List.length_reverse]
theorem SlL.call {h:AH} {v:AV} {ls:List (List Int)} (s:SlL h v ls) {f:Nat} {xs:List Int} (hf:ls[f]? = some xs) :
 ∃ lp c,xIad 1 v (VI f) = some lp ∧ (∀ g,xLd1 (h ++ g) lp = some c) ∧ xLenL c = some (VI xs.length) ∧ ∀ (k:Nat) x,xs[k]? = some x → ∃ p,xIad 1 c (VI k) = some p ∧ ∀ g,xLd1 (h ++ g) p = some (VI x):=by
 obtain ⟨id,ver,cells,rfl,hrd,hl,hc⟩:=s
 have hlt:=(List.getElem?_eq_some_iff.1 hf).1
 have hcell:=List.getElem?_eq_getElem (show f < cells.length by omega)
 refine ⟨.ptr id ver (0 + f * 1),cells[f],?_,?_,?_,?_⟩
 ·simp [xIad,hlt]
 ·intro g
  simp [xLd1,hrd g,hcell]
 ·exact (hc f _ xs hcell hf []).1
 ·intro k x hx
  obtain ⟨p,hp,_⟩:=(hc f _ xs hcell hf []).2 k x hx
  refine ⟨p,hp,fun g=>?_⟩
  obtain ⟨p',hp',hl'⟩:=(hc f _ xs hcell hf g).2 k x hx
  rw [hp] at hp'
  cases hp'
  exact hl'
theorem SlL.len {h:AH} {v:AV} {ls:List (List Int)} (s:SlL h v ls):xLenL v = some (VI ls.length):=by
 obtain ⟨id,ver,cells,rfl,_⟩:=s
 rfl
section
variable {B:List AV} {m:Nat}
theorem fr_r0 (h:B.length = m * 3) (x:AV) (l:List AV):(B ++ x :: l)[m * 3]? = some x:=by rw [← h];simp
theorem fr_r1 (h:B.length = m * 3) (x y:AV) (l:List AV):(B ++ x :: y :: l)[m * 3 + 1]? = some y:=by rw [← h,List.getElem?_append_right (by omega)];simp
theorem fr_r2 (h:B.length = m * 3) (x y z:AV) (l:List AV):(B ++ x :: y :: z :: l)[m * 3 + 2]? = some z:=by rw [← h,List.getElem?_append_right (by omega)];simp
theorem fr_t1 (h:B.length = m * 3) (x:AV) (l:List AV):List.take (m * 3 + 1) (B ++ x :: l) = B ++ [x]:=by rw [← h,List.take_length_add_append];rfl
theorem fr_t2 (h:B.length = m * 3) (x y:AV) (l:List AV):List.take (m * 3 + 2) (B ++ x :: y :: l) = B ++ [x,y]:=by rw [← h,List.take_length_add_append];rfl
theorem fr_t3 (h:B.length = m * 3) (x y z:AV) (l:List AV):List.take ((m + 1) * 3) (B ++ x :: y :: z :: l) = B ++ [x,y,z]:=by
 have:(m + 1) * 3 = B.length + 3:=by omega
 rw [this,List.take_length_add_append];rfl
theorem fr_d1 (h:B.length = m * 3) (x y:AV) (l:List AV):List.drop (m * 3 + 1 + 1) (B ++ x :: y :: l) = l:=by rw [← h,Nat.add_assoc,← List.drop_drop,List.drop_left];rfl
theorem fr_d2 (h:B.length = m * 3) (x y z:AV) (l:List AV):List.drop (m * 3 + 2 + 1) (B ++ x :: y :: z :: l) = l:=by rw [← h,Nat.add_assoc,← List.drop_drop,List.drop_left];rfl
theorem fr_d3 (h:B.length = m * 3) (x y z a b c:AV) (l:List AV):List.drop ((m + 1) * 3 + 3) (B ++ x :: y :: z :: a :: b :: c :: l) = l:=by
 have:(m + 1) * 3 + 3 = B.length + 6:=by omega
 rw [this,← List.drop_drop,List.drop_left];rfl
end
set_option maxRecDepth 100000 in
set_option maxHeartbeats 8000000 in
theorem c88 (hO:On cx) {h:AH} {lv:AV} {ls:List (List Int)} (hs:SlL h lv ls) (hn:ls.length < 1099511627776) (hin:∀ xs ∈ ls,∀ c ∈ xs,0 ≤ c ∧ c < ls.length) (hxl:∀ xs ∈ ls,xs.length < 1099511627776) :
 SimCall cx 88 [lv] h fun r h'=>∃ g D,h' = h ++ g ∧ D.length = ls.length ∧ SlT fI 1 (h ++ g) r D ∧ ((∀ d ∈ D,d ≤ 8) ↔ RankOk ls):=by
 have h00:(0:Int) ≤ ls.length:=by omega
 have h8:(ls.length:Int) * ((8:Nat):Int) ≤ 281474976710656:=by omega
 have hbig:(ls.length:Int) < 9223372036854775808:=by omega
 have hfl:∀ n:Nat,(List.replicate n [VI 0]).flatten = (List.replicate n (0:Int)).map VI:=by
  intro n
  induction n with
  | zero=>rfl
  | succ n ih=>rw [List.replicate_succ,List.flatten_cons,ih];rfl
 refine SimCall.by hO.P res88 ?_
 unfold x88 r88
 repeat' first
  | simp (maxSteps:=1000000) only [go_sem,hs.len,h00,h8,hbig,Int.le_refl,Int.toNat_natCast,hfl]
 refine SimLoop.inv [0,2,9,0,0] (fun k s=>∃ (i:Nat) (G:AH) (D:List Int),k = ls.length - i ∧ i ≤ ls.length ∧ Dfs ls D none [] ∧ (∀ (k:Nat) d,k < i → D[k]? = some d → d ≠ 0) ∧
  s = ⟨[lv,.un,.un,.sl h.length 0 0 ls.length 1,.un,.un,.un,.un,.un,.un,.un,.un,.un,lv,VI ls.length,VI i,.un,.un,.un,.un,.un,.un,.un,.un,.un,.un,.un,.un,.un,.un,.un,.un,.un,.un,.un,.un,.un,.un,.un,.un,.un,.un,.un,.un,.un,.un,.un,.un,.un,.un,.un,.un,.un,.un,.un,.un,.un,.un,.un,.un,.un,.un,.un,.un,.un,.un,.un,.un,.un,.un,.un,.un,.un,.un,.un,.un,.un,.un,.un,.un,.un,.un,.un,.un,.un,.un,.un,.un,.un,.un,.un,.un,.un,.un,.un,.un,.un,.un,.un,.un,.un,.un,.un,.un,.un,.un,.un,.un,.un,.un,.un,.un,.un,.un,.un,.un,.un,.un,.un,.un,.un,.un,.un,.un,.un,.un,.un,.un,.un,.un,.un,.un,.un,.un,.un,.un,.un,.un],h ++ (.cells 0 (D.map VI) :: G)⟩) ?_ ls.length ?_
 rotate_left
 ·exact ⟨0,[],_,rfl,Nat.zero_le _,dfs_start,fun k d hk=>absurd hk (by omega),by simp only [go_sem];rfl⟩
 rintro k s ⟨i,G,D,rfl,hi,hD,hnz,rfl⟩
 by_cases hlt:i < ls.length
 ·have hlt':((i:Int) < ls.length):=by omega
  have h0i:(0:Int) ≤ i:=by omega
  have hw:=wrap_succ hlt (by omega)
  have hDl:=hD.len
  have hDi0:=List.getElem?_eq_getElem (show i < D.length by omega)
  have hDi:(D.map VI)[i]? = some (VI D[i]):=by rw [List.getElem?_map,hDi0];rfl
  generalize D[i] = d at hDi hDi0
  have hset:∀ y:Int,(D.map VI).take i ++ VI y :: (D.map VI).drop (i + 1) = (D.set i y).map VI:=by
   intro y
   rw [set_mid _ (by simp;omega),List.map_set]
  have hil:i + 1 ≤ (D.map VI).length:=by simp;omega
  repeat' first
   | ((with_reducible show wx _ (XCode.cond _ _ _) _ _);refine wx_if rfl (fun _=>?_) (fun _=>?_))
   | simp (maxSteps:=1000000) only [go_sem,hlt',h0i,hw,hDi,hset,hil,Int.toNat_natCast,Nat.mul_one,Nat.zero_add]
  ·rename_i e
   simp at e
   refine ⟨ls.length - (i + 1),by omega,i + 1,_,_,rfl,by omega,hD,?_,rfl⟩
   intro k d' hk hd'
   by_cases hki:k = i
   ·subst hki
    rw [hDi0] at hd'
    simp only [Option.some.injEq] at hd'
    omega
   ·exact hnz k d' (by omega) hd'
  ·rename_i e
   simp at e
   subst e
   have hD1:=hD.push (c:=i) trivial hDi0
   refine SimLoop.inv [0,2,1,7,0,0] (fun k s=>∃ (D:List Int) (st:List Fr) (g1 g2:AH) (ver:Nat) (rest:List AV),k = 2 * unseen D + st.length ∧ unseen D + st.length ≤ ls.length ∧ Dfs ls D none st ∧ (∀ (k:Nat) d,k < i + 1 → D[k]? = some d → d ≠ 0) ∧
    s = ⟨[lv,.un,.un,.sl h.length 0 0 ls.length 1,.un,.sl (h.length + (g1.length + 1)) ver 0 st.length 3,.un,.un,.un,.un,.un,.un,.un,lv,VI ls.length,VI i,.un,.un,.un,.un,.un,.un,.un,.un,.un,.un,.un,.un,.un,.un,.un,.un,.un,.un,.un,.un,.un,.un,.un,.un,.un,.un,.un,.un,.un,.un,.un,.un,.un,.un,.un,.un,.un,.un,.un,.un,.un,.un,.un,.un,.un,.un,.un,.un,.un,.un,.un,.un,.un,.un,.un,.un,.un,.un,.un,.un,.un,.un,.un,.un,.un,.un,.un,.un,.un,.un,.un,.un,.un,.un,.un,.un,.un,.un,.un,.un,.un,.un,.un,.un,.un,.un,.un,.un,.un,.un,.un,.un,.un,.un,.un,.un,.un,.un,.un,.un,.un,.un,.un,.un,.un,.un,.un,.un,.un,.un,.un,.un,.un,.un,.un,.un,.un,.un,.un,.un,.un,.un],h ++ (.cells 0 (D.map VI) :: (g1 ++ .cells ver (stC st ++ rest) :: g2))⟩) ?_ (2 * unseen (D.set i (-1)) + 1) ?_
   rotate_left
   ·refine ⟨D.set i (-1),[⟨i,0,0⟩],G,[],0,[],rfl,?_,hD1,?_,by simp only [go_sem];rfl⟩
    ·have h1:=unseen_set hDi0 (v:=-1) (by decide)
     have h2:unseen D ≤ ls.length:=by rw [← hDl];exact unseen_le D
     simp at h1
     simp
     omega
    ·intro k d' hk hd'
     rcases set_get (by omega) hd' with ⟨_,rfl⟩ | ⟨hne,hd'⟩
     ·decide
     ·exact hnz k d' (by omega) hd'
   clear hDi hset hil hD1 hDi0 hnz hD hDl
   clear D G
   rintro k s ⟨D,st,g1,g2,ver,rest,rfl,hun,hD,hnz,rfl⟩
   cases st with
   | nil=>
     have hlf:¬ (0:Int) < ((0:Nat):Int):=by decide
     repeat' first
      | simp (maxSteps:=1000000) only [go_sem,hlf,hw]
     exact ⟨ls.length - (i + 1),by omega,i + 1,_,_,rfl,by omega,hD,hnz,rfl⟩
   | cons a st=>
     obtain ⟨f,nx,dp⟩:=a
     have hfr:=hD.frs.1
     obtain ⟨hfu,xs,hxs,hnx,hdp0,hdp9,_,_⟩:=hfr
     simp only at hfu hxs hnx hdp0 hdp9
     have hxsl:=hxl xs (List.mem_of_getElem? hxs)
     have hfl2:=(List.getElem?_eq_some_iff.1 hxs).1
     obtain ⟨lp,lc,hl1,hl2,hl3,hl4⟩:=hs.call hxs
     have hpos:(0:Int) < ((st.length + 1:Nat):Int):=by omega
     have hstl:st.length + 1 ≤ ls.length:=by simp at hun;omega
     have hwl:IntKind.i64.wrap (((st.length + 1:Nat):Int) - 1) = (st.length:Int):=by rw [wrap_id (by omega) (by omega)];omega
     have h0s:(0:Int) ≤ (st.length:Int):=by omega
     have hss:(st.length:Int) < ((st.length + 1:Nat):Int):=by omega
     have hBl:=stC_len st
     rw [stC_cons]
     generalize hBg:stC st = B at hBl
     have hfrc:frC ⟨f,nx,dp⟩ = [VI f,VI nx,VI dp]:=rfl
     rw [hfrc]
     repeat' first
      | simp (maxSteps:=1000000) only [go_sem,hpos,hwl,h0s,hss,Int.toNat_natCast,Nat.zero_add]
     refine SimLoop.inv [0,2,1,0,6,0,0] (fun k s=>∃ (nx:Nat) (dp:Int) (g2:AH),k = xs.length - nx ∧ nx ≤ xs.length ∧ Dfs ls D none (⟨f,nx,dp⟩ :: st) ∧
      s = ⟨[lv,.un,.un,.sl h.length 0 0 ls.length 1,.un,.sl (h.length + (g1.length + 1)) ver 0 (st.length + 1) 3,.ptr (h.length + (g1.length + 1)) ver (st.length * 3),.un,.un,.un,.un,.un,.un,lv,VI ls.length,VI i,.un,.un,.un,.un,.un,.un,.un,.un,.un,.un,.un,.un,.un,.un,.un,.un,.un,.un,.un,.un,.un,.un,.un,.un,.un,.un,.un,.un,.un,.un,.un,.un,.un,.un,.un,.un,.un,.un,.un,.un,.un,.un,.un,.un,.un,.un,.un,.un,.un,.un,.un,.un,.un,.un,.un,.un,.un,.un,.un,.un,.un,.un,.un,.un,.un,.un,.un,.un,.un,.un,.un,.un,.un,.un,.un,.un,.un,.un,.un,.un,.un,.un,.un,.un,.un,.un,.un,.un,.un,.un,.un,.un,.un,.un,.un,.un,.un,.un,.un,.un,.un,.un,.un,.un,.un,.un,.un,.un,.un,.un,.un,.un,.un,.un,.un,.un,.un,.un,.un,.un,.un,.un],
        h ++ (.cells 0 (D.map VI) :: (g1 ++ .cells ver (B ++ VI f :: VI nx :: VI dp :: rest) :: g2))⟩) ?_ (xs.length - nx) ?_
     rotate_left
     ·exact ⟨nx,dp,g2,rfl,hnx,hD,by simp only [go_sem]⟩
     clear hD hnx hdp0 hdp9
     rintro k s ⟨nx,dp,g2,rfl,hnx,hD,rfl⟩
     have hDl:=hD.len
     have hdp:=hD.frs.1
     obtain ⟨_,_,_,_,hdp0,hdp9,_,_⟩:=hdp
     simp only at hdp0 hdp9
     have r0:=fr_r0 hBl
     have r1:=fr_r1 hBl
     have r2:=fr_r2 hBl
     have t1:=fr_t1 hBl
     have t2:=fr_t2 hBl
     have t3:=fr_t3 hBl
     have d1:=fr_d1 hBl
     have d2:=fr_d2 hBl
     have d3:=fr_d3 hBl
     have l1:∀ m:Nat,st.length * 3 + 1 + 1 ≤ B.length + (m + 1 + 1 + 1):=fun m=>by omega
     have l2:∀ m:Nat,st.length * 3 + 2 + 1 ≤ B.length + (m + 1 + 1 + 1):=fun m=>by omega
     by_cases hlx:nx < xs.length
     ·have hlx':((nx:Int) < xs.length):=by omega
      have hc0:=List.getElem?_eq_getElem hlx
      obtain ⟨hcl,hcr⟩:=hin xs (List.mem_of_getElem? hxs) _ (List.getElem_mem hlx)
      obtain ⟨p,hp1,hp2⟩:=hl4 nx _ hc0
      generalize xs[nx] = c at hc0 hcl hcr hp1 hp2
      obtain ⟨ck,rfl⟩:=Int.eq_ofNat_of_zero_le hcl
      have hck:ck < D.length:=by omega
      have hDc0:=List.getElem?_eq_getElem hck
      have hDc:(D.map VI)[ck]? = some (VI D[ck]):=by rw [List.getElem?_map,hDc0];rfl
      generalize D[ck] = d at hDc hDc0
      have hwn:IntKind.i64.wrap ((nx:Int) + 1) = ((nx + 1:Nat):Int):=by rw [wrap_id (by omega) (by omega)];rfl
      have hset:∀ y:Int,(D.map VI).take ck ++ VI y :: (D.map VI).drop (ck + 1) = (D.set ck y).map VI:=by
       intro y
       rw [set_mid _ (by simp;omega),List.map_set]
      have hil:ck + 1 ≤ (D.map VI).length:=by simp;omega
      repeat' first
       | ((with_reducible show wx _ (XCode.cond _ _ _) _ _);refine wx_if rfl (fun _=>?_) (fun _=>?_))
       | simp (maxSteps:=1000000) only [go_sem,hlx',hl1,hl2,hl3,hp1,hp2,r0,r1,r2,t1,t2,d1,d2,l1,l2,hDc,hset,hil,hwn,hcl,hcr,mxF,Int.toNat_natCast,Nat.mul_one,Nat.zero_add]
      ·rename_i e
       simp at e
       exact ⟨xs.length - (nx + 1),by omega,nx + 1,9,g2,rfl,by omega,hD.step hxs hc0 hDc0 (.inl ⟨e,rfl⟩),rfl⟩
      ·rename_i e0 e
       simp at e
       subst e
       have hun2:=unseen_set hDc0 (v:=-1) (by decide)
       simp only [if_true] at hun2
       have hnz2:∀ (k:Nat) d,k < i + 1 → (D.set ck (-1))[k]? = some d → d ≠ 0:=by
        intro k d' hk hd'
        rcases set_get hck hd' with ⟨_,rfl⟩ | ⟨_,hd'⟩
        ·decide
        ·exact hnz k d' hk hd'
       have hdown:=hD.down hxs hc0 hcl hDc0
       have hst2:∀ r,stC (⟨ck,0,0⟩ :: ⟨f,nx + 1,dp⟩ :: st) ++ r = B ++ VI f :: VI ((nx + 1:Nat):Int) :: VI dp :: VI ck :: VI 0 :: VI 0 :: r:=by
        intro r
        rw [stC_cons,stC_cons,hBg]
        simp [frC]
       by_cases hrest:3 ≤ rest.length
       ·obtain ⟨x0,x1,x2,rest,rfl⟩:∃ x0 x1 x2 r,rest = x0 :: x1 :: x2 :: r:=by
         match rest,hrest with
         | x0 :: x1 :: x2 :: r,_=>exact ⟨x0,x1,x2,r,rfl⟩
        have hfit:(st.length + 1 + 1) * 3 ≤ B.length + (rest.length + 1 + 1 + 1 + 1 + 1 + 1):=by omega
        repeat' first
         | simp (maxSteps:=1000000) only [go_sem,xRows,hfit,t3,d3,Nat.zero_add]
        refine ⟨2 * unseen (D.set ck (-1)) + (st.length + 1 + 1),?_,D.set ck (-1),⟨ck,0,0⟩ :: ⟨f,nx + 1,dp⟩ :: st,g1,g2 ++ [.cells 0 [VI ck,VI 0,VI 0]],ver,rest,rfl,?_,hdown,hnz2,?_⟩
        ·(try simp only [List.length_cons]);omega
        ·simp only [List.length_cons] at hun ⊢;omega
        ·rw [hst2];rfl
       ·have hfit:¬ (st.length + 1 + 1) * 3 ≤ B.length + (rest.length + 1 + 1 + 1):=by omega
        have hfit2:(st.length + 1) * 3 ≤ B.length + (rest.length + 1 + 1 + 1):=by omega
        have hby:(st.length + 1 + 1) * 24 ≤ 140737488355328:=by omega
        repeat' first
         | simp (maxSteps:=1000000) only [go_sem,xRows,hfit,hfit2,hby,t3,d3,Nat.zero_add]
        refine ⟨2 * unseen (D.set ck (-1)) + (st.length + 1 + 1),?_,D.set ck (-1),⟨ck,0,0⟩ :: ⟨f,nx + 1,dp⟩ :: st,g1,g2 ++ [.cells 0 [VI ck,VI 0,VI 0]],ver + 1,[],rfl,?_,hdown,hnz2,?_⟩
        ·(try simp only [List.length_cons]);omega
        ·simp only [List.length_cons] at hun ⊢;omega
        ·rw [hst2];rfl
      ·rename_i e0 e
       simp at e e0
       have hdd:=hD.dom ck d hDc0
       exact ⟨xs.length - (nx + 1),by omega,nx + 1,max dp d,g2,rfl,by omega,hD.step hxs hc0 hDc0 (.inr ⟨by omega,rfl⟩),rfl⟩
     ·have hlx':¬ ((nx:Int) < xs.length):=by omega
      have hnl:nx = xs.length:=by omega
      have hfD:f < D.length:=by omega
      have hDf:(D.map VI)[f]? = some (VI (-1)):=by rw [List.getElem?_map,hfu];rfl
      have hset:∀ y:Int,(D.map VI).take f ++ VI y :: (D.map VI).drop (f + 1) = (D.set f y).map VI:=by
       intro y
       rw [set_mid _ (by simp;omega),List.map_set]
      have hil:f + 1 ≤ (D.map VI).length:=by simp;omega
      have h0f:(0:Int) ≤ (f:Int):=by omega
      have hfl3:(f:Int) < ls.length:=by omega
      have hw5:IntKind.i64.wrap (dp + 1) = dp + 1:=wrap_id (by omega) (by omega)
      have hle5:(st.length:Int) ≤ ((st.length + 1:Nat):Int):=by omega
      have hpop:=hD.pop hxs hnl
      simp only at hpop
      have hun2:=unseen_set hfu (v:=min (dp + 1) 9) (by omega)
      have hnz2:∀ (k:Nat) d,k < i + 1 → (D.set f (min (dp + 1) 9))[k]? = some d → d ≠ 0:=by
       intro k d' hk hd'
       rcases set_get hfD hd' with ⟨_,rfl⟩ | ⟨_,hd'⟩
       ·omega
       ·exact hnz k d' hk hd'
      repeat' first
       | ((with_reducible show wx _ (XCode.cond _ _ _) _ _);refine wx_if rfl (fun _=>?_) (fun _=>?_))
       | simp (maxSteps:=1000000) only [go_sem,hlx',hl1,hl2,hl3,r0,r1,r2,t1,t2,d1,d2,l1,l2,hset,hil,h0f,hfl3,hw5,mxF,mxT,hwl,xHi,xLo,h0s,hle5,or_true,Nat.zero_mul,Nat.sub_zero,Int.toNat_natCast,Nat.mul_one,Nat.zero_add]
      ·rename_i e
       cases st with
       | nil=>simp at e
       | cons b st=>
         have hstl2:st.length + 1 + 1 ≤ ls.length:=hstl
         have l6:∀ m:Nat,st.length * 3 + 2 + 1 ≤ (stC st).length + (m + 1 + 1 + 1 + 1 + 1 + 1):=fun m=>by rw [stC_len];omega
         have hwl2:IntKind.i64.wrap (((st.length + 1:Nat):Int) - 1) = (st.length:Int):=by rw [wrap_id (by omega) (by omega)];omega
         have h0s2:(0:Int) ≤ (st.length:Int):=by omega
         have hss2:(st.length:Int) < ((st.length + 1:Nat):Int):=by omega
         rw [stC_cons] at hBg
         have hBl2:=stC_len st
         generalize hBg2:stC st = B2 at hBl2 hBg l6
         have hfrc2:frC b = [VI b.f,VI b.nx,VI b.dp]:=rfl
         rw [hfrc2] at hBg
         subst hBg
         repeat' first
          | simp (maxSteps:=1000000) only [go_sem,hwl2,h0s2,hss2,Int.toNat_natCast,Nat.zero_add,fr_r2 hBl2,fr_t2 hBl2,fr_d2 hBl2,mxF,l6]
         simp at hun2
         refine ⟨2 * unseen (D.set f (min (dp + 1) 9)) + (st.length + 1),?_,D.set f (min (dp + 1) 9),_,g1,g2,ver,VI f :: VI nx :: VI dp :: rest,?_,?_,hpop,hnz2,?_⟩
         ·(try simp only [List.length_cons]);omega
         ·rfl
         ·simp only [liftD,List.length_cons] at hun ⊢;omega
         ·simp only [liftD,stC_cons,hBg2,frC]
          simp
      ·rename_i e
       cases st with
       | cons b st=>simp at e
       | nil=>
         simp at hun2
         refine ⟨2 * unseen (D.set f (min (dp + 1) 9)),?_,D.set f (min (dp + 1) 9),[],g1,g2,ver,VI f :: VI nx :: VI dp :: rest,rfl,?_,hpop,hnz2,?_⟩
         ·simp only [List.length_nil];omega
         ·simp only [List.length_cons,List.length_nil] at hun ⊢;omega
         ·rw [← hBg]
 ·have hlt':¬ ((i:Int) < ls.length):=by omega
  repeat' first
   | simp (maxSteps:=1000000) only [go_sem,hlt']
  refine ⟨_,D,rfl,hD.len,?_,hD.done (fun k d hk=>hnz k d (by have:=(List.getElem?_eq_some_iff.1 hk).1;have:=hD.len;omega) hk) hin⟩
  rw [← hD.len]
  refine SlT.whole (f:=fI) (xs:=D) (l:=D.map VI) (fun g'=>?_) fI_len (flat_fI _).symm
  simp only [go_sem]
end Go.Tidy
namespace Go.Tidy
open Go Go.Eng Go.Proofs
set_option maxRecDepth 100000
def x177:XCode:=.seq (.reg [⟨some 2,none,(.op (.mov (.k (.slice none 0 0))))⟩])
 (.seq (.reg [⟨some 6,none,(.op (.bsl 1 1 [(.int .i64 0)] [(0,1,(.k (.int .i64 0)))]))⟩,oM 3 6])
 (.seq (.seq (.reg [oM 7 0,oN 8 7,oI 9 0])
 (.block 0 (.loop (.seq (.reg [oS 10 9 8])
 (.seq (.cond (.t 10) (.skip)
 (.exit 0))
 (.seq (.block 1 (.seq (.reg [oX 11 6 7 9,oA 12 6 11,⟨some 5,none,(.op (.alloc [(.int .i64 0),(.int .i64 0),(.int .i64 0),(.int .i64 0),(.int .i64 0),(.int .i64 0)]))⟩,⟨none,none,(.op (.st 6 (.t 5) (.t 12)))⟩])
 (.drw none [oM 13 3,oM 14 3,oM 15 3,oN 16 15,⟨some 17,none,(.op (.bin .sub (.t 16) (.k (.int .i64 1))))⟩,oX 18 1 14 17,oL 19 18,oF 20 0 5,oA 21 5 20,⟨some 22,none,(.call (.f 235) [(.t 21)])⟩,⟨some 23,none,(.op (.bin .add (.t 19) (.t 22)))⟩,⟨some 24,none,(.op (.bsl 1 1 [(.int .i64 0)] [(0,1,(.t 23))]))⟩,⟨some 25,none,(.op (.app 1 8 (.t 13) (.t 24)))⟩,oM 3 25])))
 (.reg [oD 26 9 1,oM 9 26])))))))
 (.seq (.reg [oM 27 3,oM 2 27])
 (.ret))))
def r177:List XRes:=[.t 2]
theorem res177:resolveF Tryz.prog 177 = some (x177,r177,28):=by kernel_rfl
def x178:XCode:=.seq (.reg [oO 1 0,oB 2])
 (.seq (.reg [oA 4 5 1,⟨some 5,none,(.call (.f 145) [(.t 4)])⟩,oM 3 5])
 (.seq (.reg [oM 6 3,oE 7 6 1,oM 8 7,xqM 9 8 false 3,⟨some 10,(some (8,false)),(.op (.bin .eql (.t 9) (.k (.int .i64 2))))⟩,oQ 11 8 10,oM 2 11])
 (.ret)))
def r178:List XRes:=[.t 2]
theorem res178:resolveF Tryz.prog 178 = some (x178,r178,12):=by kernel_rfl
def x179:XCode:=.seq (.reg [oI 4 0,oB 5])
 (.seq (.reg [oM 10 0,oN 11 10,oM 6 11])
 (.seq (.reg [oM 12 6,oI 7 0,oM 8 12])
 (.seq (.block 0 (.loop (.seq (.seq (.reg [oM 13 7,oM 14 8,oS 15 13 14])
 (.cond (.t 15) (.skip)
 (.exit 0)))
 (.block 1 (.seq (.reg [oM 16 7,oM 17 8,⟨some 18,none,(.op (.bin .add (.t 16) (.t 17)))⟩,⟨some 19,none,(.op (.cvi .u64 (.t 18)))⟩,⟨some 20,none,(.op (.bin .shr (.t 19) (.k (.int .u64 1))))⟩,⟨some 21,none,(.op (.cvi .i64 (.t 20)))⟩,oM 9 21])
 (.seq (.reg [oM 22 0,oM 23 9,oX 24 1 22 23,oL 25 24,oM 26 1,⟨some 27,none,(.call (.f 236) [(.t 25),(.t 26)])⟩])
 (.cond (.t 27) (.reg [oM 28 9,oD 29 28 1,oM 7 29])
 (.reg [oM 30 9,oM 8 30]))))))))
 (.seq (.reg [oM 31 7,oM 32 7,oM 33 6,oS 34 32 33,oM 35 34,xqM 36 35 true 0,xqM 37 35 true 7,⟨some 38,(some (35,true)),(.op (.iad 1 (.t 36) (.t 37)))⟩,xqL 39 35 true 38,xqM 40 35 true 1,⟨some 41,(some (35,true)),(.op (.bin .eql (.t 39) (.t 40)))⟩,xqM 42 35 true 41,xqM 43 42 false 0,xqM 44 42 false 7,⟨some 45,(some (42,false)),(.op (.iad 1 (.t 43) (.t 44)))⟩,xqL 46 42 false 45,⟨some 47,(some (42,false)),(.call (.f 237) [(.t 46)])⟩,xqM 48 42 false 47,xqM 49 48 true 1,⟨some 50,(some (48,true)),(.call (.f 237) [(.t 49)])⟩,⟨some 51,(some (42,false)),(.op (.pick (.t 48) (.t 50) (.k (.bool false))))⟩,⟨some 52,(some (35,true)),(.op (.pick (.t 42) (.k (.bool true)) (.t 51)))⟩,oP 53 35 52,oM 4 31,oM 5 53])
 (.ret)))))
def r179:List XRes:=[.t 4,.t 5]
theorem res179:resolveF Tryz.prog 179 = some (x179,r179,54):=by kernel_rfl
def x236:XCode:=.seq (.reg [oB 4])
 (.seq (.reg [oM 5 0,⟨some 6,none,(.call (.f 141) [(.t 5)])⟩,oM 7 6,xqM 8 7 true 1,⟨some 9,(some (7,true)),(.call (.f 141) [(.t 8)])⟩,⟨some 10,(some (7,true)),(.op (.un .not (.t 9)))⟩,oP 11 7 10,oM 12 11,xqM 13 12 false 0,xqM 14 12 false 1,⟨some 15,(some (12,false)),(.op (.bin .lss (.t 13) (.t 14)))⟩,oQ 16 12 15,oM 4 16])
 (.ret))
def r236:List XRes:=[.t 4]
theorem res236:resolveF Tryz.prog 236 = some (x236,r236,17):=by kernel_rfl
def x237:XCode:=.seq (.reg [oB 2])
 (.seq (.reg [oM 3 0,oM 4 0,⟨some 5,none,(.op (.bin .neq (.t 3) (.t 4)))⟩,oM 2 5])
 (.ret))
def r237:List XRes:=[.t 2]
theorem res237:resolveF Tryz.prog 237 = some (x237,r237,6):=by kernel_rfl
def x125:XCode:=.seq (.reg [⟨some 2,none,(.op (.mov (.k (.slice none 0 0))))⟩])
 (.seq (.reg [oM 10 0,oN 11 10,⟨some 12,none,(.op (.mks 6 48 [(.int .i64 0),(.int .i64 0),(.int .i64 0),(.int .i64 0),(.int .i64 0),(.int .i64 0)] (.t 11) (.t 11)))⟩,oM 3 12])
 (.seq (.seq (.reg [oM 13 0,oN 14 13,oI 15 0])
 (.block 0 (.loop (.seq (.reg [oS 16 15 14])
 (.seq (.cond (.t 16) (.skip)
 (.exit 0))
 (.seq (.block 1 (.seq (.reg [oM 17 15,oX 18 5 13 15,oA 19 5 18,⟨some 5,none,(.op (.alloc [(.int .i64 0),(.int .i64 0),(.int .i64 0),(.int .i64 0),(.int .i64 0)]))⟩,oM 4 17,⟨none,none,(.op (.st 5 (.t 5) (.t 19)))⟩])
 (.reg [oM 20 3,oM 21 4,oA 22 5 5,⟨some 23,none,(.op (.build [(.int .i64 0),(.int .i64 0),(.int .i64 0),(.int .i64 0),(.int .i64 0),(.int .i64 0)] [(0,5,(.t 22)),(5,1,(.k (.int .i64 (-1))))]))⟩,oX 24 6 20 21,⟨none,none,(.op (.st 6 (.t 24) (.t 23)))⟩])))
 (.reg [oD 25 15 1,oM 15 25])))))))
 (.seq (.reg [oM 26 3,⟨some 27,none,(.call (.f 177) [(.t 26)])⟩,oM 6 27])
 (.seq (.seq (.reg [oM 28 0,oN 29 28,oI 30 0])
 (.block 2 (.loop (.seq (.reg [oS 31 30 29])
 (.seq (.cond (.t 31) (.skip)
 (.exit 2))
 (.seq (.block 3 (.seq (.reg [oM 32 30,oX 33 5 28 30,oA 34 5 33,⟨some 8,none,(.op (.alloc [(.int .i64 0),(.int .i64 0),(.int .i64 0),(.int .i64 0),(.int .i64 0)]))⟩,oM 7 32,⟨none,none,(.op (.st 5 (.t 8) (.t 34)))⟩])
 (.seq (.seq (.reg [oA 35 5 8,⟨some 36,none,(.call (.f 178) [(.t 35)])⟩,⟨some 37,none,(.op (.un .not (.t 36)))⟩])
 (.cond (.t 37) (.exit 3)
 (.skip)))
 (.seq (.reg [oF 38 3 8,oL 39 38,oM 9 39])
 (.seq (.seq (.reg [oF 40 0 8,oL 41 40,oE 42 41 6])
 (.cond (.t 42) (.reg [oF 43 4 8,oL 44 43,oM 9 44])
 (.skip)))
 (.reg [oM 46 3,oM 47 7,oM 48 6,oM 49 6,oM 50 7,oX 51 1 49 50,oL 52 51,oD 53 52 1,oM 54 9,⟨some 55,none,(.op (.bin .add (.t 53) (.t 54)))⟩,⟨some 56,none,(.call (.f 179) [(.t 48),(.t 55)])⟩,oM 45 56,oT 57 0 45,oT 58 1 45,oX 59 6 46 47,oF 60 5 59,⟨none,none,(.op (.st 1 (.t 60) (.t 57)))⟩]))))))
 (.reg [oD 61 30 1,oM 30 61])))))))
 (.seq (.reg [oM 62 3,oM 2 62])
 (.ret))))))
def r125:List XRes:=[.t 2]
theorem res125:resolveF Tryz.prog 125 = some (x125,r125,63):=by kernel_rfl
def x127:XCode:=.seq (.reg [⟨some 2,none,(.op (.mov (.k (.slice none 0 0))))⟩])
 (.seq (.reg [oM 9 0,⟨some 10,none,(.call (.f 177) [(.t 9)])⟩,oM 3 10])
 (.seq (.reg [⟨some 4,none,(.op (.mov (.k (.slice none 0 0))))⟩])
 (.seq (.seq (.reg [oM 11 0,oN 12 11,oI 13 0])
 (.block 0 (.loop (.seq (.reg [oS 14 13 12])
 (.seq (.cond (.t 14) (.skip)
 (.exit 0))
 (.seq (.block 1 (.seq (.reg [oM 15 13,oX 16 6 11 13,oA 17 6 16,⟨some 6,none,(.op (.alloc [(.int .i64 0),(.int .i64 0),(.int .i64 0),(.int .i64 0),(.int .i64 0),(.int .i64 0)]))⟩,oM 5 15,⟨none,none,(.op (.st 6 (.t 6) (.t 17)))⟩])
 (.seq (.reg [oF 18 0 6,oA 19 5 18,⟨some 7,none,(.op (.alloc [(.int .i64 0),(.int .i64 0),(.int .i64 0),(.int .i64 0),(.int .i64 0)]))⟩,⟨none,none,(.op (.st 5 (.t 7) (.t 19)))⟩])
 (.seq (.seq (.reg [oF 20 5 6,oL 21 20,⟨some 22,none,(.op (.bin .geq (.t 21) (.k (.int .i64 0))))⟩])
 (.cond (.t 22) (.seq (.drw none [oM 23 3,oF 24 5 6,oL 25 24,oX 26 1 23 25,oL 27 26,oM 28 3,oM 29 5,oX 30 1 28 29,oL 31 30,⟨some 32,none,(.op (.bin .sub (.t 27) (.t 31)))⟩,⟨some 33,none,(.op (.bin .sub (.t 32) (.k (.int .i64 1))))⟩,oM 8 33])
 (.seq (.reg [oF 34 0 7,oL 35 34,oE 36 35 6])
 (.cond (.t 36) (.reg [oM 37 8,oF 38 4 7,⟨none,none,(.op (.st 1 (.t 38) (.t 37)))⟩])
 (.reg [oM 39 8,oF 40 3 7,⟨none,none,(.op (.st 1 (.t 40) (.t 39)))⟩]))))
 (.skip)))
 (.reg [oM 41 4,oA 42 5 7,⟨some 43,none,(.op (.bsl 5 1 [(.int .i64 0),(.int .i64 0),(.int .i64 0),(.int .i64 0),(.int .i64 0)] [(0,5,(.t 42))]))⟩,⟨some 44,none,(.op (.app 5 40 (.t 41) (.t 43)))⟩,oM 4 44])))))
 (.reg [oD 45 13 1,oM 13 45])))))))
 (.seq (.reg [oM 46 4,oM 2 46])
 (.ret)))))
def r127:List XRes:=[.t 2]
theorem res127:resolveF Tryz.prog 127 = some (x127,r127,47):=by kernel_rfl
def x239:XCode:=.seq (.reg [⟨some 4,none,(.op (.mov (.k (.slice none 0 0))))⟩,oB 5])
 (.seq (.reg [⟨some 12,none,(.op (.mkm none))⟩,oM 6 12])
 (.seq (.reg [oI 7 0])
 (.seq (.seq (.reg [oM 13 0,oN 14 13,oI 15 0])
 (.block 0 (.loop (.seq (.reg [oS 16 15 14])
 (.seq (.cond (.t 16) (.skip)
 (.exit 0))
 (.seq (.block 1 (.seq (.reg [oM 17 15,oM 8 17])
 (.seq (.reg [oM 18 6,oM 19 8,oM 20 7,⟨none,none,(.op (.mup ⟨false,[1]⟩ (.t 18) (.t 19) (.t 20)))⟩])
 (.seq (.reg [oM 21 1,oM 22 8,⟨some 23,none,(.call (.t 21) [(.t 22)])⟩,⟨some 24,none,(.op (.un .not (.t 23)))⟩])
 (.cond (.t 24) (.reg [oM 25 7,oD 26 25 1,oM 7 26])
 (.skip))))))
 (.reg [oD 27 15 1,oM 15 27])))))))
 (.seq (.seq (.reg [oM 28 7,oM 29 0,oN 30 29,⟨some 31,none,(.op (.bin .eql (.t 28) (.t 30)))⟩])
 (.cond (.t 31) (.seq (.reg [oM 32 0,oM 4 32,oB 5])
 (.ret))
 (.skip)))
 (.seq (.reg [⟨some 9,none,(.op (.mov (.k (.slice none 0 0))))⟩])
 (.seq (.seq (.reg [oM 33 0,oN 34 33,oI 35 0])
 (.block 2 (.loop (.seq (.reg [oS 36 35 34])
 (.seq (.cond (.t 36) (.skip)
 (.exit 2))
 (.seq (.block 3 (.seq (.reg [oM 37 35,oX 38 6 33 35,oA 39 6 38,⟨some 11,none,(.op (.alloc [(.int .i64 0),(.int .i64 0),(.int .i64 0),(.int .i64 0),(.int .i64 0),(.int .i64 0)]))⟩,oM 10 37,⟨none,none,(.op (.st 6 (.t 11) (.t 39)))⟩])
 (.seq (.seq (.reg [oM 40 1,oM 41 10,⟨some 42,none,(.call (.t 40) [(.t 41)])⟩])
 (.cond (.t 42) (.exit 3)
 (.skip)))
 (.seq (.seq (.reg [oF 43 5 11,oL 44 43,⟨some 45,none,(.op (.bin .geq (.t 44) (.k (.int .i64 0))))⟩])
 (.cond (.t 45) (.reg [oM 46 6,oF 47 5 11,oL 48 47,⟨some 49,none,(.op (.lku ⟨false,[1]⟩ (.int .i64 0) false (.t 46) (.t 48)))⟩,oF 50 5 11,⟨none,none,(.op (.st 1 (.t 50) (.t 49)))⟩])
 (.skip)))
 (.reg [oM 51 9,oA 52 6 11,⟨some 53,none,(.op (.bsl 6 1 [(.int .i64 0),(.int .i64 0),(.int .i64 0),(.int .i64 0),(.int .i64 0),(.int .i64 0)] [(0,6,(.t 52))]))⟩,⟨some 54,none,(.op (.app 6 48 (.t 51) (.t 53)))⟩,oM 9 54])))))
 (.reg [oD 55 35 1,oM 35 55])))))))
 (.seq (.reg [oM 56 9,oM 4 56,⟨some 5,none,(.op (.mov (.k (.bool true))))⟩])
 (.ret))))))))
def r239:List XRes:=[.t 4,.t 5]
theorem res239:resolveF Tryz.prog 239 = some (x239,r239,57):=by kernel_rfl
def x238:XCode:=.seq (.reg [⟨some 2,none,(.op (.mov (.k (.slice none 0 0))))⟩])
 (.seq (.reg [oM 7 0,oN 8 7,⟨some 9,none,(.op (.mks 1 1 [(.bool false)] (.t 8) (.t 8)))⟩,oM 3 9])
 (.seq (.reg [⟨some 10,none,(.op (.bsl 1 1 [(.int .i64 0)] [(0,1,(.k (.int .i64 0)))]))⟩,oM 4 10])
 (.seq (.block 0 (.loop (.seq (.seq (.reg [oM 11 4,oN 12 11,⟨some 13,none,(.op (.bin .gtr (.t 12) (.k (.int .i64 0))))⟩])
 (.cond (.t 13) (.skip)
 (.exit 0)))
 (.block 1 (.seq (.reg [oM 14 4,oM 15 4,oN 16 15,⟨some 17,none,(.op (.bin .sub (.t 16) (.k (.int .i64 1))))⟩,oX 18 1 14 17,oL 19 18,oM 5 19])
 (.seq (.reg [oM 20 4,oM 21 4,oN 22 21,⟨some 23,none,(.op (.bin .sub (.t 22) (.k (.int .i64 1))))⟩,⟨some 24,none,(.op (.sls 1 (.t 20) none (some (.t 23))))⟩,oM 4 24])
 (.seq (.seq (.reg [oM 25 3,oM 26 5,oX 27 1 25 26,oL 28 27])
 (.cond (.t 28) (.exit 1)
 (.skip)))
 (.seq (.reg [oM 29 3,oM 30 5,oX 31 1 29 30,⟨none,none,(.op (.st 1 (.t 31) (.k (.bool true))))⟩])
 (.seq (.seq (.reg [oM 32 0,oM 33 5,oX 34 6 32 33,oF 35 5 34,oL 36 35,⟨some 37,none,(.op (.bin .geq (.t 36) (.k (.int .i64 0))))⟩])
 (.cond (.t 37) (.reg [oM 38 4,oM 39 0,oM 40 5,oX 41 6 39 40,oF 42 5 41,oL 43 42,⟨some 44,none,(.op (.bsl 1 1 [(.int .i64 0)] [(0,1,(.t 43))]))⟩,⟨some 45,none,(.op (.app 1 8 (.t 38) (.t 44)))⟩,oM 4 45])
 (.skip)))
 (.seq (.reg [oM 46 0,oM 47 5,oX 48 6 46 47,oF 49 0 48,oA 50 5 49,⟨some 51,none,(.call (.f 145) [(.t 50)])⟩,oM 6 51])
 (.seq (.reg [oM 52 6,⟨some 53,none,(.op (.bin .neq (.t 52) (.k (.int .i64 1))))⟩,oM 54 53,xqM 55 54 true 6,⟨some 56,(some (54,true)),(.op (.bin .neq (.t 55) (.k (.int .i64 4))))⟩,oP 57 54 56])
 (.cond (.t 57) (.reg [oM 58 4,oM 59 5,oD 60 59 1,⟨some 61,none,(.op (.bsl 1 1 [(.int .i64 0)] [(0,1,(.t 60))]))⟩,⟨some 62,none,(.op (.app 1 8 (.t 58) (.t 61)))⟩,oM 4 62])
 (.skip)))))))))))))
 (.seq (.reg [oM 63 3,oM 2 63])
 (.ret)))))
def r238:List XRes:=[.t 2]
theorem res238:resolveF Tryz.prog 238 = some (x238,r238,64):=by kernel_rfl
def x243:XCode:=.seq (.reg [oI 4 0])
 (.seq (.reg [⟨some 7,none,(.op (.mkm none))⟩,oM 8 1,⟨none,none,(.op (.mup ⟨false,[1]⟩ (.t 7) (.t 8) (.k (.int .i64 1))))⟩,oM 9 7,oM 5 9])
 (.seq (.reg [oM 10 0,oM 11 1,oX 12 6 10 11,oF 13 5 12,oL 14 13,oM 6 14])
 (.block 0 (.loop (.seq (.block 1 (.seq (.seq (.reg [oM 20 0,oM 21 6,oX 22 6 20 21,oF 23 0 22,oA 24 5 23,⟨some 25,none,(.call (.f 242) [(.t 24)])⟩,⟨some 26,none,(.op (.un .not (.t 25)))⟩])
 (.cond (.t 26) (.seq (.reg [oM 27 6,oM 4 27])
 (.ret))
 (.skip)))
 (.seq (.reg [oM 28 5,oM 29 6,⟨some 30,none,(.op (.lku ⟨false,[1]⟩ (.int .i64 0) false (.t 28) (.t 29)))⟩,oD 31 30 1,⟨none,none,(.op (.mup ⟨false,[1]⟩ (.t 28) (.t 29) (.t 31)))⟩])
 (.seq (.reg [oM 32 5,oM 33 6,⟨some 34,none,(.op (.lku ⟨false,[1]⟩ (.int .i64 0) false (.t 32) (.t 33)))⟩,⟨some 35,none,(.op (.bin .gtr (.t 34) (.k (.int .i64 1))))⟩])
 (.cond (.t 35) (.seq (.reg [oI 4 (-1)])
 (.ret))
 (.skip))))))
 (.reg [oM 15 0,oM 16 6,oX 17 6 15 16,oF 18 5 17,oL 19 18,oM 6 19]))))))
def r243:List XRes:=[.t 4]
theorem res243:resolveF Tryz.prog 243 = some (x243,r243,36):=by kernel_rfl
def x180:XCode:=.seq (.reg [⟨some 2,none,(.op (.mov (.k (.slice none 0 0))))⟩,oB 3])
 (.seq (.reg [oM 5 0,⟨some 6,none,(.call (.f 238) [(.t 5)])⟩,⟨some 4,none,(.op (.alloc [(.slice none 0 0)]))⟩,⟨none,none,(.op (.st 1 (.t 4) (.t 6)))⟩])
 (.seq (.reg [oM 7 0,⟨some 8,none,(.op (.mkf 240 [(.t 4)]))⟩,⟨some 9,none,(.call (.f 239) [(.t 7),(.t 8)])⟩,oT 10 0 9,oT 11 1 9,oM 2 10,oM 3 11])
 (.ret)))
def r180:List XRes:=[.t 2,.t 3]
theorem res180:resolveF Tryz.prog 180 = some (x180,r180,12):=by kernel_rfl
def x240:XCode:=.seq (.reg [oB 3])
 (.seq (.reg [oL 4 1,oM 5 0,oX 6 1 4 5,oL 7 6,⟨some 8,none,(.op (.un .not (.t 7)))⟩,oM 3 8])
 (.ret))
def r240:List XRes:=[.t 3]
theorem res240:resolveF Tryz.prog 240 = some (x240,r240,9):=by kernel_rfl
def x181:XCode:=.seq (.reg [oO 1 0,⟨some 2,none,(.op (.mov (.k (.slice none 0 0))))⟩,oB 3])
 (.seq (.reg [oL 4 1,⟨some 5,none,(.op (.mkf 241 [(.t 1)]))⟩,⟨some 6,none,(.call (.f 239) [(.t 4),(.t 5)])⟩,oT 7 0 6,oT 8 1 6,oM 2 7,oM 3 8])
 (.ret))
def r181:List XRes:=[.t 2,.t 3]
theorem res181:resolveF Tryz.prog 181 = some (x181,r181,9):=by kernel_rfl
def x241:XCode:=.seq (.reg [oB 3])
 (.seq (.reg [oL 5 1,oM 6 0,oX 7 6 5 6,oF 8 0 7,oA 9 5 8,⟨some 4,none,(.op (.alloc [(.int .i64 0),(.int .i64 0),(.int .i64 0),(.int .i64 0),(.int .i64 0)]))⟩,⟨none,none,(.op (.st 5 (.t 4) (.t 9)))⟩])
 (.seq (.reg [oF 10 0 4,oL 11 10,oE 12 11 191,oM 13 12,xqF 14 13 true 3 4,xqL 15 13 true 14,⟨some 16,(some (13,true)),(.op (.bin .eql (.t 15) (.k (.int .i64 0))))⟩,oP 17 13 16,oM 18 17,xqF 19 18 true 1 4,xqL 20 18 true 19,xqF 21 18 true 2 4,xqL 22 18 true 21,⟨some 23,(some (18,true)),(.op (.bin .eql (.t 20) (.t 22)))⟩,oP 24 18 23,oM 25 24,⟨some 26,(some (25,false)),(.op (.lda 5 (.t 4)))⟩,⟨some 27,(some (25,false)),(.call (.f 242) [(.t 26)])⟩,xqM 28 25 false 27,xqL 29 28 true 1,xqM 30 28 true 0,⟨some 31,(some (28,true)),(.op (.iad 6 (.t 29) (.t 30)))⟩,xqF 32 28 true 5 31,xqL 33 28 true 32,xqM 34 28 true 0,⟨some 35,(some (28,true)),(.op (.bin .add (.t 34) (.k (.int .i64 1))))⟩,⟨some 36,(some (28,true)),(.op (.bin .eql (.t 33) (.t 35)))⟩,⟨some 37,(some (25,false)),(.op (.pick (.t 28) (.t 36) (.k (.bool false))))⟩,oQ 38 25 37,oM 3 38])
 (.ret)))
def r241:List XRes:=[.t 3]
theorem res241:resolveF Tryz.prog 241 = some (x241,r241,39):=by kernel_rfl
def x182:XCode:=.seq (.reg [⟨some 2,none,(.op (.mov (.k (.slice none 0 0))))⟩,oB 3])
 (.seq (.reg [oM 9 0,⟨some 10,none,(.call (.f 177) [(.t 9)])⟩,oM 4 10])
 (.seq (.reg [oB 5])
 (.seq (.seq (.reg [oM 11 0,oN 12 11,oI 13 0])
 (.block 0 (.loop (.seq (.reg [oS 14 13 12])
 (.seq (.cond (.t 14) (.skip)
 (.exit 0))
 (.seq (.block 1 (.seq (.reg [oM 15 13,oM 6 15])
 (.seq (.seq (.reg [oM 16 0,oM 17 6,oX 18 6 16 17,oF 19 0 18,oA 20 5 19,⟨some 21,none,(.call (.f 242) [(.t 20)])⟩,⟨some 22,none,(.op (.un .not (.t 21)))⟩])
 (.cond (.t 22) (.exit 1)
 (.skip)))
 (.seq (.reg [oM 23 0,oM 24 6,⟨some 25,none,(.call (.f 243) [(.t 23),(.t 24)])⟩,oM 7 25])
 (.seq (.seq (.reg [oM 26 7,⟨some 27,none,(.op (.bin .lss (.t 26) (.k (.int .i64 0))))⟩,oM 28 27,xqM 29 28 false 7,xqM 30 28 false 0,xqM 31 28 false 6,⟨some 32,(some (28,false)),(.op (.iad 6 (.t 30) (.t 31)))⟩,xqF 33 28 false 5 32,xqL 34 28 false 33,⟨some 35,(some (28,false)),(.op (.bin .eql (.t 29) (.t 34)))⟩,oQ 36 28 35])
 (.cond (.t 36) (.exit 1)
 (.skip)))
 (.seq (.drw none [oM 37 4,oM 38 7,oX 39 1 37 38,oL 40 39,oM 41 4,oM 42 6,oX 43 1 41 42,oL 44 43,⟨some 45,none,(.op (.bin .sub (.t 40) (.t 44)))⟩,⟨some 46,none,(.op (.bin .sub (.t 45) (.k (.int .i64 1))))⟩,oM 8 46])
 (.seq (.reg [oM 47 0,oM 48 6,oX 49 6 47 48,oF 50 0 49,oF 51 0 50,oL 52 51,oE 53 52 6,oM 54 53,xqM 55 54 false 8,⟨some 56,(some (54,false)),(.op (.bin .geq (.t 55) (.k (.int .i64 (-32768)))))⟩,xqM 57 54 false 56,xqM 58 57 true 8,⟨some 59,(some (57,true)),(.op (.bin .lss (.t 58) (.k (.int .i64 32768))))⟩,⟨some 60,(some (54,false)),(.op (.pick (.t 57) (.t 59) (.k (.bool false))))⟩,oQ 61 54 60])
 (.cond (.t 61) (.seq (.reg [oM 62 0,oM 63 6,oM 64 7,oX 65 6 62 63,oF 66 5 65,⟨none,none,(.op (.st 1 (.t 66) (.t 64)))⟩])
 (.reg [⟨some 5,none,(.op (.mov (.k (.bool true))))⟩]))
 (.skip)))))))))
 (.reg [oD 67 13 1,oM 13 67])))))))
 (.seq (.reg [oM 68 0,oM 69 5,oM 2 68,oM 3 69])
 (.ret)))))
def r182:List XRes:=[.t 2,.t 3]
theorem res182:resolveF Tryz.prog 182 = some (x182,r182,70):=by kernel_rfl
def x126:XCode:=.seq (.reg [⟨some 0,none,(.op (.mov (.k (.slice none 0 0))))⟩])
 (.seq (.reg [⟨some 1,none,(.op (.bsl 1 3 [.nilFunc,.nilFunc,.nilFunc] [(0,1,(.f 180)),(1,1,(.f 181)),(2,1,(.f 182))]))⟩,oM 0 1])
 (.ret))
def r126:List XRes:=[.t 0]
theorem res126:resolveF Tryz.prog 126 = some (x126,r126,2):=by kernel_rfl
def x70:XCode:=.seq (.reg [⟨some 2,none,(.op (.mov (.k (.slice none 0 0))))⟩])
 (.seq (.reg [oM 7 0,⟨some 8,none,(.call (.f 125) [(.t 7)])⟩,oM 3 8])
 (.seq (.skip)
 (.seq (.block 0 (.loop (.block 1 (.seq (.seq (.reg [⟨some 9,none,(.call (.f 126) [])⟩,oN 10 9,oI 11 0])
 (.block 2 (.loop (.seq (.reg [oS 12 11 10])
 (.seq (.cond (.t 12) (.skip)
 (.exit 2))
 (.seq (.block 3 (.seq (.reg [oX 13 1 9 11,oL 14 13,oM 5 14])
 (.seq (.reg [oB 6])
 (.seq (.reg [oM 16 5,oM 17 3,⟨some 18,none,(.call (.t 16) [(.t 17)])⟩,oM 15 18,oT 19 0 15,oT 20 1 15,oM 3 19,oM 6 20])
 (.seq (.reg [oM 21 6])
 (.cond (.t 21) (.exit 1)
 (.skip)))))))
 (.reg [oD 22 11 1,oM 11 22])))))))
 (.exit 0)))))
 (.seq (.reg [oM 23 3,⟨some 24,none,(.call (.f 127) [(.t 23)])⟩,oM 2 24])
 (.ret)))))
def r70:List XRes:=[.t 2]
theorem res70:resolveF Tryz.prog 70 = some (x70,r70,25):=by kernel_rfl
def x69:XCode:=.seq (.reg [⟨some 2,none,(.op (.mov (.k (.slice none 0 0))))⟩])
 (.seq (.seq (.reg [oM 3 0,⟨some 4,none,(.op (.sno true (.t 3)))⟩])
 (.cond (.t 4) (.seq (.reg [⟨some 2,none,(.op (.mov (.k (.slice none 0 0))))⟩])
 (.ret))
 (.skip)))
 (.seq (.reg [⟨some 5,none,(.op (.bsl 5 0 [] []))⟩,oM 6 0,⟨some 7,none,(.op (.app 5 48 (.t 5) (.t 6)))⟩,oM 2 7])
 (.ret)))
def r69:List XRes:=[.t 2]
theorem res69:resolveF Tryz.prog 69 = some (x69,r69,8):=by kernel_rfl
def x23:XCode:=.seq (.reg [oO 1 0,⟨some 2,none,(.op (.alloc [(.slice none 0 0),(.slice none 0 0),(.slice none 0 0),(.int .i64 0)]))⟩,oI 3 0])
 (.seq (.seq (.reg [oA 12 4 1,⟨some 13,none,(.call (.f 34) [(.t 12)])⟩,oM 11 13,oT 14 0 11,oT 15 1 11,oT 16 2 11,oM 4 14,oM 5 15,oM 6 16])
 (.seq (.reg [oM 17 6,⟨some 18,none,(.op (.bin .neq (.t 17) (.k (.int .i64 0))))⟩])
 (.cond (.t 18) (.seq (.reg [⟨some 19,none,(.op (.build [(.slice none 0 0),(.slice none 0 0),(.slice none 0 0),(.int .i64 0)] []))⟩,oM 20 6,⟨none,none,(.op (.st 4 (.t 2) (.t 19)))⟩,oM 3 20])
 (.ret))
 (.skip))))
 (.seq (.drw none [oF 21 2 1,oL 22 21,⟨some 23,none,(.call (.f 69) [(.t 22)])⟩,oF 24 3 1,oL 25 24,⟨some 26,none,(.op (.build [(.slice none 0 0),(.slice none 0 0),(.slice none 0 0),(.int .i64 0)] [(2,1,(.t 23)),(3,1,(.t 25))]))⟩,⟨some 7,none,(.op (.alloc [(.slice none 0 0),(.slice none 0 0),(.slice none 0 0),(.int .i64 0)]))⟩,⟨none,none,(.op (.st 4 (.t 7) (.t 26)))⟩])
 (.seq (.seq (.reg [oF 27 1 1,oL 28 27,oN 29 28,oI 30 0])
 (.block 0 (.loop (.seq (.reg [oS 31 30 29])
 (.seq (.cond (.t 31) (.skip)
 (.exit 0))
 (.seq (.block 1 (.seq (.reg [oX 32 4 28 30,oA 33 4 32,⟨some 9,none,(.op (.alloc [(.string ⟨#[]⟩),(.int .i64 0),(.int .i64 0),(.int .i64 0)]))⟩,⟨none,none,(.op (.st 4 (.t 9) (.t 33)))⟩])
 (.seq (.reg [oF 34 0 1,oL 35 34,oF 36 2 9,oL 37 36,oF 38 2 9,oL 39 38,oF 40 3 9,oL 41 40,⟨some 42,none,(.op (.bin .add (.t 39) (.t 41)))⟩,⟨some 43,none,(.op (.sls 5 (.t 35) (some (.t 37)) (some (.t 42))))⟩,⟨some 44,none,(.call (.f 70) [(.t 43)])⟩,oM 10 44])
 (.seq (.reg [oF 45 0 7,oL 46 45,oN 47 46,oM 48 10,oN 49 48,oF 50 2 9,⟨none,none,(.op (.st 1 (.t 50) (.t 47)))⟩,oF 51 3 9,⟨none,none,(.op (.st 1 (.t 51) (.t 49)))⟩])
 (.seq (.reg [oF 52 0 7,oL 53 52,oM 54 10,⟨some 55,none,(.op (.app 5 40 (.t 53) (.t 54)))⟩,oF 56 0 7,⟨none,none,(.op (.st 1 (.t 56) (.t 55)))⟩])
 (.reg [oF 57 1 7,oL 58 57,oA 59 4 9,⟨some 60,none,(.op (.bsl 4 1 [(.string ⟨#[]⟩),(.int .i64 0),(.int .i64 0),(.int .i64 0)] [(0,4,(.t 59))]))⟩,⟨some 61,none,(.op (.app 4 40 (.t 58) (.t 60)))⟩,oF 62 1 7,⟨none,none,(.op (.st 1 (.t 62) (.t 61)))⟩]))))))
 (.reg [oD 63 30 1,oM 30 63])))))))
 (.seq (.reg [oA 64 4 7,⟨none,none,(.op (.st 4 (.t 2) (.t 64)))⟩,oI 3 0])
 (.ret)))))
def r23:List XRes:=[.lda 4 2,.t 3]
theorem res23:resolveF Tryz.prog 23 = some (x23,r23,65):=by kernel_rfl
end Go.Tidy
namespace Go.Tidy
open Go Go.Eng Go.Proofs
variable {cx:Cx}
def Stp.row (s:Stp):List AV:=[VI s.ins.op,VI s.ins.dst,VI s.ins.src,VI s.ins.off,VI s.ins.imm,VI s.to]
theorem Stp.len (s:Stp):s.row.length = 6:=rfl
def placesN (ws:List Nat) (n:Nat):List Int:=beginsN ws (n + 1)
theorem wsB_le (b:List Stp):(wsB b).sum ≤ 2 * b.length:=by
 have:=wsI_le (b.map (·.ins))
 have e:wsI (b.map (·.ins)) = wsB b:=by unfold wsI wsB;rw [List.map_map];rfl
 rw [e] at this
 simpa using this
theorem psumB_bound (b:List Stp) (k:Nat):psum (wsB b) k ≤ 2 * b.length:=by
 refine Nat.le_trans ?_ (wsB_le b)
 rw [← psum_all (wsB b) (t:=max k (wsB b).length) (by omega)]
 exact psum_mono _ (by omega)
theorem psum_wsB {b:List Stp} {k:Nat} {s:Stp} (h:b[k]? = some s):psum (wsB b) (k + 1) = psum (wsB b) k + wd s.ins:=by
 have h2:(b.map (·.ins))[k]? = some s.ins:=by rw [List.getElem?_map,h];rfl
 have e:wsI (b.map (·.ins)) = wsB b:=by unfold wsI wsB;rw [List.map_map];rfl
 have:=psum_wsI h2
 rwa [e] at this
set_option maxRecDepth 100000 in
set_option maxHeartbeats 2000000 in
theorem c177 (hO:On cx) {h:AH} {bv:AV} {b:List Stp} (hb:SlT Stp.row 6 h bv b) (hl:b.length < 1099511627776) :
 SimCall cx 177 [bv] h fun r h'=>r = .sl h.length 0 0 (b.length + 1) 1 ∧ h' = h ++ [.cells 0 ((placesN (wsB b) b.length).map VI)]:=by
 refine (SimCall.gc1 hole_id (Q:=fun n sz cs=>n = b.length + 1 ∧ sz = 1 ∧ cs = (placesN (wsB b) b.length).map VI) ?_).mono (by rintro r h' ⟨n,sz,cs,⟨rfl,rfl,rfl⟩,rfl,rfl⟩;exact ⟨rfl,rfl⟩)
 refine SimCall.by hO.P res177 ?_
 unfold x177 r177
 repeat' first
  | simp (maxSteps:=1000000) only [go_sem,hb.len]
 refine SimLoop.inv [3,3,0,0] (fun k s=>∃ (i:Nat) (cs:List AV) (g:AH),k = b.length - i ∧ i ≤ b.length ∧ cs = (placesN (wsB b) i).map VI ∧
  s = ⟨[.un,.un,.un,.sl h.length i 0 (i + 1) 1,.un,.un,.un,bv,VI b.length,VI i,.un,.un,.un,.un,.un,.un,.un,.un,.un,.un,.un,.un,.un,.un,.un,.un,.un,.un],h ++ (.cells i cs :: g)⟩) ?_ b.length ?_
 rotate_left
 ·exact ⟨0,_,[],rfl,Nat.zero_le _,rfl,by simp only [go_sem];rfl⟩
 rintro k s ⟨i,cs,g,rfl,hi,hcs,rfl⟩
 generalize hxs:placesN (wsB b) i = xs at hcs
 replace hxs:=hxs.symm
 subst hcs
 have hxl:xs.length = i + 1:=by rw [hxs];exact beginsN_len _ _
 by_cases hlt:i < b.length
 ·obtain ⟨p,hp1,hp2,hp3,_⟩:=hb.get Stp.len (by decide) (List.getElem?_eq_getElem hlt)
  have hlt':((i:Int) < b.length):=by omega
  have hw:=wrap_succ hlt (by omega)
  have hps:=psum_wsB (List.getElem?_eq_getElem hlt)
  have hpb:=psumB_bound b i
  generalize b[i] = s at hp1 hp2 hp3 hps
  have hwd:=wd_le s.ins
  have hlast:xs[i]? = some (psum (wsB b) i:Int):=by
   rw [hxs]
   unfold placesN beginsN
   rw [List.getElem?_map,List.getElem?_range (by omega)]
   rfl
  have hlast':(xs.map VI)[i]? = some (VI (psum (wsB b) i:Nat)):=by rw [List.getElem?_map,hlast];rfl
  have hwl:IntKind.i64.wrap (((i + 1:Nat):Int) - 1) = (i:Int):=by rw [wrap_id (by omega) (by omega)];omega
  have h0i:(0:Int) ≤ i:=by omega
  have hii:(i:Int) < ((i + 1:Nat):Int):=by omega
  have hw2:IntKind.i64.wrap (((psum (wsB b) i:Nat):Int) + (wd s.ins:Int)) = ((psum (wsB b) (i + 1):Nat):Int):=by rw [wrap_id (by omega) (by omega),hps];omega
  have htk:(xs.map VI).take (i + 1) = xs.map VI:=List.take_of_length_le (by simp;omega)
  have hby:(i + 1 + 1) * 8 ≤ 140737488355328:=by omega
  have hnle:¬ i + 1 + 1 ≤ xs.length:=by omega
  have hnle2:i + 1 ≤ xs.length:=by omega
  repeat' first
   | ((with_reducible show dK _ 235 _ _ _);refine dK_of _ (c235' hO s.ins _) ?_)
   | simp (maxSteps:=1000000) only [go_sem,hp1,hp2,hp3,hlt',hw,hwl,h0i,hii,hw2,hlast',htk,hby,hnle,hnle2,Stp.row,xRows,Int.toNat_natCast,Nat.mul_one,Nat.zero_add,List.length_map]
  refine ⟨b.length - (i + 1),by omega,i + 1,_,_,rfl,by omega,?_,rfl⟩
  have e:placesN (wsB b) (i + 1) = xs ++ [((psum (wsB b) (i + 1):Nat):Int)]:=by rw [hxs];exact beginsN_succ (wsB b) (i + 1)
  rw [e,List.map_append];rfl
 ·have hlt':¬ ((i:Int) < b.length):=by omega
  have hib:i = b.length:=by omega
  subst hib
  repeat' first
   | simp (maxSteps:=1000000) only [go_sem,hlt']
  refine ⟨_,rfl,h.length,_,_,_,xs.map VI,rfl,Nat.le_refl _,by simp only [go_sem],?_,rfl,rfl,by rw [hxs]⟩
  intro x hx
  obtain ⟨y,_,rfl⟩:=List.mem_map.1 hx
  exact .v _
theorem c178 (hO:On cx) (i:Ins) (h:AH):SimCall cx 178 [i.av] h fun r h'=>h' = h ∧ r = VB (leads i):=by
 refine SimCall.gc ?_
 refine SimCall.by hO.P res178 ?_
 unfold x178 r178
 repeat' first
  | ((with_reducible show SemL _ _ _ _);refine SemL.of ?_)
  | ((with_reducible show SimCall _ 145 _ _ _);refine (c145 hO i _).mono ?_;rintro r h' ⟨rfl,rfl⟩)
  | simp (maxSteps:=1000000) only [go_sem]
  | ((with_reducible show wl _ (XI.mk _ (some _) (XBody.op _) :: _) _ _);refine wl_optF rfl (fun e2=>by ((try simp only [Bool.and_eq_true] at e2);first | (simp (maxSteps:=1000000) only [e2,go_sem];first | done | rfl))) ?_)
 all_goals first | exact ⟨more_one,plain_v _⟩ | exact ⟨more_nil,plain_v _⟩ | refine ⟨by first | exact more_one | exact more_nil,by first | exact plain_v _ | exact plain_tup (by simp [Plain.v]),?_⟩
 all_goals try simp only [decide_eq_true_eq,decide_eq_false_iff_not,Bool.not_eq_true',Bool.not_eq_false',AV.v.injEq,AV.tup.injEq,List.cons.injEq,Value.int.injEq,Value.bool.injEq,true_and,and_true] at *
 all_goals unfold leads
 all_goals (try simp only [band] at *)
 all_goals (try simp_all)
 all_goals grind
theorem c237 (hO:On cx) (a:Int) (h:AH):SimCall cx 237 [VI a] h fun r h'=>h' = h ∧ r = VB false:=by
 refine SimCall.by hO.P res237 ?_
 unfold x237 r237
 repeat' first
  | simp (maxSteps:=1000000) only [go_sem]
theorem c141 (hO:On cx) (a:Int) (h:AH):SimCall cx 141 [VI a] h fun r h'=>h' = h ∧ r = VB false:=by
 refine SimCall.by hO.P res141 ?_
 unfold x141 r141
 repeat' first
  | simp (maxSteps:=1000000) only [go_sem]
theorem c236 (hO:On cx) (a b:Int) (h:AH):SimCall cx 236 [VI a,VI b] h fun r h'=>h' = h ∧ r = VB (decide (a < b)):=by
 refine SimCall.by hO.P res236 ?_
 unfold x236 r236
 repeat' first
  | ((with_reducible show SemL _ _ _ _);refine SemL.of ?_)
  | ((with_reducible show SimCall _ 141 _ _ _);refine (c141 hO _ _).mono ?_;rintro r h' ⟨rfl,rfl⟩)
  | simp (maxSteps:=1000000) only [go_sem]
set_option maxRecDepth 100000 in
theorem c179 (hO:On cx) {h:AH} {v:AV} {xs:List Int} (x:Int) (hv:SlI h v xs) (hl:xs.length < 1099511627776) (hs:∀ (i j:Nat) a b,i ≤ j → xs[i]? = some a → xs[j]? = some b → a ≤ b) :
 SimCall cx 179 [v,VI x] h fun r h'=>h' = h ∧ ∃ (n:Nat) (t:Bool),r = .tup [VI n,VB t] ∧ n ≤ xs.length ∧ (∀ (i:Nat) a,i < n → xs[i]? = some a → a < x) ∧ ∀ (i:Nat) a,n ≤ i → xs[i]? = some a → x ≤ a:=by
 refine SimCall.by hO.P res179 ?_
 unfold x179 r179
 repeat' first
  | simp (maxSteps:=1000000) only [go_sem,hv.1]
 refine SimLoop.inv [0,0,4,0,0] (fun k s=>∃ (i j:Nat),k = j - i ∧ i ≤ j ∧ j ≤ xs.length ∧ (∀ (m:Nat) a,m < i → xs[m]? = some a → a < x) ∧ (∀ (m:Nat) a,j ≤ m → xs[m]? = some a → x ≤ a) ∧
  s = ⟨[v,VI x,.un,.un,.un,.un,VI xs.length,VI i,VI j,.un,.un,.un,.un,.un,.un,.un,.un,.un,.un,.un,.un,.un,.un,.un,.un,.un,.un,.un,.un,.un,.un,.un,.un,.un,.un,.un,.un,.un,.un,.un,.un,.un,.un,.un,.un,.un,.un,.un,.un,.un,.un,.un,.un,.un],h⟩) ?_ xs.length ?_
 rotate_left
 ·exact ⟨0,xs.length,rfl,Nat.zero_le _,Nat.le_refl _,fun m a hm=>absurd hm (by omega),fun m a hm he=>absurd (List.getElem?_eq_some_iff.1 he).1 (by omega),by simp only [go_sem];rfl⟩
 rintro k s ⟨i,j,rfl,hij,hj,hlo,hhi,rfl⟩
 by_cases hlt:i < j
 ·have hlt':((i:Int) < j):=by omega
  have hm:(i + j) / 2 < xs.length:=by omega
  obtain ⟨p,hp1,hp2⟩:=hv.2 ((i + j) / 2) _ (List.getElem?_eq_getElem hm)
  have he:=List.getElem?_eq_getElem hm
  generalize xs[(i + j) / 2] = y at hp2 he
  have hw1:IntKind.i64.wrap ((i:Int) + j) = ((i + j:Nat):Int):=by rw [wrap_id (by omega) (by omega)];omega
  have hw2:IntKind.u64.wrap ((i + j:Nat):Int) = ((i + j:Nat):Int):=by simp [IntKind.wrap,IntKind.bits,IntKind.signed];omega
  have hsh:Int.fdiv ((i + j:Nat):Int) (2 ^ min (Int.toNat 1) 64) = (((i + j) / 2:Nat):Int):=by
   have:(2 ^ min (Int.toNat 1) 64:Int) = 2:=rfl
   rw [this,Int.fdiv_eq_ediv_of_nonneg _ (by decide)]
   omega
  have hw3:IntKind.i64.wrap (((i + j) / 2:Nat):Int) = (((i + j) / 2:Nat):Int):=wrap_id (by omega) (by omega)
  have hw4:IntKind.i64.wrap ((((i + j) / 2:Nat):Int) + 1) = (((i + j) / 2 + 1:Nat):Int):=by rw [wrap_id (by omega) (by omega)];omega
  repeat' first
   | ((with_reducible show wx _ (XCode.cond _ _ _) _ _);refine wx_if rfl (fun _=>?_) (fun _=>?_))
   | ((with_reducible show SimCall _ 236 _ _ _);refine (c236 hO _ _ _).mono ?_;rintro r h' ⟨rfl,rfl⟩)
   | simp (maxSteps:=1000000) only [go_sem,hlt',hw1,hw2,hsh,hw3,hw4,hp1,hp2]
  ·rename_i e
   simp at e
   refine ⟨j - ((i + j) / 2 + 1),by omega,(i + j) / 2 + 1,j,rfl,by omega,hj,?_,hhi,rfl⟩
   intro m a hm2 ha
   have:=hs m ((i + j) / 2) a y (by omega) ha he
   omega
  ·rename_i e
   simp at e
   refine ⟨(i + j) / 2 - i,by omega,i,(i + j) / 2,rfl,by omega,by omega,hlo,?_,rfl⟩
   intro m a hm2 ha
   have:=hs ((i + j) / 2) m y a hm2 he ha
   omega
 ·have hlt':¬ ((i:Int) < j):=by omega
  have hie:i = j:=by omega
  subst hie
  by_cases hin:i < xs.length
  ·have hin':(i:Int) < xs.length:=by omega
   obtain ⟨p,hp1,hp2⟩:=hv.2 i _ (List.getElem?_eq_getElem hin)
   repeat' first
    | ((with_reducible show SemL _ _ _ _);refine SemL.of ?_)
    | simp (maxSteps:=1000000) only [go_sem,hlt',hin',hp1,hp2]
    | ((with_reducible show wl _ (XI.mk _ (some _) (XBody.op _) :: _) _ _);first | refine wl_optF rfl (fun e2=>by ((try simp only [Bool.and_eq_true] at e2);first | (simp (maxSteps:=1000000) only [e2,go_sem,hlt',hin',hp1,hp2];first | done | rfl))) ?_ | refine wl_opt2T rfl (fun e1 e2=>by ((try simp only [Bool.and_eq_true] at e1);first | (simp (maxSteps:=1000000) only [e1,e2,go_sem,hlt',hin',hp1,hp2];first | done | rfl))) ?_)
    | ((with_reducible show wl _ (XI.mk _ (some _) (XBody.call (XO.f 237) _) :: _) _ _);first | refine wl_optcF rfl rfl (fun e2=>by simp (maxSteps:=1000000) only [e2,go_sem,hlt',hin',hp1,hp2];exact (c237 hO _ _)) ?_ | refine wl_optc2T rfl rfl (fun e1 e2=>by simp (maxSteps:=1000000) only [e1,e2,go_sem,hlt',hin',hp1,hp2];exact (c237 hO _ _)) ?_)
   all_goals exact ⟨i,_,rfl,hj,hlo,hhi⟩
  ·have hin':¬ (i:Int) < xs.length:=by omega
   repeat' first
    | ((with_reducible show SemL _ _ _ _);refine SemL.of ?_)
    | simp (maxSteps:=1000000) only [go_sem,hlt',hin']
   all_goals exact ⟨i,_,rfl,hj,hlo,hhi⟩
end Go.Tidy
namespace Go.Tidy
open Go Go.Eng Go.Proofs
variable {cx:Cx}
theorem places_get {ws:List Nat} {n k:Nat} (h:k ≤ n):(placesN ws n)[k]? = some (psum ws k:Int):=by
 unfold placesN beginsN
 rw [List.getElem?_map,List.getElem?_range (by omega)]
 rfl
theorem places_get' {ws:List Nat} {n k:Nat} {a:Int} (h:(placesN ws n)[k]? = some a):k ≤ n ∧ a = psum ws k:=by
 have hk:=(List.getElem?_eq_some_iff.1 h).1
 have hl:(placesN ws n).length = n + 1:=beginsN_len _ _
 have hkn:k ≤ n:=by omega
 rw [places_get hkn] at h
 simp only [Option.some.injEq] at h
 exact ⟨hkn,h.symm⟩
theorem rows_set {b:List Stp} {k:Nat} (hk:k < b.length) (s:Stp):(b.flatMap Stp.row).take (k * 6) ++ (s.row ++ (b.flatMap Stp.row).drop (k * 6 + 6)) = (b.set k s).flatMap Stp.row:=by
 have:=cells_set (f:=Stp.row) (sz:=6) Stp.len hk s
 unfold setCells at this
 rw [Stp.len,List.append_assoc] at this
 exact this
theorem rows_to {b:List Stp} {k:Nat} {s:Stp} (hs:b[k]? = some s) (t:Int):(b.flatMap Stp.row).take (k * 6 + 5) ++ VI t :: (b.flatMap Stp.row).drop (k * 6 + 5 + 1) = (b.set k ⟨s.ins,t⟩).flatMap Stp.row:=by
 obtain ⟨hk,rfl⟩:=List.getElem?_eq_some_iff.1 hs
 rw [← rows_set hk]
 have e1:(b.flatMap Stp.row).take (k * 6 + 5) = (b.flatMap Stp.row).take (k * 6) ++ ((b.flatMap Stp.row).drop (k * 6)).take 5:=List.take_add
 have e2:((b.flatMap Stp.row).drop (k * 6)).take 5 = b[k].row.take 5:=by
  have:=cells_at (f:=Stp.row) (sz:=6) Stp.len hs
  rw [← this,List.take_take]
  rfl
 rw [e1,e2,List.append_assoc]
 rfl
structure Taken (is:List Ins) (b:List Stp):Prop where
 len:b.length = is.length
 each:∀ (k:Nat) s,b[k]? = some s → is[k]? = some s.ins ∧ (leads s.ins = false → s.to = -1) ∧ (leads s.ins = true → ∀ t,t < is.length → (psum (wsI is) t:Int) = psum (wsI is) k + 1 + s.ins.far → s.to = t)
theorem wsB_ins {b:List Stp} {is:List Ins} (hl:b.length = is.length) (h:∀ (k:Nat) s,b[k]? = some s → is[k]? = some s.ins):wsB b = wsI is:=by
 have:b.map (·.ins) = is:=by
  refine List.ext_getElem? fun k=>?_
  rw [List.getElem?_map]
  cases hb:b[k]? with
  | none=>
    rw [List.getElem?_eq_none_iff] at hb
    rw [List.getElem?_eq_none (by omega)]
    rfl
  | some s=>rw [h k s hb];rfl
 unfold wsB wsI
 rw [← this,List.map_map]
 rfl
set_option maxRecDepth 100000 in
set_option maxHeartbeats 4000000 in
theorem c125 (hO:On cx) {h:AH} {v:AV} {is:List Ins} (hv:SlIns h v is) (hl:is.length < 1099511627775) (hmay:∀ i ∈ is,may i = 0) :
 SimCall cx 125 [v] h fun r h'=>∃ b,Taken is b ∧ r = .sl h.length 0 0 b.length 6 ∧ h' = h ++ [.cells 0 (b.flatMap Stp.row)]:=by
 refine (SimCall.gc1 hole_id (Q:=fun n sz cs=>∃ b,Taken is b ∧ n = b.length ∧ sz = 6 ∧ cs = b.flatMap Stp.row) ?_).mono (by rintro r h' ⟨n,sz,cs,⟨b,hb,rfl,rfl,rfl⟩,rfl,rfl⟩;exact ⟨b,hb,rfl,rfl⟩)
 have h00:(0:Int) ≤ is.length:=by omega
 have h48:(is.length:Int) * ((48:Nat):Int) ≤ 281474976710656:=by omega
 have hbig:(is.length:Int) < 9223372036854775808:=by omega
 have hfl:∀ n:Nat,(List.replicate n [VI 0,VI 0,VI 0,VI 0,VI 0,VI 0]).flatten = (List.replicate n (⟨⟨0,0,0,0,0⟩,0⟩:Stp)).flatMap Stp.row:=by
  intro n
  induction n with
  | zero=>rfl
  | succ n ih=>rw [List.replicate_succ,List.flatten_cons,ih];rfl
 refine SimCall.by hO.P res125 ?_
 unfold x125 r125
 repeat' first
  | simp (maxSteps:=1000000) only [go_sem,hv.len,h00,h48,hbig,Int.le_refl,Int.toNat_natCast,hfl]
 refine SimLoop.inv [0,2,9,0,0] (fun k s=>∃ (i:Nat) (b:List Stp) (g:AH),k = is.length - i ∧ i ≤ is.length ∧ b.length = is.length ∧ (∀ (k:Nat) s,k < i → b[k]? = some s → is[k]? = some s.ins ∧ s.to = -1) ∧
  s = ⟨[v,.un,.un,.sl h.length 0 0 is.length 6,.un,.un,.un,.un,.un,.un,.un,.un,.un,v,VI is.length,VI i,.un,.un,.un,.un,.un,.un,.un,.un,.un,.un,.un,.un,.un,.un,.un,.un,.un,.un,.un,.un,.un,.un,.un,.un,.un,.un,.un,.un,.un,.un,.un,.un,.un,.un,.un,.un,.un,.un,.un,.un,.un,.un,.un,.un,.un,.un,.un],h ++ (.cells 0 (b.flatMap Stp.row) :: g)⟩) ?_ is.length ?_
 rotate_left
 ·exact ⟨0,List.replicate is.length ⟨⟨0,0,0,0,0⟩,0⟩,[],rfl,Nat.zero_le _,List.length_replicate,fun k s hk=>absurd hk (by omega),by simp only [go_sem];rfl⟩
 rintro k s ⟨i,b,g,rfl,hi,hbl,hb,rfl⟩
 have hrl:=cells_len (f:=Stp.row) (sz:=6) Stp.len b
 by_cases hlt:i < is.length
 ·obtain ⟨p,hp1,hp2,hp3,_⟩:=hv.get Ins.len (by decide) (List.getElem?_eq_getElem hlt)
  have hlt':((i:Int) < is.length):=by omega
  have hw:=wrap_succ hlt (by omega)
  have hgi:=List.getElem?_eq_getElem hlt
  generalize is[i] = x at hp1 hp2 hp3 hgi
  have h0i:(0:Int) ≤ i:=by omega
  have hfit:i * 6 + 6 ≤ (b.flatMap Stp.row).length:=by omega
  have hset:(b.flatMap Stp.row).take (i * 6) ++ VI x.op :: VI x.dst :: VI x.src :: VI x.off :: VI x.imm :: VI (-1) :: (b.flatMap Stp.row).drop (i * 6 + 6) = (b.set i ⟨x,-1⟩).flatMap Stp.row:=rows_set (by omega) ⟨x,-1⟩
  repeat' first
   | simp (maxSteps:=1000000) only [go_sem,hp1,hp2,hp3,hlt',hw,h0i,hfit,hset,Ins.row,Int.toNat_natCast,Nat.zero_add]
  refine ⟨is.length - (i + 1),by omega,i + 1,_,_,rfl,by omega,by rw [List.length_set];exact hbl,?_,rfl⟩
  intro k s hk hs
  by_cases hki:k = i
  ·subst hki
   rw [List.getElem?_set_self (by omega)] at hs
   simp only [Option.some.injEq] at hs
   subst hs
   exact ⟨hgi,rfl⟩
  ·rw [List.getElem?_set_ne (fun h=>hki h.symm)] at hs
   exact hb k s (by omega) hs
 ·have hlt':¬ ((i:Int) < is.length):=by omega
  have hin:i = is.length:=by omega
  subst hin
  have hws:wsB b = wsI is:=wsB_ins hbl fun k s hs=>(hb k s (by rw [← hbl];exact (List.getElem?_eq_some_iff.1 hs).1) hs).1
  have hsl:SlT Stp.row 6 (h ++ (.cells 0 (b.flatMap Stp.row) :: g)) (.sl h.length 0 0 is.length 6) b:=by
   rw [← hbl]
   exact SlT.whole (f:=Stp.row) (xs:=b) (l:=b.flatMap Stp.row) (fun g'=>by simp only [go_sem]) Stp.len rfl
  have h177:=c177 hO hsl (by omega)
  rw [hws] at h177
  repeat' first
   | ((with_reducible show SimCall _ 177 _ _ _);refine (h177).mono ?_;rintro r h' ⟨rfl,rfl⟩)
   | simp (maxSteps:=1000000) only [go_sem,hlt',hv.len]
  generalize hpl:placesN (wsI is) b.length = pl
  have hpl2:pl = placesN (wsI is) is.length:=by rw [← hpl,hbl]
  have hpll:pl.length = is.length + 1:=by rw [hpl2];exact beginsN_len _ _
  refine SimLoop.inv [0,2,2,21,0,0] (fun k s=>∃ (i:Nat) (b:List Stp) (g2:AH),k = is.length - i ∧ i ≤ is.length ∧ b.length = is.length ∧ (∀ (k:Nat) s,b[k]? = some s → is[k]? = some s.ins) ∧ (∀ (k:Nat) s,i ≤ k → b[k]? = some s → s.to = -1) ∧
   (∀ (k:Nat) s,k < i → b[k]? = some s → (leads s.ins = false → s.to = -1) ∧ (leads s.ins = true → ∀ t,t < is.length → (psum (wsI is) t:Int) = psum (wsI is) k + 1 + s.ins.far → s.to = t)) ∧
   s = ⟨[v,.un,.un,.sl h.length 0 0 is.length 6,.un,.un,.sl (h.length + (g.length + 1)) 0 0 pl.length 1,.un,.un,.un,.un,.un,.un,.un,.un,.un,.un,.un,.un,.un,.un,.un,.un,.un,.un,.un,.un,.un,v,VI is.length,VI i,.un,.un,.un,.un,.un,.un,.un,.un,.un,.un,.un,.un,.un,.un,.un,.un,.un,.un,.un,.un,.un,.un,.un,.un,.un,.un,.un,.un,.un,.un,.un,.un],h ++ (.cells 0 (b.flatMap Stp.row) :: (g ++ .cells 0 (pl.map VI) :: g2))⟩) ?_ is.length ?_
  rotate_left
  ·refine ⟨0,b,[],rfl,Nat.zero_le _,hbl,fun k s hs=>(hb k s (by rw [← hbl];exact (List.getElem?_eq_some_iff.1 hs).1) hs).1,fun k s _ hs=>(hb k s (by rw [← hbl];exact (List.getElem?_eq_some_iff.1 hs).1) hs).2,fun k s hk=>absurd hk (by omega),?_⟩
   rw [hpll,← hbl]
   simp only [go_sem]
   rfl
  clear hrl hb hws hsl h177 hpl
  clear hbl b
  rintro k s ⟨i,b,g2,rfl,hi2,hbl,hins,hno,hyes,rfl⟩
  have hrl:=cells_len (f:=Stp.row) (sz:=6) Stp.len b
  by_cases hlt2:i < is.length
  ·obtain ⟨p,hp1,hp2,hp3,_⟩:=hv.get Ins.len (by decide) (List.getElem?_eq_getElem hlt2)
   have hlt2':((i:Int) < is.length):=by omega
   have hw:=wrap_succ hlt2 (by omega)
   have hgi:=List.getElem?_eq_getElem hlt2
   have hmx:=hmay _ (List.getElem_mem hlt2)
   generalize is[i] = x at hp1 hp2 hp3 hgi hmx
   have hbi:=List.getElem?_eq_getElem (show i < b.length by omega)
   have hbx:b[i].ins = x:=by
    have:=hins i _ hbi
    rw [hgi] at this
    exact (Option.some.inj this).symm
   have hno2:=hno i _ (Nat.le_refl _) hbi
   have h0i:(0:Int) ≤ i:=by omega
   have hto:=rows_to hbi
   rw [hbx] at hto
   have hfit:i * 6 + 5 + 1 ≤ (b.flatMap Stp.row).length:=by omega
   have hipl:(i:Int) < pl.length:=by omega
   have hpli:(pl.map VI)[i]? = some (VI (psum (wsI is) i:Nat)):=by
    rw [hpl2,List.getElem?_map,places_get (by omega)];rfl
   have hpb:=psum_bound is i
   have hheld:=held_of_may hmx
   have hfar:-2147483648 ≤ x.off ∧ x.off < 2147483648 ∧ (x.op = 6 → -2147483648 ≤ x.imm ∧ x.imm < 2147483648):=by
    unfold heldB at hheld
    simp only [Bool.and_eq_true,Bool.or_eq_true,decide_eq_true_eq] at hheld
    refine ⟨by omega,by omega,fun h=>by omega⟩
   have hw1:IntKind.i64.wrap (((psum (wsI is) i:Nat):Int) + 1) = ((psum (wsI is) i:Nat):Int) + 1:=wrap_id (by omega) (by omega)
   have hsrch:∀ (y:Int) (H:AH),H.rd (h.length + (g.length + 1)) 0 = some (pl.map VI) → SimCall cx 179 [.sl (h.length + (g.length + 1)) 0 0 pl.length 1,VI y] H fun r h'=>h' = H ∧ ∃ (n:Nat) (t:Bool),r = .tup [VI n,VB t] ∧ n ≤ pl.length ∧ (∀ (i:Nat) a,i < n → pl[i]? = some a → a < y) ∧ ∀ (i:Nat) a,n ≤ i → pl[i]? = some a → y ≤ a:=by
    intro y H hrd
    refine c179 hO y (sli_whole hrd) (by omega) ?_
    intro i j a b hij ha hb
    rw [hpl2] at ha hb
    obtain ⟨_,rfl⟩:=places_get' ha
    obtain ⟨_,rfl⟩:=places_get' hb
    have:=psum_mono (wsI is) hij
    omega
   have huni:∀ (y:Int) (n:Nat),(∀ (i:Nat) a,i < n → pl[i]? = some a → a < y) → (∀ (i:Nat) a,n ≤ i → pl[i]? = some a → y ≤ a) → ∀ t,t < is.length → (psum (wsI is) t:Int) = y → n = t:=by
    intro y n h1 h2 t ht hy
    rcases Nat.lt_trichotomy n t with q | q | q
    ·have:=h2 n _ (Nat.le_refl _) (by rw [hpl2];exact places_get (by omega))
     have:=psum_lt (wsI is) (fun w hw=>by obtain ⟨j,_,rfl⟩:=List.mem_map.1 hw;exact wd_pos j) q (by simp [wsI];omega)
     omega
    ·exact q
    ·have:=h1 t _ q (by rw [hpl2];exact places_get (by omega))
     omega
   have hfin:∀ (y:Int),(leads x = false → y = -1) → (leads x = true → ∀ t,t < is.length → (psum (wsI is) t:Int) = psum (wsI is) i + 1 + x.far → y = t) →
    ∀ (k:Nat) s,k < i + 1 → (b.set i ⟨x,y⟩)[k]? = some s → (leads s.ins = false → s.to = -1) ∧ (leads s.ins = true → ∀ t,t < is.length → (psum (wsI is) t:Int) = psum (wsI is) k + 1 + s.ins.far → s.to = t):=by
    intro y h1 h2 k s hk hs
    by_cases hki:k = i
    ·subst hki
     rw [List.getElem?_set_self (by omega)] at hs
     simp only [Option.some.injEq] at hs
     subst hs
     exact ⟨h1,h2⟩
    ·rw [List.getElem?_set_ne (fun h=>hki h.symm)] at hs
     exact hyes k s (by omega) hs
   have hinsS:∀ (y:Int) (k:Nat) s,(b.set i ⟨x,y⟩)[k]? = some s → is[k]? = some s.ins:=by
    intro y k s hs
    by_cases hki:k = i
    ·subst hki
     rw [List.getElem?_set_self (by omega)] at hs
     simp only [Option.some.injEq] at hs
     subst hs
     exact hgi
    ·rw [List.getElem?_set_ne (fun h=>hki h.symm)] at hs
     exact hins k s hs
   have hnoS:∀ (y:Int) (k:Nat) s,i + 1 ≤ k → (b.set i ⟨x,y⟩)[k]? = some s → s.to = -1:=by
    intro y k s hk hs
    rw [List.getElem?_set_ne (by omega)] at hs
    exact hno k s (by omega) hs
   by_cases h6:x.op = 6
   ·have hd6:decide (x.op = 6) = true:=decide_eq_true h6
    have hxf:x.far = x.imm:=by unfold Ins.far;rw [if_pos h6]
    have hrng:=hfar.2.2 h6
    have hw2:IntKind.i64.wrap (((psum (wsI is) i:Nat):Int) + 1 + x.imm) = ((psum (wsI is) i:Nat):Int) + 1 + x.imm:=wrap_id (by omega) (by omega)
    repeat' first
     | ((with_reducible show wx _ (XCode.cond _ _ _) _ _);refine wx_if rfl (fun _=>?_) (fun _=>?_))
     | ((with_reducible show SimCall _ 178 _ _ _);refine (c178 hO x _).mono ?_;rintro r h' ⟨rfl,rfl⟩)
     | ((with_reducible show SimCall _ 179 _ _ _);refine (hsrch _ _ (by simp only [go_sem])).mono ?_;rintro r h' ⟨rfl,n,t,rfl,hn1,hn2,hn3⟩)
     | simp (maxSteps:=1000000) only [go_sem,hp1,hp2,hp3,hlt2',hlt',hw,h0i,hto,hfit,hipl,hpli,hw1,hw2,hd6,Ins.row,Int.toNat_natCast,Nat.zero_add,Nat.mul_one]
    ·rename_i e
     simp at e
     refine ⟨is.length - (i + 1),by omega,i + 1,b,_,rfl,by omega,hbl,hins,fun k s hk hs=>hno k s (by omega) hs,?_,rfl⟩
     intro k s hk hs
     by_cases hki:k = i
     ·subst hki
      rw [hbi] at hs
      simp only [Option.some.injEq] at hs
      subst hs
      rw [hbx]
      exact ⟨fun _=>hno2,fun q=>by rw [e] at q;cases q⟩
     ·exact hyes k s (by omega) hs
    ·rename_i e
     simp at e
     refine ⟨is.length - (i + 1),by omega,i + 1,b.set i ⟨x,n⟩,_,rfl,by omega,by rw [List.length_set];exact hbl,hinsS _,hnoS _,hfin n (fun q=>by rw [e] at q;cases q) (fun _ t ht he=>?_),rfl⟩
     rw [huni _ n hn2 hn3 t ht (by rw [he,hxf])]
   ·have hd6:decide (x.op = 6) = false:=decide_eq_false h6
    have hxf:x.far = x.off:=by unfold Ins.far;rw [if_neg h6]
    have hw2:IntKind.i64.wrap (((psum (wsI is) i:Nat):Int) + 1 + x.off) = ((psum (wsI is) i:Nat):Int) + 1 + x.off:=wrap_id (by omega) (by omega)
    repeat' first
     | ((with_reducible show wx _ (XCode.cond _ _ _) _ _);refine wx_if rfl (fun _=>?_) (fun _=>?_))
     | ((with_reducible show SimCall _ 178 _ _ _);refine (c178 hO x _).mono ?_;rintro r h' ⟨rfl,rfl⟩)
     | ((with_reducible show SimCall _ 179 _ _ _);refine (hsrch _ _ (by simp only [go_sem])).mono ?_;rintro r h' ⟨rfl,n,t,rfl,hn1,hn2,hn3⟩)
     | simp (maxSteps:=1000000) only [go_sem,hp1,hp2,hp3,hlt2',hlt',hw,h0i,hto,hfit,hipl,hpli,hw1,hw2,hd6,Ins.row,Int.toNat_natCast,Nat.zero_add,Nat.mul_one]
    ·rename_i e
     simp at e
     refine ⟨is.length - (i + 1),by omega,i + 1,b,_,rfl,by omega,hbl,hins,fun k s hk hs=>hno k s (by omega) hs,?_,rfl⟩
     intro k s hk hs
     by_cases hki:k = i
     ·subst hki
      rw [hbi] at hs
      simp only [Option.some.injEq] at hs
      subst hs
      rw [hbx]
      exact ⟨fun _=>hno2,fun q=>by rw [e] at q;cases q⟩
     ·exact hyes k s (by omega) hs
    ·rename_i e
     simp at e
     refine ⟨is.length - (i + 1),by omega,i + 1,b.set i ⟨x,n⟩,_,rfl,by omega,by rw [List.length_set];exact hbl,hinsS _,hnoS _,hfin n (fun q=>by rw [e] at q;cases q) (fun _ t ht he=>?_),rfl⟩
     rw [huni _ n hn2 hn3 t ht (by rw [he,hxf])]
  ·have hlt2':¬ ((i:Int) < is.length):=by omega
   repeat' first
    | simp (maxSteps:=1000000) only [go_sem,hlt2']
   refine ⟨_,rfl,h.length,0,is.length,6,_,rfl,Nat.le_refl _,?_,?_,b,⟨hbl,fun k s hs=>⟨hins k s hs,hyes k s (by have:=(List.getElem?_eq_some_iff.1 hs).1;omega) hs⟩⟩,hbl.symm,rfl,rfl⟩
   ·simp only [go_sem]
   ·intro y hy
    obtain ⟨s,_,hy⟩:=List.mem_flatMap.1 hy
    simp only [Stp.row,List.mem_cons,List.not_mem_nil,or_false] at hy
    rcases hy with rfl | rfl | rfl | rfl | rfl | rfl <;> exact .v _
end Go.Tidy
namespace Go.Tidy
open Go Go.Eng Go.Proofs
variable {cx:Cx}
theorem laidL_take {b:List Stp} {i:Nat} {s:Stp} (h:b[i]? = some s):(laidL b).take (i + 1) = (laidL b).take i ++ [laidI (wsB b) i s]:=by
 obtain ⟨hi,rfl⟩:=List.getElem?_eq_some_iff.1 h
 have hl:i < (laidL b).length:=by simp [laidL];exact hi
 rw [List.take_succ_eq_append_getElem hl]
 simp [laidL]
def OutI (L:Nat) (sv:AV) (xs:List Ins) (g:AH):Prop:=
 (xs = [] ∧ sv = .v (.slice none 0 0)) ∨ ∃ g1 g2 ver,g = g1 ++ AO.cells ver (xs.flatMap Ins.row) :: g2 ∧ sv = .sl (L + (g1.length + 1)) ver 0 xs.length 5
set_option maxRecDepth 100000 in
set_option maxHeartbeats 4000000 in
theorem c127 (hO:On cx) {h:AH} {bv:AV} {b:List Stp} (hb:SlT Stp.row 6 h bv b) (hne:0 < b.length) (hl:b.length < 1099511627776) (hto:∀ s ∈ b,s.to < b.length) :
 SimCall cx 127 [bv] h fun r h'=>r = .sl h.length 0 0 b.length 5 ∧ h' = h ++ [.cells 0 ((laidL b).flatMap Ins.row)]:=by
 refine (SimCall.gc1 hole_id (Q:=fun n sz cs=>n = b.length ∧ sz = 5 ∧ cs = (laidL b).flatMap Ins.row) ?_).mono (by rintro r h' ⟨n,sz,cs,⟨rfl,rfl,rfl⟩,rfl,rfl⟩;exact ⟨rfl,rfl⟩)
 have hll:(laidL b).length = b.length:=by simp [laidL]
 refine SimCall.by hO.P res127 ?_
 unfold x127 r127
 repeat' first
  | ((with_reducible show SimCall _ 177 _ _ _);refine (c177 hO hb hl).mono ?_;rintro r h' ⟨rfl,rfl⟩)
  | simp (maxSteps:=1000000) only [go_sem,hb.len]
 have hpll:(placesN (wsB b) b.length).length = b.length + 1:=beginsN_len _ _
 refine SimLoop.inv [3,0,6,0,0] (fun k s=>∃ (i:Nat) (sv:AV) (g:AH),k = b.length - i ∧ i ≤ b.length ∧ OutI h.length sv ((laidL b).take i) g ∧
  s = ⟨[.un,.un,.un,.sl h.length 0 0 (b.length + 1) 1,sv,.un,.un,.un,.un,.un,.un,bv,VI b.length,VI i,.un,.un,.un,.un,.un,.un,.un,.un,.un,.un,.un,.un,.un,.un,.un,.un,.un,.un,.un,.un,.un,.un,.un,.un,.un,.un,.un,.un,.un,.un,.un,.un,.un],h ++ (.cells 0 ((placesN (wsB b) b.length).map VI) :: g)⟩) ?_ b.length ?_
 rotate_left
 ·exact ⟨0,_,[],rfl,Nat.zero_le _,.inl ⟨rfl,rfl⟩,by simp only [go_sem];rfl⟩
 rintro k s ⟨i,sv,g,rfl,hi,hgr,rfl⟩
 by_cases hlt:i < b.length
 ·obtain ⟨p,hp1,hp2,hp3,_⟩:=hb.get Stp.len (by decide) (List.getElem?_eq_getElem hlt)
  have hlt':((i:Int) < b.length):=by omega
  have hw:=wrap_succ hlt (by omega)
  have htk:=laidL_take (List.getElem?_eq_getElem hlt)
  have hts:=hto _ (List.getElem_mem hlt)
  have hxl:((laidL b).take i).length = i:=by rw [List.length_take];omega
  generalize b[i] = s at hp1 hp2 hp3 htk hts
  obtain ⟨⟨op,dst,src,off,imm⟩,to⟩:=s
  simp only at hts
  generalize (laidL b).take i = xs at htk hxl hgr
  have hrl:=cells_len (f:=Ins.row) (sz:=5) Ins.len xs
  have htk2:(xs.flatMap Ins.row).take (xs.length * 5) = xs.flatMap Ins.row:=List.take_of_length_le (by omega)
  have hnle:¬ (xs.length + 1) * 5 ≤ (xs.flatMap Ins.row).length:=by omega
  have hnle2:xs.length * 5 ≤ (xs.flatMap Ins.row).length:=by omega
  have hby:(xs.length + 1) * 40 ≤ 140737488355328:=by omega
  have h0i:(0:Int) ≤ i:=by omega
  have hi1:(i:Int) < ((b.length + 1:Nat):Int):=by omega
  have hpi:((placesN (wsB b) b.length).map VI)[i]? = some (VI (psum (wsB b) i:Nat)):=by rw [List.getElem?_map,places_get (by omega)];rfl
  have hbi:=psumB_bound b i
  by_cases h0:0 ≤ to
  ·obtain ⟨t,rfl⟩:=Int.eq_ofNat_of_zero_le h0
   have ht1:(t:Int) < ((b.length + 1:Nat):Int):=by omega
   have hpt:((placesN (wsB b) b.length).map VI)[t]? = some (VI (psum (wsB b) t:Nat)):=by rw [List.getElem?_map,places_get (by omega)];rfl
   have hbt:=psumB_bound b t
   have hw1:IntKind.i64.wrap (((psum (wsB b) t:Nat):Int) - ((psum (wsB b) i:Nat):Int)) = ((psum (wsB b) t:Nat):Int) - ((psum (wsB b) i:Nat):Int):=wrap_id (by omega) (by omega)
   have hw2:IntKind.i64.wrap (((psum (wsB b) t:Nat):Int) - ((psum (wsB b) i:Nat):Int) - 1) = dist (wsB b) i t:=by rw [wrap_id (by omega) (by omega)];rfl
   have hli:laidI (wsB b) i ⟨⟨op,dst,src,off,imm⟩,(t:Int)⟩ = if op = 6 then ⟨op,dst,src,off,dist (wsB b) i t⟩ else ⟨op,dst,src,dist (wsB b) i t,imm⟩:=by
    unfold laidI
    rw [if_pos h0]
    unfold Ins.aim
    simp
   rcases hgr with ⟨hx,rfl⟩ | ⟨g1,g2,ver,rfl,rfl⟩
   ·skip
    repeat' first
     | ((with_reducible show wx _ (XCode.cond _ _ _) _ _);refine wx_if rfl (fun _=>?_) (fun _=>?_))
     | simp (maxSteps:=1000000) only [go_sem,hp1,hp2,hp3,hlt',hw,h0i,hi1,hpi,h0,ht1,hpt,hw1,hw2,Stp.row,xRows,Int.toNat_natCast,Nat.mul_one,Nat.zero_add]
    ·rename_i e
     simp at e
     refine ⟨b.length - (i + 1),by omega,i + 1,_,_,rfl,by omega,?_,rfl⟩
     rw [htk,hx,hli,if_pos e]
     exact .inr ⟨g ++ [.cells 0 (⟨⟨op,dst,src,off,imm⟩,t⟩:Stp).row,.cells 0 (⟨op,dst,src,off,dist (wsB b) i t⟩:Ins).row,.cells 0 (⟨op,dst,src,off,dist (wsB b) i t⟩:Ins).row],[],0,by simp [Ins.row,Stp.row],by simp⟩
    ·rename_i e
     simp at e
     refine ⟨b.length - (i + 1),by omega,i + 1,_,_,rfl,by omega,?_,rfl⟩
     rw [htk,hx,hli,if_neg e]
     exact .inr ⟨g ++ [.cells 0 (⟨⟨op,dst,src,off,imm⟩,t⟩:Stp).row,.cells 0 (⟨op,dst,src,dist (wsB b) i t,imm⟩:Ins).row,.cells 0 (⟨op,dst,src,dist (wsB b) i t,imm⟩:Ins).row],[],0,by simp [Ins.row,Stp.row],by simp⟩
   ·skip
    repeat' first
     | ((with_reducible show wx _ (XCode.cond _ _ _) _ _);refine wx_if rfl (fun _=>?_) (fun _=>?_))
     | simp (maxSteps:=1000000) only [go_sem,hp1,hp2,hp3,hlt',hw,h0i,hi1,hpi,h0,ht1,hpt,hw1,hw2,Stp.row,xRows,Int.toNat_natCast,Nat.mul_one,Nat.zero_add,htk2,hnle,hnle2,hby]
    ·rename_i e
     simp at e
     refine ⟨b.length - (i + 1),by omega,i + 1,_,_,rfl,by omega,?_,rfl⟩
     rw [htk,hli,if_pos e]
     exact .inr ⟨g1,g2 ++ [.cells 0 (⟨⟨op,dst,src,off,imm⟩,t⟩:Stp).row,.cells 0 (⟨op,dst,src,off,dist (wsB b) i t⟩:Ins).row,.cells 0 (⟨op,dst,src,off,dist (wsB b) i t⟩:Ins).row],ver + 1,by simp [Ins.row,Stp.row],by simp⟩
    ·rename_i e
     simp at e
     refine ⟨b.length - (i + 1),by omega,i + 1,_,_,rfl,by omega,?_,rfl⟩
     rw [htk,hli,if_neg e]
     exact .inr ⟨g1,g2 ++ [.cells 0 (⟨⟨op,dst,src,off,imm⟩,t⟩:Stp).row,.cells 0 (⟨op,dst,src,dist (wsB b) i t,imm⟩:Ins).row,.cells 0 (⟨op,dst,src,dist (wsB b) i t,imm⟩:Ins).row],ver + 1,by simp [Ins.row,Stp.row],by simp⟩
  ·have hli:laidI (wsB b) i ⟨⟨op,dst,src,off,imm⟩,to⟩ = ⟨op,dst,src,off,imm⟩:=by
    unfold laidI
    rw [if_neg h0]
   rcases hgr with ⟨hx,rfl⟩ | ⟨g1,g2,ver,rfl,rfl⟩
   ·skip
    repeat' first
     | simp (maxSteps:=1000000) only [go_sem,hp1,hp2,hp3,hlt',hw,h0,Stp.row,xRows,Int.toNat_natCast,Nat.mul_one,Nat.zero_add]
    ·skip
     refine ⟨b.length - (i + 1),by omega,i + 1,_,_,rfl,by omega,?_,rfl⟩
     rw [htk,hx,hli]
     exact .inr ⟨g ++ [.cells 0 (⟨⟨op,dst,src,off,imm⟩,to⟩:Stp).row,.cells 0 (⟨op,dst,src,off,imm⟩:Ins).row,.cells 0 (⟨op,dst,src,off,imm⟩:Ins).row],[],0,by simp [Ins.row,Stp.row],by simp⟩
   ·skip
    repeat' first
     | simp (maxSteps:=1000000) only [go_sem,hp1,hp2,hp3,hlt',hw,h0,Stp.row,xRows,Int.toNat_natCast,Nat.mul_one,Nat.zero_add,htk2,hnle,hnle2,hby]
    ·skip
     refine ⟨b.length - (i + 1),by omega,i + 1,_,_,rfl,by omega,?_,rfl⟩
     rw [htk,hli]
     exact .inr ⟨g1,g2 ++ [.cells 0 (⟨⟨op,dst,src,off,imm⟩,to⟩:Stp).row,.cells 0 (⟨op,dst,src,off,imm⟩:Ins).row,.cells 0 (⟨op,dst,src,off,imm⟩:Ins).row],ver + 1,by simp [Ins.row,Stp.row],by simp⟩
 ·have hlt':¬ ((i:Int) < b.length):=by omega
  have hib:i = b.length:=by omega
  have htl:(laidL b).take i = laidL b:=List.take_of_length_le (by omega)
  rw [htl] at hgr
  subst hib
  repeat' first
   | simp (maxSteps:=1000000) only [go_sem,hlt']
  rcases hgr with ⟨hx,rfl⟩ | ⟨g1,g2,ver,rfl,rfl⟩
  ·rw [hx] at hll
   simp at hll
   omega
  ·refine ⟨_,rfl,h.length + (g1.length + 1),ver,_,5,_,rfl,by omega,by simp only [go_sem],?_,hll,rfl,rfl⟩
   intro y hy
   obtain ⟨s,_,hy⟩:=List.mem_flatMap.1 hy
   simp only [Ins.row,List.mem_cons,List.not_mem_nil,or_false] at hy
   rcases hy with rfl | rfl | rfl | rfl | rfl <;> exact .v _
end Go.Tidy
namespace Go.Tidy
open Go Go.Eng Go.Proofs
variable {cx:Cx}
theorem Stp.get {h:AH} {v:AV} {b:List Stp} (hb:SlT Stp.row 6 h v b) {k:Nat} {s:Stp} (hk:b[k]? = some s) :
 ∃ p q0 q5,xIad 6 v (VI k) = some p ∧ xFad 0 p = some q0 ∧ xFad 5 p = some q5 ∧ (∀ g,xLda (h ++ g) 5 q0 = some s.ins.av) ∧ (∀ g,xLd1 (h ++ g) q5 = some (VI s.to)) ∧ xLda h 5 q0 = some s.ins.av ∧ xLd1 h q5 = some (VI s.to):=by
 have hlt:=(List.getElem?_eq_some_iff.1 hk).1
 obtain ⟨p,hp1,hp2,hp3,hp4⟩:=hb.get Stp.len (by decide) hk
 obtain ⟨q5,h1,h2,h3⟩:=hp4 5 (VI s.to) rfl
 have key:∀ H,xLda H 6 p = some (.agg s.row) → ∀ q0,xFad 0 p = some q0 → xLda H 5 q0 = some s.ins.av:=by
  intro H hH q0 hq
  cases p with
  | ptr id ver off=>
    simp only [xFad,Option.some.injEq] at hq
    subst hq
    simp only [xLda,Nat.add_zero] at hH ⊢
    cases hrd:AH.rd H id ver with
    | none=>rw [hrd] at hH;cases hH
    | some cs=>
      rw [hrd] at hH
      simp only [Option.bind_some] at hH ⊢
      split at hH
      ·rename_i hle
       simp only [Option.some.injEq,AV.agg.injEq] at hH
       rw [if_pos (by omega)]
       have:(cs.drop off).take 5 = ((cs.drop off).take 6).take 5:=by rw [List.take_take];rfl
       rw [this,hH]
       rfl
      ·cases hH
  | rp cs=>
    simp only [xFad,Option.some.injEq,List.drop_zero] at hq
    subst hq
    simp only [xLda] at hH ⊢
    split at hH
    ·rename_i hle
     simp only [Option.some.injEq,AV.agg.injEq] at hH
     rw [if_pos (by omega)]
     have:cs.take 5 = (cs.take 6).take 5:=by rw [List.take_take];rfl
     rw [this,hH]
     rfl
    ·cases hH
  | _=>cases hq
 have hq0:∃ q0,xFad 0 p = some q0:=by
  cases p <;> first | exact ⟨_,rfl⟩ | (simp [xLda] at hp2)
 obtain ⟨q0,hq0⟩:=hq0
 exact ⟨p,q0,q5,hp1,hq0,h1,fun g=>key _ (hp3 g) q0 hq0,h3,key _ hp2 q0 hq0,h2⟩
def unmark:List Bool → Nat
 | []=>0
 | d :: r=>(if d then 0 else 1) + unmark r
theorem unmark_set:∀ {R:List Bool} {i:Nat},R[i]? = some false → unmark (R.set i true) + 1 = unmark R
 | [],i,h=>by simp at h
 | x :: r,0,h=>by
   simp at h
   subst h
   simp [unmark]
   omega
 | x :: r,i + 1,h=>by
   have:=unmark_set (R:=r) (i:=i) (by simpa using h)
   simp only [List.set_cons_succ,unmark]
   omega
theorem unmark_new (n:Nat):unmark (List.replicate n false) = n:=by
 induction n with
 | zero=>rfl
 | succ n ih=>simp only [List.replicate_succ,unmark,ih];simp;omega
def tdC (st:List Nat):List AV:=st.reverse.map fun k:Nat=>VI (k:Int)
theorem set_midD (cs:List AV) {i:Nat} (hi:i < cs.length) (x:AV):cs.take i ++ x :: cs.drop (i + 1) = cs.set i x:=by
 rw [List.set_eq_take_append_cons_drop,if_pos hi]
theorem tdC_cons (k:Nat) (st:List Nat):tdC (k :: st) = tdC st ++ [VI k]:=by simp [tdC]
theorem tdC_len (st:List Nat):(tdC st).length = st.length:=by simp [tdC]
structure Goes (b:List Stp) (R:List Bool) (st:List Nat):Prop where
 len:R.length = b.length
 inn:∀ k ∈ st,k < b.length
 zero:R[0]? = some true ∨ 0 ∈ st
 to:∀ (k:Nat) s,b[k]? = some s → R[k]? = some true → leads s.ins = true → R[s.to.toNat]? = some true ∨ s.to.toNat ∈ st
 next:∀ (k:Nat) s,b[k]? = some s → R[k]? = some true → jumps s.ins ≠ 1 → jumps s.ins ≠ 4 → R[k + 1]? = some true ∨ k + 1 ∈ st
 min:∀ r,Reach b r → (∀ k,R[k]? = some true → r k = true) ∧ ∀ k ∈ st,r k = true
theorem Goes.skip {b:List Stp} {R:List Bool} {st:List Nat} {k:Nat} (h:Goes b R (k :: st)) (hk:R[k]? = some true):Goes b R st:=by
 have key:∀ j,(R[j]? = some true ∨ j ∈ k :: st) → R[j]? = some true ∨ j ∈ st:=by
  intro j hj
  rcases hj with q | q
  ·exact .inl q
  ·rcases List.mem_cons.1 q with rfl | q
   ·exact .inl hk
   ·exact .inr q
 exact ⟨h.len,fun j hj=>h.inn j (by simp [hj]),key 0 h.zero,fun j s h1 h2 h3=>key _ (h.to j s h1 h2 h3),fun j s h1 h2 h3 h4=>key _ (h.next j s h1 h2 h3 h4),fun r hr=>⟨(h.min r hr).1,fun j hj=>(h.min r hr).2 j (by simp [hj])⟩⟩
theorem Goes.mark {b:List Stp} {R:List Bool} {st st2:List Nat} {k:Nat} {s:Stp} (h:Goes b R (k :: st)) (hk:R[k]? = some false) (hs:b[k]? = some s) (hsub:∀ j ∈ st,j ∈ st2) (hinn:∀ j ∈ st2,j < b.length)
 (h1:leads s.ins = true → s.to.toNat ∈ st2) (h2:jumps s.ins ≠ 1 → jumps s.ins ≠ 4 → k + 1 ∈ st2)
 (hmin:∀ j ∈ st2,j ∈ st ∨ (leads s.ins = true ∧ j = s.to.toNat) ∨ (jumps s.ins ≠ 1 ∧ jumps s.ins ≠ 4 ∧ j = k + 1)):Goes b (R.set k true) st2:=by
 have hlt:=(List.getElem?_eq_some_iff.1 hk).1
 have key:∀ j,(R[j]? = some true ∨ j ∈ k :: st) → (R.set k true)[j]? = some true ∨ j ∈ st2:=by
  intro j hj
  by_cases hjk:j = k
  ·subst hjk;exact .inl (List.getElem?_set_self hlt)
  ·rcases hj with q | q
   ·rw [List.getElem?_set_ne (fun q=>hjk q.symm)];exact .inl q
   ·rcases List.mem_cons.1 q with q | q
    ·exact absurd q hjk
    ·exact .inr (hsub j q)
 refine ⟨by rw [List.length_set];exact h.len,hinn,key 0 h.zero,?_,?_,?_⟩
 ·intro j s' hs' hR hl
  by_cases hjk:j = k
  ·subst hjk
   rw [hs] at hs'
   cases hs'
   exact .inr (h1 hl)
  ·rw [List.getElem?_set_ne (fun q=>hjk q.symm)] at hR
   exact key _ (h.to j s' hs' hR hl)
 ·intro j s' hs' hR h3 h4
  by_cases hjk:j = k
  ·subst hjk
   rw [hs] at hs'
   cases hs'
   exact .inr (h2 h3 h4)
  ·rw [List.getElem?_set_ne (fun q=>hjk q.symm)] at hR
   exact key _ (h.next j s' hs' hR h3 h4)
 ·intro r hr
  have hm:=h.min r hr
  have hrk:r k = true:=hm.2 k (by simp)
  refine ⟨fun j hj=>?_,fun j hj=>?_⟩
  ·by_cases hjk:j = k
   ·rw [hjk];exact hrk
   ·rw [List.getElem?_set_ne (fun q=>hjk q.symm)] at hj
    exact hm.1 j hj
  ·rcases hmin j hj with q | ⟨q1,rfl⟩ | ⟨q1,q2,rfl⟩
   ·exact hm.2 j (by simp [q])
   ·exact hr.to k s hs hrk q1
   ·exact hr.next k s hs hrk q1 q2
theorem Goes.reach {b:List Stp} {R:List Bool} (h:Goes b R []):Reach b fun k=>R.getD k false:=by
 have key:∀ j,(R[j]? = some true ∨ j ∈ ([]:List Nat)) → R.getD j false = true:=by
  intro j hj
  rcases hj with q | q
  ·rw [List.getD_eq_getElem?_getD,q];rfl
  ·simp at q
 have back:∀ j,R.getD j false = true → R[j]? = some true:=by
  intro j hj
  rw [List.getD_eq_getElem?_getD] at hj
  cases hr:R[j]? with
  | none=>rw [hr] at hj;simp at hj
  | some t=>rw [hr] at hj;simp at hj;rw [hj]
 exact ⟨key 0 h.zero,fun k s hk hr hl=>key _ (h.to k s hk (back k hr) hl),fun k s hk hr h1 h4=>key _ (h.next k s hk (back k hr) h1 h4)⟩
theorem Goes.least {b:List Stp} {R:List Bool} (h:Goes b R []):∀ r',Reach b r' → ∀ k,R.getD k false = true → r' k = true:=by
 intro r' hr k hk
 refine (h.min r' hr).1 k ?_
 rw [List.getD_eq_getElem?_getD] at hk
 cases hr:R[k]? with
 | none=>rw [hr] at hk;simp at hk
 | some t=>rw [hr] at hk;simp at hk;rw [hk]
set_option maxRecDepth 100000 in
set_option maxHeartbeats 4000000 in
theorem c238 (hO:On cx) {h:AH} {bv:AV} {b:List Stp} (hb:SlT Stp.row 6 h bv b) (hf:Fits b) (hl:b.length < 1099511627776) :
 SimCall cx 238 [bv] h fun r h'=>∃ R:List Bool,R.length = b.length ∧ Reach b (fun k=>R.getD k false) ∧ (∀ r',Reach b r' → ∀ k,R.getD k false = true → r' k = true) ∧ r = .sl h.length 0 0 b.length 1 ∧ h' = h ++ [.cells 0 (R.map VB)]:=by
 refine (SimCall.gc1 hole_id (Q:=fun n sz cs=>∃ R:List Bool,R.length = b.length ∧ Reach b (fun k=>R.getD k false) ∧ (∀ r',Reach b r' → ∀ k,R.getD k false = true → r' k = true) ∧ n = b.length ∧ sz = 1 ∧ cs = R.map VB) ?_).mono (by rintro r h' ⟨n,sz,cs,⟨R,h1,h2,h3,rfl,rfl,rfl⟩,rfl,rfl⟩;exact ⟨R,h1,h2,h3,rfl,rfl⟩)
 have hne:=hf.ne
 have h00:(0:Int) ≤ b.length:=by omega
 have h1b:(b.length:Int) * ((1:Nat):Int) ≤ 281474976710656:=by omega
 have hbig:(b.length:Int) < 9223372036854775808:=by omega
 have hfl:∀ n:Nat,(List.replicate n [VB false]).flatten = (List.replicate n false).map VB:=by
  intro n
  induction n with
  | zero=>rfl
  | succ n ih=>rw [List.replicate_succ,List.flatten_cons,ih];rfl
 refine SimCall.by hO.P res238 ?_
 unfold x238 r238
 repeat' first
  | simp (maxSteps:=1000000) only [go_sem,hb.len,h00,h1b,hbig,Int.le_refl,Int.toNat_natCast,hfl]
 refine SimLoop.inv [0,2,0] (fun k s=>∃ (R:List Bool) (st:List Nat) (g1 g2:AH) (ver:Nat) (rest:List AV),k = 3 * unmark R + st.length ∧ unmark R + st.length ≤ b.length + 1 ∧ Goes b R st ∧
  s = ⟨[bv,.un,.un,.sl h.length 0 0 b.length 1,.sl (h.length + (g1.length + 1)) ver 0 st.length 1,.un,.un,.un,.un,.un,.un,.un,.un,.un,.un,.un,.un,.un,.un,.un,.un,.un,.un,.un,.un,.un,.un,.un,.un,.un,.un,.un,.un,.un,.un,.un,.un,.un,.un,.un,.un,.un,.un,.un,.un,.un,.un,.un,.un,.un,.un,.un,.un,.un,.un,.un,.un,.un,.un,.un,.un,.un,.un,.un],h ++ (.cells 0 (R.map VB) :: (g1 ++ .cells ver (tdC st ++ rest) :: g2))⟩) ?_ (3 * b.length + 1) ?_
 rotate_left
 ·refine ⟨List.replicate b.length false,[0],[],[],0,[],by rw [unmark_new];rfl,by rw [unmark_new];exact Nat.le_refl _,⟨by simp,fun k hk=>by simp at hk;omega,.inr (by simp),?_,?_,fun r hr=>⟨fun k hk=>?_,fun k hk=>?_⟩⟩,by simp only [go_sem,tdC,List.reverse_cons,List.reverse_nil];rfl⟩
  ·intro k s _ hR
   have:=List.eq_of_mem_replicate (List.mem_of_getElem? hR)
   cases this
  ·intro k s _ hR
   have:=List.eq_of_mem_replicate (List.mem_of_getElem? hR)
   cases this
  ·have:=List.eq_of_mem_replicate (List.mem_of_getElem? hk)
   cases this
  ·simp at hk
   rw [hk]
   exact hr.zero
 rintro k s ⟨R,st,g1,g2,ver,rest,rfl,hun,hg,rfl⟩
 cases st with
 | nil=>
   have hlf:¬ (0:Int) < ((0:Nat):Int):=by decide
   repeat' first
    | simp (maxSteps:=1000000) only [go_sem,hlf]
   refine ⟨_,rfl,h.length,0,_,1,_,rfl,Nat.le_refl _,by simp only [go_sem],?_,R,hg.len,hg.reach,hg.least,rfl,rfl,rfl⟩
   intro y hy
   obtain ⟨t,_,rfl⟩:=List.mem_map.1 hy
   exact .v _
 | cons k st=>
   have hkl:=hg.inn k (by simp)
   have hRl:=hg.len
   have hRk:=List.getElem?_eq_getElem (show k < R.length by omega)
   have hbk:=List.getElem?_eq_getElem hkl
   obtain ⟨p,q0,q5,hp1,hp2,hp3,hp4,hp5,_,_⟩:=Stp.get hb hbk
   have hto:=hf.to k _ hbk
   have hnoT:=hf.no k _ hbk
   have hlast:=fun q1 q4=>hf.last' hbk q1 q4
   generalize b[k] = s at hbk hp4 hp5 hto hnoT hlast
   have hRm:(R.map VB)[k]? = some (VB R[k]):=by rw [List.getElem?_map,hRk];rfl
   have hset:(R.map VB).take k ++ VB true :: (R.map VB).drop (k + 1) = (R.set k true).map VB:=by
    rw [set_midD _ (by simp;omega),List.map_set]
   have hil:k + 1 ≤ (R.map VB).length:=by simp;omega
   have h0k:(0:Int) ≤ (k:Int):=by omega
   have hkb:(k:Int) < (b.length:Int):=by omega
   have hpos:(0:Int) < ((st.length + 1:Nat):Int):=by omega
   have hstl:st.length + 1 ≤ b.length + 1:=by simp at hun;omega
   have hwl:IntKind.i64.wrap (((st.length + 1:Nat):Int) - 1) = (st.length:Int):=by rw [wrap_id (by omega) (by omega)];omega
   have h0s:(0:Int) ≤ (st.length:Int):=by omega
   have hss:(st.length:Int) < ((st.length + 1:Nat):Int):=by omega
   have hle5:(st.length:Int) ≤ ((st.length + 1:Nat):Int):=by omega
   have hBl:=tdC_len st
   rw [tdC_cons]
   generalize hBg:tdC st = B at hBl
   have r0:∀ (x:AV) l,(B ++ x :: l)[st.length]? = some x:=fun x l=>by rw [← hBl];simp
   cases hRb:R[k] with
   | true=>
     rw [hRb] at hRm hRk
     repeat' first
      | simp (maxSteps:=1000000) only [go_sem,hpos,hwl,h0s,hss,hle5,r0,h0k,hkb,hRm,xHi,xLo,or_true,Nat.zero_mul,Nat.sub_zero,Int.toNat_natCast,Nat.zero_add,Nat.mul_one]
     refine ⟨3 * unmark R + st.length,by simp,R,st,g1,g2,ver,VI k :: rest,rfl,by simp at hun;omega,hg.skip hRk,?_⟩
     rw [← hBg]
   | false=>
     rw [hRb] at hRm hRk
     have hun2:=unmark_set hRk
     have hwk:IntKind.i64.wrap ((k:Int) + 1) = ((k + 1:Nat):Int):=by rw [wrap_id (by omega) (by omega)];omega
     have tB:∀ l,List.take st.length (B ++ l) = B:=fun l=>by rw [← hBl,List.take_left]
     have tB1:∀ (x:AV) l,List.take (st.length + 1) (B ++ x :: l) = B ++ [x]:=fun x l=>by rw [← hBl,List.take_length_add_append];rfl
     have dB:∀ (x:AV) l,List.drop (st.length + 1) (B ++ x :: l) = l:=fun x l=>by rw [← hBl,← List.drop_drop,List.drop_left];rfl
     have dB1:∀ (x y:AV) l,List.drop (st.length + 1 + 1) (B ++ x :: y :: l) = l:=fun x y l=>by rw [← hBl,Nat.add_assoc,← List.drop_drop,List.drop_left];rfl
     have hby:(st.length + 1 + 1) * 8 ≤ 140737488355328:=by omega
     by_cases hld:leads s.ins = true
     ·obtain ⟨h0t,htl,_⟩:=hto hld
      obtain ⟨⟨op,dst,src,off,imm⟩,to⟩:=s
      simp only at h0t htl hp5
      obtain ⟨t,rfl⟩:=Int.eq_ofNat_of_zero_le h0t
      cases rest with
      | nil=>
        have hf1:st.length + 1 ≤ B.length + (0 + 1):=by omega
        have hf1':st.length + 1 ≤ B.length + 1:=by omega
        have hf2:¬ st.length + 1 + 1 ≤ B.length + 1:=by omega
        have hf3:st.length + 1 ≤ B.length + 1:=by omega
        repeat' first
         | ((with_reducible show wx _ (XCode.cond _ _ _) _ _);refine wx_if rfl (fun _=>?_) (fun _=>?_))
         | ((with_reducible show SemL _ _ _ _);refine SemL.of ?_)
         | ((with_reducible show SimCall _ 145 _ _ _);refine (c145 hO ⟨op,dst,src,off,imm⟩ _).mono ?_;rintro r h' ⟨rfl,rfl⟩)
         | simp (maxSteps:=1000000) only [go_sem,hpos,hwl,h0s,hss,hle5,r0,h0k,hkb,hRm,hset,hil,hp1,hp2,hp3,hp4,hp5,hf1,hf2,tB,tB1,dB,dB1,hwk,xHi,xLo,xRows,or_true,Nat.zero_mul,Nat.sub_zero,Int.toNat_natCast,Nat.zero_add,Nat.mul_one,hf1',hf3,hby,h0t]
         | ((with_reducible show wl _ (XI.mk _ (some _) (XBody.op _) :: _) _ _);refine wl_optT rfl (fun e2=>by ((try simp only [Bool.and_eq_true] at e2);first | (simp (maxSteps:=1000000) only [e2,go_sem,hpos,hwl,h0s,hss,hle5,r0,h0k,hkb,hRm,hset,hil,hp1,hp2,hp3,hp4,hp5,hf1,hf2,tB,tB1,dB,dB1,hwk,xHi,xLo,xRows,or_true,Nat.zero_mul,Nat.sub_zero,Int.toNat_natCast,Nat.zero_add,Nat.mul_one,hf1',hf3,hby,h0t];first | done | rfl))) ?_)
        ·rename_i e
         simp at e
         refine ⟨3 * unmark (R.set k true) + ((k + 1) :: t :: st).length,?_,R.set k true,(k + 1) :: t :: st,g1,g2 ++ [.cells 0 [VI t],.cells 0 [VI ((k + 1:Nat):Int)]],ver + 1,[],rfl,?_,hg.mark hRk hbk ?_ ?_ ?_ ?_ ?_,?_⟩
         ·(try simp only [List.length_cons]);omega
         ·(try simp only [List.length_cons] at hun ⊢);omega
         ·intro j hj;simp [hj]
         ·intro j hj
          have hj2:j ∈ st → j < b.length:=fun q=>hg.inn j (by simp [q])
          have hnx:=hlast e.1 e.2
          simp only [List.mem_cons] at hj
          rcases hj with rfl | rfl | hj
          ·omega
          ·omega
          ·exact hj2 hj
         ·intro q;simp
         ·intro q1 q4;simp
         ·intro j hj;simp only [List.mem_cons,Int.toNat_natCast] at hj ⊢;first | (rcases hj with rfl | rfl | hj;exact .inr (.inr ⟨e.1,e.2,rfl⟩);exact .inr (.inl ⟨hld,rfl⟩);exact .inl hj) | (rcases hj with rfl | hj;exact .inr (.inl ⟨hld,rfl⟩);exact .inl hj) | (rcases hj with rfl | hj;exact .inr (.inr ⟨e.1,e.2,rfl⟩);exact .inl hj) | exact .inl hj
         ·simp only [tdC_cons,hBg,List.append_assoc,List.cons_append,List.nil_append];rfl
        ·rename_i e
         simp at e
         refine ⟨3 * unmark (R.set k true) + (t :: st).length,?_,R.set k true,t :: st,g1,g2 ++ [.cells 0 [VI t]],ver,[],rfl,?_,hg.mark hRk hbk ?_ ?_ ?_ ?_ ?_,?_⟩
         ·(try simp only [List.length_cons]);omega
         ·(try simp only [List.length_cons] at hun ⊢);omega
         ·intro j hj;simp [hj]
         ·intro j hj
          have hj2:j ∈ st → j < b.length:=fun q=>hg.inn j (by simp [q])
          simp only [List.mem_cons] at hj
          rcases hj with rfl | hj
          ·omega
          ·exact hj2 hj
         ·intro q;simp
         ·intro q1 q4;exact absurd (e q1) q4
         ·intro j hj;simp only [List.mem_cons,Int.toNat_natCast] at hj ⊢;first | (rcases hj with rfl | rfl | hj;exact .inr (.inr ⟨e.1,e.2,rfl⟩);exact .inr (.inl ⟨hld,rfl⟩);exact .inl hj) | (rcases hj with rfl | hj;exact .inr (.inl ⟨hld,rfl⟩);exact .inl hj) | (rcases hj with rfl | hj;exact .inr (.inr ⟨e.1,e.2,rfl⟩);exact .inl hj) | exact .inl hj
         ·simp only [tdC_cons,hBg,List.append_assoc,List.cons_append,List.nil_append];rfl
      | cons x0 rest=>
        have hf1:st.length + 1 ≤ B.length + (rest.length + 1 + 1):=by omega
        have hf2:st.length + 1 + 1 ≤ B.length + (rest.length + 1 + 1):=by omega
        repeat' first
         | ((with_reducible show wx _ (XCode.cond _ _ _) _ _);refine wx_if rfl (fun _=>?_) (fun _=>?_))
         | ((with_reducible show SemL _ _ _ _);refine SemL.of ?_)
         | ((with_reducible show SimCall _ 145 _ _ _);refine (c145 hO ⟨op,dst,src,off,imm⟩ _).mono ?_;rintro r h' ⟨rfl,rfl⟩)
         | simp (maxSteps:=1000000) only [go_sem,hpos,hwl,h0s,hss,hle5,r0,h0k,hkb,hRm,hset,hil,hp1,hp2,hp3,hp4,hp5,hf1,hf2,tB,tB1,dB,dB1,hwk,xHi,xLo,xRows,or_true,Nat.zero_mul,Nat.sub_zero,Int.toNat_natCast,Nat.zero_add,Nat.mul_one,h0t]
         | ((with_reducible show wl _ (XI.mk _ (some _) (XBody.op _) :: _) _ _);refine wl_optT rfl (fun e2=>by ((try simp only [Bool.and_eq_true] at e2);first | (simp (maxSteps:=1000000) only [e2,go_sem,hpos,hwl,h0s,hss,hle5,r0,h0k,hkb,hRm,hset,hil,hp1,hp2,hp3,hp4,hp5,hf1,hf2,tB,tB1,dB,dB1,hwk,xHi,xLo,xRows,or_true,Nat.zero_mul,Nat.sub_zero,Int.toNat_natCast,Nat.zero_add,Nat.mul_one,h0t];first | done | rfl))) ?_)
        ·rename_i e
         simp at e
         refine ⟨3 * unmark (R.set k true) + ((k + 1) :: t :: st).length,?_,R.set k true,(k + 1) :: t :: st,g1,g2 ++ [.cells 0 [VI t],.cells 0 [VI ((k + 1:Nat):Int)]],ver,rest,rfl,?_,hg.mark hRk hbk ?_ ?_ ?_ ?_ ?_,?_⟩
         ·(try simp only [List.length_cons]);omega
         ·(try simp only [List.length_cons] at hun ⊢);omega
         ·intro j hj;simp [hj]
         ·intro j hj
          have hj2:j ∈ st → j < b.length:=fun q=>hg.inn j (by simp [q])
          have hnx:=hlast e.1 e.2
          simp only [List.mem_cons] at hj
          rcases hj with rfl | rfl | hj
          ·omega
          ·omega
          ·exact hj2 hj
         ·intro q;simp
         ·intro q1 q4;simp
         ·intro j hj;simp only [List.mem_cons,Int.toNat_natCast] at hj ⊢;first | (rcases hj with rfl | rfl | hj;exact .inr (.inr ⟨e.1,e.2,rfl⟩);exact .inr (.inl ⟨hld,rfl⟩);exact .inl hj) | (rcases hj with rfl | hj;exact .inr (.inl ⟨hld,rfl⟩);exact .inl hj) | (rcases hj with rfl | hj;exact .inr (.inr ⟨e.1,e.2,rfl⟩);exact .inl hj) | exact .inl hj
         ·simp only [tdC_cons,hBg,List.append_assoc,List.cons_append,List.nil_append];rfl
        ·rename_i e
         simp at e
         refine ⟨3 * unmark (R.set k true) + (t :: st).length,?_,R.set k true,t :: st,g1,g2 ++ [.cells 0 [VI t]],ver,x0 :: rest,rfl,?_,hg.mark hRk hbk ?_ ?_ ?_ ?_ ?_,?_⟩
         ·(try simp only [List.length_cons]);omega
         ·(try simp only [List.length_cons] at hun ⊢);omega
         ·intro j hj;simp [hj]
         ·intro j hj
          have hj2:j ∈ st → j < b.length:=fun q=>hg.inn j (by simp [q])
          simp only [List.mem_cons] at hj
          rcases hj with rfl | hj
          ·omega
          ·exact hj2 hj
         ·intro q;simp
         ·intro q1 q4;exact absurd (e q1) q4
         ·intro j hj;simp only [List.mem_cons,Int.toNat_natCast] at hj ⊢;first | (rcases hj with rfl | rfl | hj;exact .inr (.inr ⟨e.1,e.2,rfl⟩);exact .inr (.inl ⟨hld,rfl⟩);exact .inl hj) | (rcases hj with rfl | hj;exact .inr (.inl ⟨hld,rfl⟩);exact .inl hj) | (rcases hj with rfl | hj;exact .inr (.inr ⟨e.1,e.2,rfl⟩);exact .inl hj) | exact .inl hj
         ·simp only [tdC_cons,hBg,List.append_assoc,List.cons_append,List.nil_append];rfl
     ·have hto1:=hnoT (by simpa using hld)
      have hld':leads s.ins = false:=by simpa using hld
      obtain ⟨⟨op,dst,src,off,imm⟩,to⟩:=s
      simp only at hto1
      subst hto1
      have hf1:st.length + 1 ≤ B.length + (rest.length + 1):=by omega
      skip
      repeat' first
       | ((with_reducible show wx _ (XCode.cond _ _ _) _ _);refine wx_if rfl (fun _=>?_) (fun _=>?_))
       | ((with_reducible show SemL _ _ _ _);refine SemL.of ?_)
       | ((with_reducible show SimCall _ 145 _ _ _);refine (c145 hO ⟨op,dst,src,off,imm⟩ _).mono ?_;rintro r h' ⟨rfl,rfl⟩)
       | simp (maxSteps:=1000000) only [go_sem,hpos,hwl,h0s,hss,hle5,r0,h0k,hkb,hRm,hset,hil,hp1,hp2,hp3,hp4,hp5,hf1,tB,tB1,dB,dB1,hwk,xHi,xLo,xRows,or_true,Nat.zero_mul,Nat.sub_zero,Int.toNat_natCast,Nat.zero_add,Nat.mul_one]
       | ((with_reducible show wl _ (XI.mk _ (some _) (XBody.op _) :: _) _ _);refine wl_optT rfl (fun e2=>by ((try simp only [Bool.and_eq_true] at e2);first | (simp (maxSteps:=1000000) only [e2,go_sem,hpos,hwl,h0s,hss,hle5,r0,h0k,hkb,hRm,hset,hil,hp1,hp2,hp3,hp4,hp5,hf1,tB,tB1,dB,dB1,hwk,xHi,xLo,xRows,or_true,Nat.zero_mul,Nat.sub_zero,Int.toNat_natCast,Nat.zero_add,Nat.mul_one];first | done | rfl))) ?_)
      ·rename_i e
       simp at e
       refine ⟨3 * unmark (R.set k true) + ((k + 1) :: st).length,?_,R.set k true,(k + 1) :: st,g1,g2 ++ [.cells 0 [VI ((k + 1:Nat):Int)]],ver,rest,rfl,?_,hg.mark hRk hbk ?_ ?_ ?_ ?_ ?_,?_⟩
       ·(try simp only [List.length_cons]);omega
       ·(try simp only [List.length_cons] at hun ⊢);omega
       ·intro j hj;simp [hj]
       ·intro j hj
        have hj2:j ∈ st → j < b.length:=fun q=>hg.inn j (by simp [q])
        have hnx:=hlast e.1 e.2
        simp only [List.mem_cons] at hj
        rcases hj with rfl | hj
        ·omega
        ·exact hj2 hj
       ·intro q;exact absurd q hld
       ·intro q1 q4;simp
       ·intro j hj;simp only [List.mem_cons,Int.toNat_natCast] at hj ⊢;first | (rcases hj with rfl | rfl | hj;exact .inr (.inr ⟨e.1,e.2,rfl⟩);exact .inr (.inl ⟨hld,rfl⟩);exact .inl hj) | (rcases hj with rfl | hj;exact .inr (.inl ⟨hld,rfl⟩);exact .inl hj) | (rcases hj with rfl | hj;exact .inr (.inr ⟨e.1,e.2,rfl⟩);exact .inl hj) | exact .inl hj
       ·simp only [tdC_cons,hBg,List.append_assoc,List.cons_append,List.nil_append];rfl
      ·rename_i e
       simp at e
       refine ⟨3 * unmark (R.set k true) + (st).length,?_,R.set k true,st,g1,g2,ver,VI k :: rest,rfl,?_,hg.mark hRk hbk ?_ ?_ ?_ ?_ ?_,?_⟩
       ·(try simp only [List.length_cons]);omega
       ·(try simp only [List.length_cons] at hun ⊢);omega
       ·intro j hj;simp [hj]
       ·intro j hj
        have hj2:j ∈ st → j < b.length:=fun q=>hg.inn j (by simp [q])
        exact hj2 hj
       ·intro q;exact absurd q hld
       ·intro q1 q4;exact absurd (e q1) q4
       ·intro j hj;simp only [List.mem_cons,Int.toNat_natCast] at hj ⊢;first | (rcases hj with rfl | rfl | hj;exact .inr (.inr ⟨e.1,e.2,rfl⟩);exact .inr (.inl ⟨hld,rfl⟩);exact .inl hj) | (rcases hj with rfl | hj;exact .inr (.inl ⟨hld,rfl⟩);exact .inl hj) | (rcases hj with rfl | hj;exact .inr (.inr ⟨e.1,e.2,rfl⟩);exact .inl hj) | exact .inl hj
       ·simp only [tdC_cons,hBg,List.append_assoc,List.cons_append,List.nil_append]
end Go.Tidy
namespace Go.Tidy
open Go Go.Eng Go.Proofs
variable {cx:Cx}
theorem find_int2 (x:Int):∀ (es:List (Nat × Value × AV)),(∀ e ∈ es,∃ n:Int,e.2.1 = .int .i64 n) → ∃ o:Option Nat,xFind ⟨false,[1]⟩ (.int .i64 x) es = some o ∧ (o = none → ∀ e ∈ es,e.2.1 ≠ .int .i64 x) ∧ ∀ i,o = some i → ∃ e,es[i]? = some e ∧ e.2.1 = .int .i64 x
 | [],_=>⟨none,rfl,fun _ e he=>by simp at he,fun i h=>by cases h⟩
 | e :: r,h=>by
   obtain ⟨n,hn⟩:=h e (by simp)
   obtain ⟨o,h1,h2,h3⟩:=find_int2 x r (fun e' he=>h e' (by simp [he]))
   simp only [xFind,hn]
   by_cases hx:x = n
   ·subst hx
    refine ⟨some 0,by simp [xEq,ofV,xEqs,sameOne],(fun q=>by cases q),fun i hi=>?_⟩
    cases hi
    exact ⟨e,rfl,hn⟩
   ·refine ⟨o.map (· + 1),by simp [xEq,ofV,xEqs,sameOne,hx,h1],?_,?_⟩
    ·intro q e' he
     rcases List.mem_cons.1 he with rfl | he
     ·rw [hn];intro q2;cases q2;exact hx rfl
     ·cases o with
      | none=>exact h2 rfl e' he
      | some j=>cases q
    ·intro i hi
     cases o with
     | none=>cases hi
     | some j=>
       simp at hi
       subst hi
       obtain ⟨e',q1,q2⟩:=h3 j rfl
       exact ⟨e',by simpa using q1,q2⟩
def mapG (vf:Nat → Int) (n:Nat):List (Nat × Value × AV):=(List.range n).map fun k=>(k,.int .i64 (k:Int),VI (vf k))
theorem mapG_succ (vf:Nat → Int) (n:Nat):mapG vf (n + 1) = mapG vf n ++ [(n,.int .i64 (n:Int),VI (vf n))]:=by
 unfold mapG
 rw [List.range_succ,List.map_append]
 rfl
theorem mapG_int (vf:Nat → Int) (n:Nat):∀ e ∈ mapG vf n,∃ x:Int,e.2.1 = .int .i64 x:=by
 intro e he
 obtain ⟨k,_,rfl⟩:=List.mem_map.1 he
 exact ⟨_,rfl⟩
section
variable {H:AH} {m:AV} {id c n k:Nat} {vf:Nat → Int}
theorem lku_G (hm:H.mapAt m = some (id,c,mapG vf n)) (hk:k < n):xLku H ⟨false,[1]⟩ (.int .i64 0) false m (VI k) = some (VI (vf k)):=by
 obtain ⟨o,h1,h2,h3⟩:=find_int2 (k:Int) (mapG vf n) (mapG_int vf n)
 have hgk:∀ i,i < n → (mapG vf n)[i]? = some (i,.int .i64 (i:Int),VI (vf i)):=by
  intro i hi
  unfold mapG
  rw [List.getElem?_map,List.getElem?_range hi]
  rfl
 unfold xLku xLk
 simp only [AV.toV,Option.bind_some,keyI_ok,if_true,hm,h1,Option.map_some]
 cases o with
 | none=>exact absurd rfl (h2 rfl _ (List.mem_of_getElem? (hgk k hk)))
 | some i=>
   obtain ⟨e,q1,q2⟩:=h3 i rfl
   have hi:i < n:=by
    have:=(List.getElem?_eq_some_iff.1 q1).1
    simpa [mapG] using this
   rw [hgk i hi] at q1
   cases q1
   simp only [Value.int.injEq,true_and] at q2
   have:i = k:=by omega
   subst this
   simp [hgk i hi]
theorem mup_G (hm:H.mapAt m = some (id,n,mapG vf n)):xMup H ⟨false,[1]⟩ m (VI n) (VI (vf n)) = some (H.set id (.map (n + 1) (mapG vf (n + 1)))):=by
 obtain ⟨o,h1,h2,h3⟩:=find_int2 (n:Int) (mapG vf n) (mapG_int vf n)
 unfold xMup
 simp only [AV.toV,Option.bind_some,keyI_ok,if_true,hm,h1]
 cases o with
 | none=>simp [mapG_succ]
 | some i=>
   obtain ⟨e,q1,q2⟩:=h3 i rfl
   obtain ⟨j,hj,rfl⟩:=List.mem_map.1 (List.mem_of_getElem? q1)
   simp at hj q2
   omega
end
def movS (g:Nat → Bool) (s:Stp):Stp:=⟨s.ins,if 0 ≤ s.to then cnt g 0 s.to.toNat else s.to⟩
def woL (b:List Stp) (g:Nat → Bool) (i:Nat):List Stp:=(keepL g 0 (b.take i)).map (movS g)
theorem woL_all (b:List Stp) (g:Nat → Bool) {i:Nat} (h:b.length ≤ i):woL b g i = withoutL b g:=by
 unfold woL withoutL
 rw [List.take_of_length_le h]
 rfl
theorem woL_succ {b:List Stp} {g:Nat → Bool} {i:Nat} {s:Stp} (h:b[i]? = some s):woL b g (i + 1) = woL b g i ++ (if g i then [] else [movS g s]):=by
 obtain ⟨hi,rfl⟩:=List.getElem?_eq_some_iff.1 h
 unfold woL
 rw [List.take_succ_eq_append_getElem hi,keepL_append,List.map_append]
 have:0 + (b.take i).length = i:=by simp;omega
 rw [this]
 simp only [keepL]
 split <;> rfl
theorem cnt_full (g:Nat → Bool):∀ n,cnt g 0 n = n → ∀ k,k < n → g k = false
 | 0,_,k,hk=>by omega
 | n + 1,h,k,hk=>by
   rw [cnt,Nat.zero_add] at h
   have:=cnt_le g 0 n
   cases hg:g n with
   | true=>rw [hg] at h;simp at h;omega
   | false=>
     rw [hg] at h
     simp at h
     by_cases hkn:k = n
     ·rw [hkn];exact hg
     ·exact cnt_full g n h k (by omega)
def OutS (L:Nat) (sv:AV) (xs:List Stp) (g:AH):Prop:=
 (xs = [] ∧ sv = .v (.slice none 0 0)) ∨ ∃ g1 g2 ver,g = g1 ++ AO.cells ver (xs.flatMap Stp.row) :: g2 ∧ sv = .sl (L + (g1.length + 1)) ver 0 xs.length 6
def Changed (h:AH) (bv:AV) (b:List Stp) (P:List Stp → Prop) (N:Prop) (r:AV) (h':AH):Prop:=
 ∃ G,h' = h ++ G ∧ ((r = .tup [bv,VB false] ∧ N) ∨ ∃ b' g1 g2 ver,G = g1 ++ AO.cells ver (b'.flatMap Stp.row) :: g2 ∧ r = .tup [.sl (h.length + g1.length) ver 0 b'.length 6,VB true] ∧ b'.length < b.length ∧ P b')
set_option maxRecDepth 100000 in
set_option maxHeartbeats 4000000 in
theorem c239 (hO:On cx) {h:AH} {bv:AV} {b:List Stp} (hb:SlT Stp.row 6 h bv b) (hl:b.length < 1099511627776) (hto:∀ s ∈ b,s.to < b.length) {F:FuncId} {caps:List AV} {gone:Nat → Bool}
 (hg:∀ (k:Nat),k < b.length → ∀ x,SimCall cx F ([VI k] ++ caps) (h ++ x) fun r h'=>h' = h ++ x ∧ r = VB (gone k)) (hkeep:0 < cnt gone 0 b.length) :
 SimCall cx 239 [bv,.fn F caps] h (Changed h bv b (fun b'=>b' = withoutL b gone) (∀ k,k < b.length → gone k = false)):=by
 refine SimCall.by hO.P res239 ?_
 unfold x239 r239
 repeat' first
  | simp (maxSteps:=1000000) only [go_sem,hb.len]
 refine SimLoop.inv [0,0,4,0,5,0,0] (fun k s=>∃ (i:Nat) (p:Nat),k = b.length - i ∧ i ≤ b.length ∧ p = cnt gone 0 i ∧
  s = ⟨[bv,.fn F caps,.un,.un,.un,.un,.mp h.length,VI p,.un,.un,.un,.un,.un,bv,VI b.length,VI i,.un,.un,.un,.un,.un,.un,.un,.un,.un,.un,.un,.un,.un,.un,.un,.un,.un,.un,.un,.un,.un,.un,.un,.un,.un,.un,.un,.un,.un,.un,.un,.un,.un,.un,.un,.un,.un,.un,.un,.un,.un],h ++ [.map i (mapG (fun k=>(cnt gone 0 k:Int)) i)]⟩) ?_ b.length ?_
 rotate_left
 ·exact ⟨0,0,rfl,Nat.zero_le _,rfl,by simp only [go_sem];rfl⟩
 rintro k s ⟨i,p,rfl,hi,hp,rfl⟩
 have hpi:p ≤ i:=by rw [hp];exact cnt_le gone 0 i
 by_cases hlt:i < b.length
 ·have hlt':((i:Int) < b.length):=by omega
  have hw:=wrap_succ hlt (by omega)
  have hw2:IntKind.i64.wrap ((p:Int) + 1) = ((p + 1:Nat):Int):=by rw [wrap_id (by omega) (by omega)];omega
  have hmup:xMup (h ++ [.map i (mapG (fun k=>(cnt gone 0 k:Int)) i)]) ⟨false,[1]⟩ (.mp h.length) (VI i) (VI p) = some (h ++ [.map (i + 1) (mapG (fun k=>(cnt gone 0 k:Int)) (i + 1))]):=by
   have:=mup_G (H:=h ++ [.map i (mapG (fun k=>(cnt gone 0 k:Int)) i)]) (m:=.mp h.length) (id:=h.length) (n:=i) (vf:=fun k=>(cnt gone 0 k:Int)) (by simp only [go_sem])
   simp only [← hp] at this
   rw [this]
   simp only [go_sem]
  have hci:cnt gone 0 (i + 1) = p + if gone i then 0 else 1:=by rw [cnt,Nat.zero_add,hp]
  have hgi:=hg i hlt
  repeat' first
   | simp (maxSteps:=1000000) only [go_sem,hlt',hw,hw2,hmup]
  refine (hgi _).mono ?_
  rintro r h' ⟨rfl,rfl⟩
  repeat' first
   | ((with_reducible show wx _ (XCode.cond _ _ _) _ _);refine wx_if rfl (fun _=>?_) (fun _=>?_))
   | simp (maxSteps:=1000000) only [go_sem,hlt',hw,hw2,hmup]
  ·rename_i e
   simp at e
   exact ⟨b.length - (i + 1),by omega,i + 1,p + 1,rfl,by omega,by rw [hci,e];rfl,rfl⟩
  ·rename_i e
   simp at e
   exact ⟨b.length - (i + 1),by omega,i + 1,p,rfl,by omega,by rw [hci,e];rfl,rfl⟩
 ·have hlt':¬ ((i:Int) < b.length):=by omega
  have hib:i = b.length:=by omega
  subst hib
  repeat' first
   | ((with_reducible show wx _ (XCode.cond _ _ _) _ _);refine wx_if rfl (fun _=>?_) (fun _=>?_))
   | simp (maxSteps:=1000000) only [go_sem,hlt',hb.len]
  ·rename_i e
   have e:(p:Int) = b.length:=by simpa using e
   have e:p = b.length:=by omega
   exact ⟨_,rfl,.inl ⟨rfl,cnt_full gone _ (by rw [← hp];exact e)⟩⟩
  ·rename_i e
   simp at e
   have hwl:(withoutL b gone).length = p:=by rw [withoutL_length,hp]
   have hwlt:(withoutL b gone).length < b.length:=by omega
   generalize hmo:AO.map b.length (mapG (fun k=>(cnt gone 0 k:Int)) b.length) = mo
   have hlk:∀ (t:Nat),t < b.length → ∀ x,xLku (h ++ mo :: x) ⟨false,[1]⟩ (.int .i64 0) false (.mp h.length) (VI t) = some (VI (cnt gone 0 t:Nat)):=by
    intro t ht x
    rw [← hmo]
    exact lku_G (id:=h.length) (c:=b.length) (n:=b.length) (vf:=fun k=>(cnt gone 0 k:Int)) (by simp only [go_sem]) ht
   refine SimLoop.inv [1,4,2,23,0,0] (fun k s=>∃ (i:Nat) (sv:AV) (g:AH),k = b.length - i ∧ i ≤ b.length ∧ OutS h.length sv (woL b gone i) g ∧
    s = ⟨[.un,.fn F caps,.un,.un,.un,.un,.mp h.length,.un,.un,sv,.un,.un,.un,.un,.un,.un,.un,.un,.un,.un,.un,.un,.un,.un,.un,.un,.un,.un,.un,.un,.un,.un,.un,bv,VI b.length,VI i,.un,.un,.un,.un,.un,.un,.un,.un,.un,.un,.un,.un,.un,.un,.un,.un,.un,.un,.un,.un,.un],h ++ (mo :: g)⟩) ?_ b.length ?_
   rotate_left
   ·exact ⟨0,_,[],rfl,Nat.zero_le _,.inl ⟨rfl,rfl⟩,by rw [← hmo];simp only [go_sem];rfl⟩
   rintro k s ⟨i,sv,g,rfl,hi2,hout,rfl⟩
   by_cases hlt2:i < b.length
   ·obtain ⟨q,hp1,hp2,hp3,_⟩:=hb.get Stp.len (by decide) (List.getElem?_eq_getElem hlt2)
    have hlt2':((i:Int) < b.length):=by omega
    have hw:=wrap_succ hlt2 (by omega)
    have hwo:=woL_succ (g:=gone) (List.getElem?_eq_getElem hlt2)
    have hts:=hto _ (List.getElem_mem hlt2)
    have hgi:=hg i hlt2
    have hxl:(woL b gone i).length ≤ i:=by
     unfold woL
     rw [List.length_map]
     refine Nat.le_trans (keepL_sub gone (b.take i) 0).length_le ?_
     simp
     omega
    generalize b[i] = s at hp1 hp2 hp3 hwo hts
    obtain ⟨⟨op,dst,src,off,imm⟩,to⟩:=s
    simp only at hts
    generalize woL b gone i = xs at hwo hout hxl
    have hrl:=cells_len (f:=Stp.row) (sz:=6) Stp.len xs
    have htk2:(xs.flatMap Stp.row).take (xs.length * 6) = xs.flatMap Stp.row:=List.take_of_length_le (by omega)
    have hnle:¬ (xs.length + 1) * 6 ≤ (xs.flatMap Stp.row).length:=by omega
    have hnle2:xs.length * 6 ≤ (xs.flatMap Stp.row).length:=by omega
    have hby:(xs.length + 1) * 48 ≤ 140737488355328:=by omega
    repeat' first
     | simp (maxSteps:=1000000) only [go_sem,hp1,hp2,hp3,hlt2',hw,Stp.row]
    refine (hgi _).mono ?_
    rintro r h' ⟨rfl,rfl⟩
    by_cases h0:0 ≤ to
    ·obtain ⟨t,rfl⟩:=Int.eq_ofNat_of_zero_le h0
     have hlkt:=hlk t (by omega)
     have hmv:movS gone ⟨⟨op,dst,src,off,imm⟩,(t:Int)⟩ = ⟨⟨op,dst,src,off,imm⟩,(cnt gone 0 t:Nat)⟩:=by
      unfold movS
      simp
     rcases hout with ⟨hx,rfl⟩ | ⟨g1,g2,ver,rfl,rfl⟩
     ·skip
      repeat' first
       | ((with_reducible show wx _ (XCode.cond _ _ _) _ _);refine wx_if rfl (fun _=>?_) (fun _=>?_))
       | simp (maxSteps:=1000000) only [go_sem,h0,hlkt,hw,hlt2',Stp.row,xRows,Int.toNat_natCast,Nat.mul_one,Nat.zero_add]
      ·rename_i e
       rw [if_pos e,List.append_nil] at hwo
       refine ⟨b.length - (i + 1),by omega,i + 1,_,_,rfl,by omega,?_,rfl⟩
       rw [hwo]
       exact .inl ⟨hx,rfl⟩
      ·rename_i e
       rw [if_neg (by rw [e];decide),hmv] at hwo
       refine ⟨b.length - (i + 1),by omega,i + 1,_,_,rfl,by omega,?_,rfl⟩
       rw [hwo,hx]
       exact .inr ⟨g ++ [.cells 0 (⟨⟨op,dst,src,off,imm⟩,(cnt gone 0 t:Nat)⟩:Stp).row,.cells 0 (⟨⟨op,dst,src,off,imm⟩,(cnt gone 0 t:Nat)⟩:Stp).row],[],0,by simp [Stp.row],by simp⟩
     ·skip
      repeat' first
       | ((with_reducible show wx _ (XCode.cond _ _ _) _ _);refine wx_if rfl (fun _=>?_) (fun _=>?_))
       | simp (maxSteps:=1000000) only [go_sem,h0,hlkt,hw,hlt2',Stp.row,xRows,Int.toNat_natCast,Nat.mul_one,Nat.zero_add,htk2,hnle,hnle2,hby]
      ·rename_i e
       rw [if_pos e,List.append_nil] at hwo
       refine ⟨b.length - (i + 1),by omega,i + 1,_,_,rfl,by omega,?_,rfl⟩
       rw [hwo]
       exact .inr ⟨g1,g2 ++ [.cells 0 (⟨⟨op,dst,src,off,imm⟩,(t:Int)⟩:Stp).row],ver,by simp [Stp.row],rfl⟩
      ·rename_i e
       rw [if_neg (by rw [e];decide),hmv] at hwo
       refine ⟨b.length - (i + 1),by omega,i + 1,_,_,rfl,by omega,?_,rfl⟩
       rw [hwo]
       exact .inr ⟨g1,g2 ++ [.cells 0 (⟨⟨op,dst,src,off,imm⟩,(cnt gone 0 t:Nat)⟩:Stp).row,.cells 0 (⟨⟨op,dst,src,off,imm⟩,(cnt gone 0 t:Nat)⟩:Stp).row],ver + 1,by simp [Stp.row],by simp⟩
    ·have hmv:movS gone ⟨⟨op,dst,src,off,imm⟩,to⟩ = ⟨⟨op,dst,src,off,imm⟩,to⟩:=by
      unfold movS
      simp [h0]
     rcases hout with ⟨hx,rfl⟩ | ⟨g1,g2,ver,rfl,rfl⟩
     ·skip
      repeat' first
       | ((with_reducible show wx _ (XCode.cond _ _ _) _ _);refine wx_if rfl (fun _=>?_) (fun _=>?_))
       | simp (maxSteps:=1000000) only [go_sem,h0,hw,hlt2',Stp.row,xRows,Int.toNat_natCast,Nat.mul_one,Nat.zero_add]
      ·rename_i e
       rw [if_pos e,List.append_nil] at hwo
       refine ⟨b.length - (i + 1),by omega,i + 1,_,_,rfl,by omega,?_,rfl⟩
       rw [hwo]
       exact .inl ⟨hx,rfl⟩
      ·rename_i e
       rw [if_neg (by rw [e];decide),hmv] at hwo
       refine ⟨b.length - (i + 1),by omega,i + 1,_,_,rfl,by omega,?_,rfl⟩
       rw [hwo,hx]
       exact .inr ⟨g ++ [.cells 0 (⟨⟨op,dst,src,off,imm⟩,to⟩:Stp).row,.cells 0 (⟨⟨op,dst,src,off,imm⟩,to⟩:Stp).row],[],0,by simp [Stp.row],by simp⟩
     ·skip
      repeat' first
       | ((with_reducible show wx _ (XCode.cond _ _ _) _ _);refine wx_if rfl (fun _=>?_) (fun _=>?_))
       | simp (maxSteps:=1000000) only [go_sem,h0,hw,hlt2',Stp.row,xRows,Int.toNat_natCast,Nat.mul_one,Nat.zero_add,htk2,hnle,hnle2,hby]
      ·rename_i e
       rw [if_pos e,List.append_nil] at hwo
       refine ⟨b.length - (i + 1),by omega,i + 1,_,_,rfl,by omega,?_,rfl⟩
       rw [hwo]
       exact .inr ⟨g1,g2 ++ [.cells 0 (⟨⟨op,dst,src,off,imm⟩,to⟩:Stp).row],ver,by simp [Stp.row],rfl⟩
      ·rename_i e
       rw [if_neg (by rw [e];decide),hmv] at hwo
       refine ⟨b.length - (i + 1),by omega,i + 1,_,_,rfl,by omega,?_,rfl⟩
       rw [hwo]
       exact .inr ⟨g1,g2 ++ [.cells 0 (⟨⟨op,dst,src,off,imm⟩,to⟩:Stp).row,.cells 0 (⟨⟨op,dst,src,off,imm⟩,to⟩:Stp).row],ver + 1,by simp [Stp.row],by simp⟩
   ·have hlt2':¬ ((i:Int) < b.length):=by omega
    have hib2:woL b gone i = withoutL b gone:=woL_all b gone (by omega)
    rw [hib2] at hout
    repeat' first
     | simp (maxSteps:=1000000) only [go_sem,hlt2']
    rcases hout with ⟨hx,_⟩ | ⟨g1,g2,ver,rfl,rfl⟩
    ·rw [hx] at hwl
     simp at hwl
     omega
    ·exact ⟨_,rfl,.inr ⟨withoutL b gone,mo :: g1,g2,ver,rfl,rfl,hwlt,rfl⟩⟩
end Go.Tidy
namespace Go.Tidy
open Go Go.Eng Go.Proofs
variable {cx:Cx}
structure Keeps (b b':List Stp):Prop where
 fits:Fits b'
 ins:∀ s ∈ b',∃ s0 ∈ b,s.ins = s0.ins
 slots:(wsB b').sum ≤ (wsB b).sum
theorem Keeps.refl {b:List Stp} (h:Fits b):Keeps b b:=⟨h,fun s hs=>⟨s,hs,rfl⟩,Nat.le_refl _⟩
theorem Keeps.trans {a b c:List Stp} (h:Keeps a b) (k:Keeps b c):Keeps a c:=by
 refine ⟨k.fits,fun s hs=>?_,Nat.le_trans k.slots h.slots⟩
 obtain ⟨s1,h1,e1⟩:=k.ins s hs
 obtain ⟨s2,h2,e2⟩:=h.ins s1 h1
 exact ⟨s2,h2,e1.trans e2⟩
theorem keeps_without {b:List Stp} {g:Nat → Bool} (h:Fits (withoutL b g)):Keeps b (withoutL b g):=by
 refine ⟨h,fun s hs=>?_,?_⟩
 ·obtain ⟨k,hk⟩:=List.mem_iff_getElem?.1 hs
  obtain ⟨j,s0,h1,_,_,h4,_⟩:=withoutL_get hk
  exact ⟨s0,List.mem_of_getElem? h1,h4⟩
 ·rw [wsB_without]
  exact sum_sub (keepL_sub g (wsB b) 0)
theorem Fits.toAll {b:List Stp} (hf:Fits b):∀ s ∈ b,s.to < b.length:=by
 intro s hs
 obtain ⟨k,hk⟩:=List.mem_iff_getElem?.1 hs
 by_cases hl:leads s.ins = true
 ·exact (hf.to k s hk hl).2.1
 ·have:=hf.no k s hk (by simpa using hl)
  have:=hf.ne
  omega
theorem Changed.more {h:AH} {bv:AV} {b:List Stp} {P Q:List Stp → Prop} {N M:Prop} {r:AV} {h':AH} (a:AH) (hc:Changed (h ++ a) bv b P N r h') (hpq:∀ b',b'.length < b.length → P b' → Q b') (hnm:N → M):Changed h bv b Q M r h':=by
 obtain ⟨G,rfl,h1⟩:=hc
 refine ⟨a ++ G,by rw [List.append_assoc],?_⟩
 rcases h1 with ⟨rfl,hn⟩ | ⟨b',g1,g2,ver,rfl,rfl,h2,h3⟩
 ·exact .inl ⟨rfl,hnm hn⟩
 ·refine .inr ⟨b',a ++ g1,g2,ver,by rw [List.append_assoc],?_,h2,hpq b' h2 h3⟩
  rw [List.length_append,List.length_append,Nat.add_assoc]
open Classical in
theorem Rl_eq {b:List Stp} {R:List Bool} (hl:R.length = b.length) (hR:Reach b fun k=>R.getD k false) (hm:∀ r',Reach b r' → ∀ k,R.getD k false = true → r' k = true):R = Rl b:=by
 refine List.ext_getElem? fun k=>?_
 unfold Rl
 by_cases hk:k < b.length
 ·have hk2:=List.getElem?_eq_getElem (show k < R.length by omega)
  rw [List.getElem?_map,List.getElem?_range hk,Option.map_some,hk2,Option.some.injEq]
  have e:R.getD k false = R[k]:=by rw [List.getD_eq_getElem?_getD,hk2];rfl
  cases hv:R[k] with
  | true=>exact (decide_eq_true fun r' hr=>hm r' hr k (by rw [e,hv])).symm
  | false=>
    refine (decide_eq_false fun q=>?_).symm
    have:=q _ hR
    rw [e,hv] at this
    cases this
 ·rw [List.getElem?_eq_none (by omega),List.getElem?_eq_none (by simpa using hk)]
theorem without_none {b:List Stp} {g:Nat → Bool} (h:∀ k,k < b.length → g k = false):(withoutL b g).length = b.length:=by
 rw [withoutL_length]
 have:∀ n,n ≤ b.length → cnt g 0 n = n:=by
  intro n hn
  induction n with
  | zero=>rfl
  | succ n ih=>unfold cnt;rw [ih (by omega),Nat.zero_add,h n (by omega)];rfl
 exact this _ (Nat.le_refl _)
theorem c180 (hO:On cx) {h:AH} {bv:AV} {b:List Stp} (hb:SlT Stp.row 6 h bv b) (hf:Fits b) (hl:b.length < 1099511627776) :
 SimCall cx 180 [bv] h (Changed h bv b (fun b'=>Keeps b b' ∧ b' = unrF b ∧ ¬ AllR b) (AllR b)):=by
 refine SimCall.by hO.P res180 ?_
 unfold x180 r180
 repeat' first
  | simp (maxSteps:=1000000) only [go_sem]
 refine (c238 hO hb hf hl).mono ?_
 rintro r h' ⟨R,hRl,hR,hleast,rfl,rfl⟩
 have hclo:∀ (k:Nat),k < b.length → ∀ x,SimCall cx 240 ([VI k] ++ [.ptr (h.length + 1) 0 0]) (h ++ [.cells 0 (R.map VB),.cells 0 [.sl h.length 0 0 b.length 1]] ++ x) fun r h'=>h' = h ++ [.cells 0 (R.map VB),.cells 0 [.sl h.length 0 0 b.length 1]] ++ x ∧ r = VB (!R.getD k false):=by
  intro k hk x
  have hk':(k:Int) < b.length:=by omega
  have h0k:(0:Int) ≤ k:=by omega
  have hRk:=List.getElem?_eq_getElem (show k < R.length by omega)
  have hRm:(R.map VB)[k]? = some (VB (R.getD k false)):=by rw [List.getElem?_map,List.getD_eq_getElem?_getD,hRk];rfl
  refine SimCall.by hO.P res240 ?_
  unfold x240 r240
  repeat' first
   | simp (maxSteps:=1000000) only [go_sem,hk',h0k,hRm,Int.toNat_natCast,Nat.mul_one,Nat.zero_add]
 have hgone:0 < cnt (fun k=>!R.getD k false) 0 b.length:=by
  have:=cnt_lt (fun k=>!R.getD k false) hf.ne (by have h0:R.getD 0 false = true:=hR.zero;show (!R.getD 0 false) = false;rw [h0];rfl)
  simpa [cnt] using this
 have h239:=c239 hO (hb.more [.cells 0 (R.map VB),.cells 0 [.sl h.length 0 0 b.length 1]]) hl hf.toAll hclo hgone
 repeat' first
  | simp (maxSteps:=1000000) only [go_sem]
 refine h239.mono ?_
 intro r h' hc
 have hc2:Changed h bv b (fun b'=>Keeps b b' ∧ b' = unrF b ∧ ¬ AllR b) (AllR b) r h':=Changed.more [.cells 0 (R.map VB),.cells 0 [.sl h.length 0 0 b.length 1]] hc (fun b' hlt e=>by
  refine ⟨by rw [e];exact keeps_without (hf.unreached hR),by rw [e,Rl_eq hRl hR hleast];rfl,fun q=>?_⟩
  rw [e,without_none (fun k hk=>by have:=q _ hR k hk;rw [this];rfl)] at hlt
  omega) (fun q r' hr k hk=>hleast r' hr k (by have:=q k hk;simpa using this))
 clear hc h239 hclo
 obtain ⟨t,ht⟩:∃ x y,r = .tup [x,y]:=by
  obtain ⟨G,_,hc⟩:=hc2
  rcases hc with h1 | ⟨b',g1,g2,ver,_,h1,_⟩
  ·exact ⟨_,_,h1.1⟩
  ·exact ⟨_,_,h1⟩
 obtain ⟨u,rfl⟩:=ht
 repeat' first
  | simp (maxSteps:=1000000) only [go_sem]
 exact hc2
set_option maxHeartbeats 1000000 in
theorem c181 (hO:On cx) {h:AH} {bv:AV} {b:List Stp} (hb:SlT Stp.row 6 h bv b) (hf:Fits b) (hl:b.length < 1099511627776) :
 SimCall cx 181 [bv] h (Changed h bv b (fun b'=>Keeps b b' ∧ b' = idleF b ∧ ¬ ∀ k,k < b.length → idleB b k = false) (∀ k,k < b.length → idleB b k = false)):=by
 have c1:=hb.cells
 refine SimCall.by hO.P res181 ?_
 unfold x181 r181
 have hclo:∀ (k:Nat),k < b.length → ∀ x,SimCall cx 241 ([VI k] ++ [.ptr h.length 0 0]) (h ++ [.cells 0 [bv]] ++ x) fun r h'=>h' = h ++ [.cells 0 [bv]] ++ x ∧ r = VB (idleB b k):=by
  intro k hk x
  have hbk:=List.getElem?_eq_getElem hk
  obtain ⟨p,q0,q5,hp1,hp2,hp3,hp4,hp5,_,_⟩:=Stp.get hb hbk
  have hid:idleB b k = ((decide (b[k].ins.op = 191) && decide (b[k].ins.off = 0) && decide (b[k].ins.dst = b[k].ins.src)) || (isJ b[k].ins && decide (b[k].to = k + 1))):=by
   unfold idleB
   rw [hbk]
  generalize b[k] = s at hp4 hp5 hid
  obtain ⟨⟨op,dst,src,off,imm⟩,to⟩:=s
  have hwk:IntKind.i64.wrap ((k:Int) + 1) = (k:Int) + 1:=wrap_id (by omega) (by omega)
  refine SimCall.gc ?_
  refine SimCall.by hO.P res241 ?_
  unfold x241 r241
  repeat' first
   | ((with_reducible show SemL _ _ _ _);refine SemL.of ?_)
   | simp (maxSteps:=1000000) only [go_sem,hp1,hp2,hp3,hp4,hp5,hwk]
   | ((with_reducible show wl _ (XI.mk _ (some _) (XBody.op _) :: _) _ _);first | refine wl_optT rfl (fun e2=>by ((try simp only [Bool.and_eq_true] at e2);first | (simp (maxSteps:=1000000) only [e2,go_sem,hp1,hp2,hp3,hp4,hp5,hwk];first | done | rfl))) ?_ | refine wl_optF rfl (fun e2=>by ((try simp only [Bool.and_eq_true] at e2);first | (simp (maxSteps:=1000000) only [e2,go_sem,hp1,hp2,hp3,hp4,hp5,hwk];first | done | rfl))) ?_ | refine wl_opt2T rfl (fun e1 e2=>by ((try simp only [Bool.and_eq_true] at e1);first | (simp (maxSteps:=1000000) only [e1,e2,go_sem,hp1,hp2,hp3,hp4,hp5,hwk];first | done | rfl))) ?_)
   | ((with_reducible show wl _ (XI.mk _ (some _) (XBody.call (XO.f 242) _) :: _) _ _);refine wl_optcF rfl rfl (fun e2=>by simp (maxSteps:=1000000) only [e2,go_sem,hp1,hp2,hp3,hp4,hp5,hwk];exact (c242' hO ⟨op,dst,src,off,imm⟩ _)) ?_)
  refine ⟨⟨_,rfl⟩,plain_v _,?_⟩
  rw [hid]
 have hgone:0 < cnt (idleB b) 0 b.length:=by
  have:=hf.idle.ne
  rwa [withoutL_length] at this
 have h239:=c239 hO (hb.more [.cells 0 [bv]]) hl hf.toAll hclo hgone
 repeat' first
  | simp (maxSteps:=1000000) only [go_sem,c1]
 refine h239.mono ?_
 intro r h' hc
 have hc2:Changed h bv b (fun b'=>Keeps b b' ∧ b' = idleF b ∧ ¬ ∀ k,k < b.length → idleB b k = false) (∀ k,k < b.length → idleB b k = false) r h':=Changed.more [.cells 0 [bv]] hc (fun b' hlt e=>by
  refine ⟨by rw [e];exact keeps_without (hf.idle),e,fun q=>?_⟩
  rw [e,without_none q] at hlt
  omega) id
 clear hc h239 hclo
 obtain ⟨t,ht⟩:∃ x y,r = .tup [x,y]:=by
  obtain ⟨G,_,hc⟩:=hc2
  rcases hc with h1 | ⟨b',g1,g2,ver,_,h1,_⟩
  ·exact ⟨_,_,h1.1⟩
  ·exact ⟨_,_,h1⟩
 obtain ⟨u,rfl⟩:=ht
 repeat' first
  | simp (maxSteps:=1000000) only [go_sem]
 exact hc2
theorem c126 (hO:On cx) (h:AH):SimCall cx 126 [] h fun r h'=>h' = h ++ [.cells 0 [.fn 180 [],.fn 181 [],.fn 182 []]] ∧ r = .sl h.length 0 0 3 1:=by
 refine SimCall.by hO.P res126 ?_
 unfold x126 r126
 repeat' first
  | simp (maxSteps:=1000000) only [go_sem]
end Go.Tidy
namespace Go.Tidy
open Go Go.Eng Go.Proofs
variable {cx:Cx}
def keyZ (k:Int):Value:=.int .i64 k
theorem keyZ_eq (a b:Int):xEq ⟨false,[1]⟩ (ofV (keyZ a)) (ofV (keyZ b)) = some (decide (a = b)):=by simp [xEq,ofV,keyZ,xEqs,sameOne]
theorem nodup_inj:∀ {l:List Int},l.Nodup → ∀ {i j:Nat} {x:Int},l[i]? = some x → l[j]? = some x → i = j
 | [],_,i,j,x,h,_=>by simp at h
 | y :: r,hn,i,j,x,hi,hj=>by
   rw [List.nodup_cons] at hn
   cases i with
   | zero=>
     cases j with
     | zero=>rfl
     | succ j=>
       simp at hi hj
       subst hi
       exact absurd (List.mem_of_getElem? hj) hn.1
   | succ i=>
     cases j with
     | zero=>
       simp at hi hj
       subst hj
       exact absurd (List.mem_of_getElem? hi) hn.1
     | succ j=>
       have:=nodup_inj hn.2 (i:=i) (j:=j) (x:=x) (by simpa using hi) (by simpa using hj)
       rw [this]
section
variable {H:AH} {m:AV} {id c:Nat} {ks:List Int} {k:Int}
theorem lku_in (hm:H.mapAt m = some (id,c,esOf keyZ (VI 1) 0 ks)) (hk:k ∈ ks):xLku H ⟨false,[1]⟩ (.int .i64 0) false m (VI k) = some (VI 1):=by
 unfold xLku xLk
 simp only [AV.toV,Option.bind_some,keyI_ok,if_true,hm,Option.map_some]
 have hf:=esOf_find (x:=VI 1) (k:=k) keyZ_eq 0 ks
 rw [show (Value.int .i64 k) = keyZ k from rfl,hf]
 cases hi:ks.findIdx? fun y=>decide (k = y) with
 | none=>
   rw [List.findIdx?_eq_none_iff] at hi
   simpa using hi k hk
 | some i=>
   have hlt:=(List.findIdx?_eq_some_iff_getElem.1 hi).1
   simp [esOf_get,List.getElem?_eq_getElem hlt]
theorem lku_out (hm:H.mapAt m = some (id,c,esOf keyZ (VI 1) 0 ks)) (hk:k ∉ ks):xLku H ⟨false,[1]⟩ (.int .i64 0) false m (VI k) = some (VI 0):=by
 unfold xLku xLk
 simp only [AV.toV,Option.bind_some,keyI_ok,if_true,hm,Option.map_some]
 have hf:=esOf_find (x:=VI 1) (k:=k) keyZ_eq 0 ks
 rw [show (Value.int .i64 k) = keyZ k from rfl,hf]
 have:ks.findIdx? (fun y=>decide (k = y)) = none:=by
  rw [List.findIdx?_eq_none_iff]
  intro y hy
  simp only [decide_eq_false_iff_not]
  rintro rfl
  exact hk hy
 rw [this]
 rfl
theorem mup_out (hm:H.mapAt m = some (id,ks.length,esOf keyZ (VI 1) 0 ks)) (hk:k ∉ ks):xMup H ⟨false,[1]⟩ m (VI k) (VI 1) = some (H.set id (.map (ks.length + 1) (esOf keyZ (VI 1) 0 (ks ++ [k])))):=by
 unfold xMup
 simp only [AV.toV,Option.bind_some,keyI_ok,if_true,hm]
 have hf:=esOf_find (x:=VI 1) (k:=k) keyZ_eq 0 ks
 rw [show (Value.int .i64 k) = keyZ k from rfl,hf]
 have:ks.findIdx? (fun y=>decide (k = y)) = none:=by
  rw [List.findIdx?_eq_none_iff]
  intro y hy
  simp only [decide_eq_false_iff_not]
  rintro rfl
  exact hk hy
 rw [this,esOf_app,Nat.zero_add]
 rfl
theorem mup_in (hm:H.mapAt m = some (id,c,esOf keyZ (VI 1) 0 ks)) (hk:k ∈ ks) (hn:ks.Nodup):∃ es,xMup H ⟨false,[1]⟩ m (VI k) (VI 2) = some (H.set id (.map c es)) ∧
 ∀ H2:AH,H2.mapAt m = some (id,c,es) → xLku H2 ⟨false,[1]⟩ (.int .i64 0) false m (VI k) = some (VI 2):=by
 have hf:=esOf_find (x:=VI 1) (k:=k) keyZ_eq 0 ks
 cases hi:ks.findIdx? fun y=>decide (k = y) with
 | none=>
   rw [List.findIdx?_eq_none_iff] at hi
   simpa using hi k hk
 | some i=>
   obtain ⟨hlt,hki,_⟩:=List.findIdx?_eq_some_iff_getElem.1 hi
   simp only [decide_eq_true_eq] at hki
   refine ⟨(esOf keyZ (VI 1) 0 ks).modify i fun e=>(e.1,.int .i64 k,VI 2),?_,?_⟩
   ·unfold xMup
    simp only [AV.toV,Option.bind_some,keyI_ok,if_true,hm]
    rw [show (Value.int .i64 k) = keyZ k from rfl,hf,hi]
    rfl
   ·intro H2 hm2
    have hge:∀ j,((esOf keyZ (VI 1) 0 ks).modify i fun e=>(e.1,.int .i64 k,VI 2))[j]? = (ks[j]?).map fun y=>(j,.int .i64 y,if j = i then VI 2 else VI 1):=by
     intro j
     rw [List.getElem?_modify,esOf_get]
     cases hj:ks[j]? with
     | none=>simp
     | some y=>
       by_cases hji:i = j
       ·subst hji
        obtain ⟨hjl,hjv⟩:=List.getElem?_eq_some_iff.1 hj
        have:y = k:=by rw [← hjv,← hki]
        simp [keyZ,this]
       ·have:¬ j = i:=fun q=>hji q.symm
        simp [keyZ,hji,this]
    obtain ⟨o,h1,h2,h3⟩:=find_int2 k ((esOf keyZ (VI 1) 0 ks).modify i fun e=>(e.1,.int .i64 k,VI 2)) (by
     intro e he
     obtain ⟨j,hj⟩:=List.mem_iff_getElem?.1 he
     rw [hge j,Option.map_eq_some_iff] at hj
     obtain ⟨y,_,rfl⟩:=hj
     exact ⟨y,rfl⟩)
    unfold xLku xLk
    simp only [AV.toV,Option.bind_some,keyI_ok,if_true,hm2,h1,Option.map_some]
    cases o with
    | none=>
      exfalso
      have:=hge i
      rw [List.getElem?_eq_getElem hlt] at this
      exact h2 rfl _ (List.mem_of_getElem? this) (by simp [hki])
    | some j=>
      obtain ⟨e,q1,q2⟩:=h3 j rfl
      have hgj:=hge j
      rw [q1] at hgj
      cases hj:ks[j]? with
      | none=>rw [hj] at hgj;cases hgj
      | some y=>
        rw [hj] at hgj
        simp only [Option.map_some,Option.some.injEq] at hgj
        subst hgj
        simp only [Value.int.injEq,true_and] at q2
        have hji:j = i:=by
         refine nodup_inj hn (x:=k) (by rw [hj,q2]) ?_
         rw [List.getElem?_eq_getElem hlt,← hki]
        rw [hji] at q1 ⊢
        simp only [q1]
        simp
end
theorem Chn.jump {b:List Stp} {t n l:Nat} {s:Stp} (hs:b[t]? = some s) (hj:isJ s.ins = true) (h:Chn b l t n):∃ l',l = l' + 1 ∧ Chn b l' s.to.toNat n:=by
 cases l with
 | zero=>obtain ⟨_,s',h1,h2⟩:=h;rw [hs] at h1;cases h1;rw [hj] at h2;cases h2
 | succ l=>obtain ⟨s',h1,_,h3⟩:=h;rw [hs] at h1;cases h1;exact ⟨l,rfl,h3⟩
set_option maxRecDepth 100000 in
set_option maxHeartbeats 2000000 in
theorem c243 (hO:On cx) {h:AH} {bv:AV} {b:List Stp} (hb:SlT Stp.row 6 h bv b) (hf:Fits b) (hl:b.length < 1099511627776) {k:Nat} {s0:Stp} (hk:b[k]? = some s0) (hj:isJ s0.ins = true) :
 SimCall cx 243 [bv,VI k] h fun r h'=>h' = h ∧ ∃ t:Int,r = VI t ∧ t = lastC b s0.to.toNat ∧ ((t < 0 ∧ ∀ l n,¬ Chn b l s0.to.toNat n) ∨ ∃ (n:Nat) (s:Stp),t = n ∧ b[n]? = some s ∧ isJ s.ins = false ∧ (∀ s2,b[s0.to.toNat]? = some s2 → isJ s2.ins = false → (n:Int) = s0.to) ∧ ∀ l n',Chn b l s0.to.toNat n' → n' = n):=by
 have hkl:=(List.getElem?_eq_some_iff.1 hk).1
 have hstep:∀ (j:Nat) (s:Stp),b[j]? = some s → isJ s.ins = true → ∃ t:Nat,s.to = t ∧ t < b.length:=by
  intro j s hs hjs
  have hld:=jump_leads (hf.may j s hs) (by simpa [isJ] using hjs)
  obtain ⟨h1,h2,_⟩:=hf.to j s hs hld
  exact ⟨s.to.toNat,by omega,by omega⟩
 obtain ⟨t0,ht0,ht0l⟩:=hstep k s0 hk hj
 obtain ⟨p,q0,q5,hp1,hp2,hp3,hp4,hp5,_,_⟩:=Stp.get hb hk
 refine SimCall.gc ?_
 refine SimCall.by hO.P res243 ?_
 unfold x243 r243
 have hm0:xMup (h ++ [.map 0 []]) ⟨false,[1]⟩ (.mp h.length) (VI k) (VI 1) = some (h ++ [.map 1 (esOf keyZ (VI 1) 0 [(k:Int)])]):=by
  have:=mup_out (H:=h ++ [.map 0 []]) (m:=.mp h.length) (id:=h.length) (ks:=[]) (k:=(k:Int)) (by simp only [go_sem];rfl) (by simp)
  simpa [go_sem] using this
 repeat' first
  | simp (maxSteps:=1000000) only [go_sem,hm0,hp1,hp3,hp5,ht0]
 refine SimLoop.inv [0,4,0] (fun m s=>∃ (R:List Bool) (ks:List Int) (t:Nat),m = unmark R ∧ R.length = b.length ∧ t < b.length ∧ ks.Nodup ∧ (∀ (j:Nat),(j:Int) ∈ ks ↔ R[j]? = some true) ∧ (∀ s2,b[t0]? = some s2 → isJ s2.ins = false → t = t0) ∧
  (∀ p:Nat,(p:Int) ∈ ks → ∀ l n,Chn b l p n → ∃ l',l' < l ∧ Chn b l' t n) ∧ (∀ l n,Chn b l t0 n → ∃ l',Chn b l' t n) ∧ (∀ l n,Chn b l t n → ∃ l',Chn b l' t0 n) ∧
  s = ⟨[bv,.un,.un,.un,.un,.mp h.length,VI t,.un,.un,.un,.un,.un,.un,.un,.un,.un,.un,.un,.un,.un,.un,.un,.un,.un,.un,.un,.un,.un,.un,.un,.un,.un,.un,.un,.un,.un],h ++ [.map ks.length (esOf keyZ (VI 1) 0 ks)]⟩) ?_ (unmark ((List.replicate b.length false).set k true)) ?_
 rotate_left
 ·refine ⟨(List.replicate b.length false).set k true,[(k:Int)],t0,rfl,by simp,ht0l,by simp,?_,fun _ _ _=>rfl,?_,fun l n q=>⟨l,q⟩,fun l n q=>⟨l,q⟩,by simp only [go_sem]⟩
  intro j
  by_cases hjk:j = k
  ·subst hjk
   rw [List.getElem?_set_self (by simpa using hkl)]
   simp
  ·rw [List.getElem?_set_ne (fun q=>hjk q.symm)]
   simp only [List.mem_singleton]
   constructor
   ·intro q;omega
   ·intro q
    have:=List.eq_of_mem_replicate (List.mem_of_getElem? q)
    cases this
  ·intro p hp l n hc
   simp only [List.mem_singleton] at hp
   have hpk:p = k:=by omega
   subst hpk
   obtain ⟨l',rfl,h3⟩:=hc.jump hk hj
   rw [ht0] at h3
   exact ⟨l',by omega,by simpa using h3⟩
 rintro m s ⟨R,ks,t,rfl,hRl,htl,hnd,hks,hfirst,hV,hW,hU,rfl⟩
 have hbt:=List.getElem?_eq_getElem htl
 obtain ⟨p2,a0,a5,ha1,ha2,ha3,ha4,ha5,_,_⟩:=Stp.get hb hbt
 have hst:=hstep t _ hbt
 generalize b[t] = s at hbt ha4 ha5 hst
 obtain ⟨⟨op,dst,src,off,imm⟩,to⟩:=s
 simp only at ha5 hst
 by_cases hjs:isJ ⟨op,dst,src,off,imm⟩ = true
 ·obtain ⟨t2,ht2,ht2l⟩:=hst hjs
  by_cases hin:(t:Int) ∈ ks
  ·have hlk:=lku_in (H:=h ++ [.map ks.length (esOf keyZ (VI 1) 0 ks)]) (m:=.mp h.length) (id:=h.length) (c:=ks.length) (by simp only [go_sem]) hin
   obtain ⟨es,hmu,hlk2⟩:=mup_in (H:=h ++ [.map ks.length (esOf keyZ (VI 1) 0 ks)]) (m:=.mp h.length) (id:=h.length) (c:=ks.length) (by simp only [go_sem]) hin hnd
   have hmu2:xMup (h ++ [.map ks.length (esOf keyZ (VI 1) 0 ks)]) ⟨false,[1]⟩ (.mp h.length) (VI t) (VI 2) = some (h ++ [.map ks.length es]):=by rw [hmu];simp only [go_sem]
   have hlk3:=hlk2 (h ++ [.map ks.length es]) (by simp only [go_sem])
   repeat' first
    | ((with_reducible show SimCall _ 242 _ _ _);refine (c242' hO ⟨op,dst,src,off,imm⟩ _).mono ?_;rintro r h' ⟨rfl,rfl⟩)
    | simp (maxSteps:=1000000) only [go_sem,ha1,ha2,ha3,ha4,ha5,ht2,hlk,hmu2,hlk3,hjs,wrap_id]
   have hno:∀ l n,¬ Chn b l t0 n:=fun l n hc=>by
    obtain ⟨l1,hc1⟩:=hW l n hc
    obtain ⟨l2,hl2,hc2⟩:=hV t hin l1 n hc1
    have:=(hc1.det hc2).1
    omega
   exact ⟨more_one,plain_v _,-1,rfl,by simp only [Int.toNat_natCast];rw [lastC_none hno],.inl ⟨by decide,fun l n hc=>hno l n (by simpa using hc)⟩⟩
  ·have hlk:=lku_out (H:=h ++ [.map ks.length (esOf keyZ (VI 1) 0 ks)]) (m:=.mp h.length) (id:=h.length) (c:=ks.length) (by simp only [go_sem]) hin
   have hmu:=mup_out (H:=h ++ [.map ks.length (esOf keyZ (VI 1) 0 ks)]) (m:=.mp h.length) (id:=h.length) (by simp only [go_sem]) hin
   have hmu2:xMup (h ++ [.map ks.length (esOf keyZ (VI 1) 0 ks)]) ⟨false,[1]⟩ (.mp h.length) (VI t) (VI 1) = some (h ++ [.map (ks.length + 1) (esOf keyZ (VI 1) 0 (ks ++ [(t:Int)]))]):=by rw [hmu];simp only [go_sem]
   have hlk3:=lku_in (H:=h ++ [.map (ks.length + 1) (esOf keyZ (VI 1) 0 (ks ++ [(t:Int)]))]) (m:=.mp h.length) (id:=h.length) (c:=ks.length + 1) (ks:=ks ++ [(t:Int)]) (k:=(t:Int)) (by simp only [go_sem]) (by simp)
   have hRt:R[t]? = some false:=by
    have hlt:=List.getElem?_eq_getElem (show t < R.length by omega)
    cases hv:R[t] with
    | false=>rw [hlt,hv]
    | true=>exact absurd ((hks t).2 (by rw [hlt,hv])) hin
   have hun:=unmark_set hRt
   repeat' first
    | ((with_reducible show SimCall _ 242 _ _ _);refine (c242' hO ⟨op,dst,src,off,imm⟩ _).mono ?_;rintro r h' ⟨rfl,rfl⟩)
    | simp (maxSteps:=1000000) only [go_sem,ha1,ha2,ha3,ha4,ha5,ht2,hlk,hmu2,hlk3,hjs,wrap_id]
   refine ⟨unmark (R.set t true),by omega,R.set t true,ks ++ [(t:Int)],t2,rfl,by rw [List.length_set];exact hRl,ht2l,?_,?_,?_,?_,?_,?_,by rw [List.length_append];rfl⟩
   ·rw [List.nodup_append]
    refine ⟨hnd,by simp,fun x hx y hy=>?_⟩
    simp at hy
    subst hy
    rintro rfl
    exact hin hx
   ·intro j
    by_cases hjt:j = t
    ·subst hjt
     rw [List.getElem?_set_self (by omega)]
     simp
    ·rw [List.getElem?_set_ne (fun q=>hjt q.symm)]
     simp only [List.mem_append,List.mem_singleton]
     rw [← hks j]
     constructor
     ·rintro (q | q)
      ·exact q
      ·omega
     ·exact .inl
   ·intro s2 hs2 hjs2
    have:=hfirst s2 hs2 hjs2
    subst this
    rw [hbt] at hs2
    simp only [Option.some.injEq] at hs2
    subst hs2
    rw [hjs] at hjs2
    cases hjs2
   ·intro p hp l n hc
    rcases List.mem_append.1 hp with hp | hp
    ·obtain ⟨l',hl',hc'⟩:=hV p hp l n hc
     obtain ⟨l2,rfl,hc2⟩:=hc'.jump hbt hjs
     simp only [ht2,Int.toNat_natCast] at hc2
     exact ⟨l2,by omega,hc2⟩
    ·simp only [List.mem_singleton] at hp
     have hpt:p = t:=by omega
     subst hpt
     obtain ⟨l2,rfl,hc2⟩:=hc.jump hbt hjs
     simp only [ht2,Int.toNat_natCast] at hc2
     exact ⟨l2,by omega,hc2⟩
   ·intro l n hc
    obtain ⟨l',hc'⟩:=hW l n hc
    obtain ⟨l2,rfl,hc2⟩:=hc'.jump hbt hjs
    simp only [ht2,Int.toNat_natCast] at hc2
    exact ⟨l2,hc2⟩
   ·intro l n hc
    exact hU (l + 1) n ⟨_,hbt,hjs,by simp only [ht2,Int.toNat_natCast];exact hc⟩
 ·have hjs2:isJ ⟨op,dst,src,off,imm⟩ = false:=by simpa using hjs
  repeat' first
   | ((with_reducible show SimCall _ 242 _ _ _);refine (c242' hO ⟨op,dst,src,off,imm⟩ _).mono ?_;rintro r h' ⟨rfl,rfl⟩)
   | simp (maxSteps:=1000000) only [go_sem,ha1,ha2,ha3,ha4,ha5,hjs2]
  refine ⟨more_one,plain_v _,t,rfl,?_,.inr ⟨t,_,rfl,hbt,hjs2,fun s2 hs2 hj2=>?_,fun l n' hc=>?_⟩⟩
  ·obtain ⟨l',hc'⟩:=hU 0 t ⟨rfl,_,hbt,hjs2⟩
   rw [show (t0:Int).toNat = t0 from rfl,lastC_some hc']
  ·have:=hfirst s2 (by simpa using hs2) hj2
   omega
  ·obtain ⟨l',hc'⟩:=hW l n' (by simpa using hc)
   have h0:Chn b 0 t t:=⟨rfl,_,hbt,hjs2⟩
   exact (hc'.det h0).2
end Go.Tidy
namespace Go.Tidy
open Go Go.Eng Go.Proofs
variable {cx:Cx}
def jjL (is:List Ins):List Stp → Nat
 | []=>0
 | s :: r=>(if isJ s.ins && isJ (is.getD s.to.toNat ⟨0,0,0,0,0⟩) then 1 else 0) + jjL is r
def jj (b:List Stp):Nat:=jjL (b.map (·.ins)) b
theorem jjL_set {is:List Ins}:∀ {l:List Stp} {k:Nat} {s s':Stp},l[k]? = some s → (isJ s.ins && isJ (is.getD s.to.toNat ⟨0,0,0,0,0⟩)) = true → (isJ s'.ins && isJ (is.getD s'.to.toNat ⟨0,0,0,0,0⟩)) = false → jjL is (l.set k s') + 1 = jjL is l
 | [],k,s,s',h,_,_=>by simp at h
 | x :: r,0,s,s',h,h1,h2=>by
   simp at h
   subst h
   simp only [List.set_cons_zero,jjL,h1,h2]
   simp
   omega
 | x :: r,k + 1,s,s',h,h1,h2=>by
   have:=jjL_set (l:=r) (k:=k) (by simpa using h) h1 h2
   simp only [List.set_cons_succ,jjL]
   omega
theorem ins_set {b:List Stp} {k:Nat} {s:Stp} (hs:b[k]? = some s) (t:Int):(b.set k ⟨s.ins,t⟩).map (·.ins) = b.map (·.ins):=by
 refine List.ext_getElem? fun m=>?_
 rw [List.getElem?_map,List.getElem?_map]
 have hk:=(List.getElem?_eq_some_iff.1 hs).1
 by_cases hm:m = k
 ·subst hm
  rw [List.getElem?_set_self hk,hs];rfl
 ·rw [List.getElem?_set_ne (fun q=>hm q.symm)]
theorem wsB_of_ins {b b':List Stp} (h:b'.map (·.ins) = b.map (·.ins)):wsB b' = wsB b:=by
 have e:∀ c:List Stp,wsB c = (c.map (·.ins)).map wd:=by intro c;unfold wsB;rw [List.map_map];rfl
 rw [e,e,h]
theorem keeps_thread {b:List Stp} {k t:Nat} {s:Stp} (hs:b[k]? = some s) (hf:Fits (b.set k ⟨s.ins,(t:Int)⟩)):Keeps b (b.set k ⟨s.ins,(t:Int)⟩):=by
 have hi:=ins_set hs t
 refine ⟨hf,fun x hx=>?_,by rw [wsB_of_ins hi];exact Nat.le_refl _⟩
 have hx2:x.ins ∈ b.map (·.ins):=by rw [← hi];exact List.mem_map_of_mem hx
 obtain ⟨s0,h1,h2⟩:=List.mem_map.1 hx2
 exact ⟨s0,h1,h2.symm⟩
theorem thread_step {b:List Stp} (hf:Fits b) {k n:Nat} {s sn:Stp} (hs:b[k]? = some s) (hj:isJ s.ins = true) (hn:b[n]? = some sn) (hnj:isJ sn.ins = false) (hne:¬ (n:Int) = s.to)
 (hlast:∀ s2,b[s.to.toNat]? = some s2 → isJ s2.ins = true) (hd:¬ s.ins.op = 6 → -32768 ≤ dist (wsB b) k n ∧ dist (wsB b) k n < 32768) :
 Keeps b (b.set k ⟨s.ins,(n:Int)⟩) ∧ jj (b.set k ⟨s.ins,(n:Int)⟩) < jj b:=by
 have hnl:=(List.getElem?_eq_some_iff.1 hn).1
 have hld:=jump_leads (hf.may k s hs) (by simpa [isJ] using hj)
 obtain ⟨h1,h2,_⟩:=hf.to k s hs hld
 refine ⟨keeps_thread hs (hf.thread hs hj hnl hd),?_⟩
 have hi:=ins_set hs (n:Int)
 unfold jj
 rw [hi]
 have hto:=List.getElem?_eq_getElem (show s.to.toNat < b.length by omega)
 have hjt:=hlast _ hto
 have e1:(b.map (·.ins)).getD s.to.toNat ⟨0,0,0,0,0⟩ = (b[s.to.toNat]'(by omega)).ins:=by
  rw [List.getD_eq_getElem?_getD,List.getElem?_map,hto];rfl
 have e2:(b.map (·.ins)).getD n ⟨0,0,0,0,0⟩ = sn.ins:=by
  rw [List.getD_eq_getElem?_getD,List.getElem?_map,hn];rfl
 have:=jjL_set (is:=b.map (·.ins)) (s':=⟨s.ins,(n:Int)⟩) hs (by rw [hj,e1,hjt];rfl) (by
  simp only [Int.toNat_natCast]
  rw [e2,hnj]
  simp)
 omega
theorem rows_toF {b:List Stp} {k:Nat} {s:Stp} (hs:b[k]? = some s):∀ t:Int,(b.flatMap Stp.row).take (k * 6 + 5) ++ VI t :: (b.flatMap Stp.row).drop (k * 6 + 5 + 1) = (b.set k ⟨s.ins,t⟩).flatMap Stp.row:=rows_to hs
set_option maxRecDepth 100000 in
set_option maxHeartbeats 4000000 in
theorem c182 (hO:On cx) {h:AH} {b0:List Stp} {g1 g2:AH} {ver:Nat} (hf0:Fits b0) (hl:b0.length < 1099511627776) :
 SimCall cx 182 [.sl (h.length + g1.length) ver 0 b0.length 6] (h ++ (g1 ++ AO.cells ver (b0.flatMap Stp.row) :: g2)) fun r h'=>∃ b G c,h' = h ++ (g1 ++ AO.cells ver (b.flatMap Stp.row) :: (g2 ++ G)) ∧ r = .tup [.sl (h.length + g1.length) ver 0 b.length 6,VB c] ∧ b.length = b0.length ∧ Keeps b0 b ∧ jj b ≤ jj b0 ∧ (c = true → jj b < jj b0) ∧ (c = false → b = b0 ∧ ∀ k,k < b0.length → Thr b0 k) ∧ (b,c) = thrN b0 b0.length:=by
 have hsl:∀ (b:List Stp) (x:AH),SlT Stp.row 6 (h ++ (g1 ++ AO.cells ver (b.flatMap Stp.row) :: x)) (.sl (h.length + g1.length) ver 0 b.length 6) b:=fun b x=>
  SlT.whole (f:=Stp.row) (xs:=b) (l:=b.flatMap Stp.row) (fun g'=>by simp only [go_sem]) Stp.len rfl
 have h177:=c177 hO (hsl b0 g2) hl
 refine SimCall.by hO.P res182 ?_
 unfold x182 r182
 repeat' first
  | ((with_reducible show SimCall _ 177 _ _ _);refine (h177).mono ?_;rintro r h' ⟨rfl,rfl⟩)
  | simp (maxSteps:=1000000) only [go_sem]
 have hpll:(placesN (wsB b0) b0.length).length = b0.length + 1:=beginsN_len _ _
 refine SimLoop.inv [0,3,0,5,0,0] (fun m s=>∃ (i:Nat) (b:List Stp) (c:Bool),m = b0.length - i ∧ i ≤ b0.length ∧ b.length = b0.length ∧ b.map (·.ins) = b0.map (·.ins) ∧ Keeps b0 b ∧ jj b ≤ jj b0 ∧ (c = true → jj b < jj b0) ∧ (c = false → b = b0 ∧ ∀ k,k < i → Thr b0 k) ∧ (b,c) = thrN b0 i ∧
  s = ⟨[.sl (h.length + g1.length) ver 0 b0.length 6,.un,.un,.un,.sl (h.length + (g1.length + (g2.length + 1))) 0 0 (b0.length + 1) 1,VB c,.un,.un,.un,.un,.un,.sl (h.length + g1.length) ver 0 b0.length 6,VI b0.length,VI i,.un,.un,.un,.un,.un,.un,.un,.un,.un,.un,.un,.un,.un,.un,.un,.un,.un,.un,.un,.un,.un,.un,.un,.un,.un,.un,.un,.un,.un,.un,.un,.un,.un,.un,.un,.un,.un,.un,.un,.un,.un,.un,.un,.un,.un,.un,.un,.un,.un,.un,.un,.un,.un,.un,.un,.un],
    h ++ (g1 ++ .cells ver (b.flatMap Stp.row) :: (g2 ++ [.cells 0 ((placesN (wsB b0) b0.length).map VI)]))⟩) ?_ b0.length ?_
 rotate_left
 ·exact ⟨0,b0,false,rfl,Nat.zero_le _,rfl,rfl,Keeps.refl hf0,Nat.le_refl _,(fun q=>by cases q),(fun _=>⟨rfl,fun k hk=>absurd hk (by omega)⟩),rfl,by simp only [go_sem];rfl⟩
 rintro m s ⟨i,b,c,rfl,hi,hbl,hins,hkp,hjl,hcc,hno,htr,rfl⟩
 have hf:=hkp.fits
 have hws:wsB b = wsB b0:=wsB_of_ins hins
 by_cases hlt:i < b0.length
 ·have hlt':((i:Int) < b0.length):=by omega
  have hw:=wrap_succ hlt (by omega)
  have hib:i < b.length:=by omega
  have hbi:=List.getElem?_eq_getElem hib
  have hslb:=hsl b (g2 ++ [.cells 0 ((placesN (wsB b0) b0.length).map VI)])
  rw [hbl] at hslb
  have hto:=rows_toF hbi
  have hpl:∀ (t:Nat),t ≤ b0.length → ((placesN (wsB b0) b0.length).map VI)[t]? = some (VI (psum (wsB b0) t:Nat)):=by
   intro t ht
   rw [List.getElem?_map,places_get ht];rfl
  have hrl:=cells_len (f:=Stp.row) (sz:=6) Stp.len b
  have hfit:i * 6 + 5 + 1 ≤ (b.flatMap Stp.row).length:=by omega
  have hpi:=hpl i (by omega)
  have hbp:=psumB_bound b0 i
  have h0i:(0:Int) ≤ i:=by omega
  have hi1:(i:Int) < ((b0.length + 1:Nat):Int):=by omega
  have h243:=fun (hj:isJ b[i].ins = true)=>c243 hO hslb hf (by omega) hbi hj
  have hstep:=fun (hj:isJ b[i].ins = true) (n:Nat) (sn:Stp)=>thread_step (n:=n) (sn:=sn) hf hbi hj
  have hnx:(b = b0 → Thr b0 i) → c = false → b = b0 ∧ ∀ k,k < i + 1 → Thr b0 k:=by
   intro q hc
   obtain ⟨q1,q2⟩:=hno hc
   refine ⟨q1,fun k hk=>?_⟩
   by_cases hki:k = i
   ·rw [hki];exact q q1
   ·exact q2 k (by omega)
  generalize b[i] = s at hbi hto h243 hstep
  obtain ⟨⟨op,dst,src,off,imm⟩,to⟩:=s
  simp only at hto hstep
  have hfit5:i * 6 + 5 ≤ (b.flatMap Stp.row).length:=by omega
  have hat:=cells_at (f:=Stp.row) (sz:=6) Stp.len hbi
  have hrow5:((b.flatMap Stp.row).drop (i * 6)).take 5 = [VI op,VI dst,VI src,VI off,VI imm]:=by
   have:((b.flatMap Stp.row).drop (i * 6)).take 5 = (((b.flatMap Stp.row).drop (i * 6)).take 6).take 5:=by rw [List.take_take];rfl
   rw [this,hat]
   rfl
  have hc0:(b.flatMap Stp.row)[i * 6]? = some (VI op):=cells_one (f:=Stp.row) (sz:=6) Stp.len hbi (j:=0) (by decide)
  have hc5:(b.flatMap Stp.row)[i * 6 + 5]? = some (VI to):=cells_one (f:=Stp.row) (sz:=6) Stp.len hbi (j:=5) (by decide)
  by_cases hj:isJ ⟨op,dst,src,off,imm⟩ = true
  ·skip
   repeat' first
    | ((with_reducible show SimCall _ 242 _ _ _);refine (c242' hO ⟨op,dst,src,off,imm⟩ _).mono ?_;rintro r h' ⟨rfl,rfl⟩)
    | simp (maxSteps:=1000000) only [go_sem,hlt',hw,h0i,hfit5,hrow5,hj,Int.toNat_natCast,Nat.zero_add]
   refine (h243 hj).mono ?_
   rintro r h' ⟨rfl,t,rfl,hlc,hcase⟩
   rcases hcase with ⟨htn,hnone⟩ | ⟨n,sn,rfl,hn,hnj,hfirst,hall⟩
   ·skip
    repeat' first
     | ((with_reducible show SemL _ _ _ _);refine SemL.of ?_)
     | simp (maxSteps:=1000000) only [go_sem,hlt',hw,h0i,hc0,hc5,htn,Bool.true_or,Int.toNat_natCast,Nat.zero_add]
    refine ⟨b0.length - (i + 1),by omega,i + 1,b,c,rfl,by omega,hbl,hins,hkp,hjl,hcc,hnx (fun e=>?_),thrN_off htr hbi (by unfold onB;simp only;rw [← hlc,decide_eq_false (show ¬ (0:Int) ≤ t by omega)];simp),rfl⟩
    intro s1 hs1 _ l n hch
    rw [← e,hbi] at hs1
    cases hs1
    rw [← e] at hch
    exact absurd hch (hnone l n)
   ·have hnl:=(List.getElem?_eq_some_iff.1 hn).1
    have hn0:¬ (n:Int) < 0:=by omega
    have hnn:(0:Int) ≤ n:=by omega
    have hn1:(n:Int) < ((b0.length + 1:Nat):Int):=by omega
    have hpn:=hpl n (by omega)
    have hbn:=psumB_bound b0 n
    have hw1:IntKind.i64.wrap (((psum (wsB b0) n:Nat):Int) - ((psum (wsB b0) i:Nat):Int)) = ((psum (wsB b0) n:Nat):Int) - ((psum (wsB b0) i:Nat):Int):=wrap_id (by omega) (by omega)
    have hw2:IntKind.i64.wrap (((psum (wsB b0) n:Nat):Int) - ((psum (wsB b0) i:Nat):Int) - 1) = dist (wsB b0) i n:=by rw [wrap_id (by omega) (by omega)];rfl
    have htn:=hto (n:Int)
    repeat' first
     | ((with_reducible show wx _ (XCode.cond _ _ _) _ _);refine wx_if rfl (fun _=>?_) (fun _=>?_))
     | ((with_reducible show SemL _ _ _ _);refine SemL.of ?_)
     | simp (maxSteps:=1000000) only [go_sem,hlt',hw,hc0,hc5,hn0,hnn,hn1,h0i,hi1,hpi,hpn,hw1,hw2,Bool.false_or,hfit,htn,Int.toNat_natCast,Nat.mul_one,Nat.zero_add]
     | ((with_reducible show wl _ (XI.mk _ (some _) (XBody.op _) :: _) _ _);first | refine wl_optF rfl (fun e2=>by ((try simp only [Bool.and_eq_true] at e2);first | (simp (maxSteps:=1000000) only [e2,go_sem,hlt',hw,hc0,hc5,hn0,hnn,hn1,h0i,hi1,hpi,hpn,hw1,hw2,Bool.false_or,hfit,htn,Int.toNat_natCast,Nat.mul_one,Nat.zero_add];first | done | rfl))) ?_ | refine wl_opt2T rfl (fun e1 e2=>by ((try simp only [Bool.and_eq_true] at e1);first | (simp (maxSteps:=1000000) only [e1,e2,go_sem,hlt',hw,hc0,hc5,hn0,hnn,hn1,h0i,hi1,hpi,hpn,hw1,hw2,Bool.false_or,hfit,htn,Int.toNat_natCast,Nat.mul_one,Nat.zero_add];first | done | rfl))) ?_)
    ·rename_i e1
     refine ⟨b0.length - (i + 1),by omega,i + 1,b,c,rfl,by omega,hbl,hins,hkp,hjl,hcc,hnx (fun e=>?_),thrN_off htr hbi (by unfold onB;simp only;rw [← hlc];simp at e1;simp [e1]),rfl⟩
     intro s1 hs1 _ l n' hch hne
     rw [← e,hbi] at hs1
     cases hs1
     rw [← e] at hch
     have:=hall l n' hch
     subst this
     simp at e1
     exact absurd e1 hne
    ·rename_i e1 e2
     simp at e1 e2
     have hdd:¬ op = 6 → -32768 ≤ dist (wsB b) i n ∧ dist (wsB b) i n < 32768:=by
      intro h6
      rw [hws]
      rcases e2 with q | q
      ·exact absurd q h6
      ·exact q
     obtain ⟨k1,k2⟩:=hstep hj n sn hn hnj e1 (fun s2 hs2=>by
      cases q:isJ s2.ins with
      | true=>rfl
      | false=>exact absurd (hfirst s2 hs2 q) e1) hdd
     refine ⟨b0.length - (i + 1),by omega,i + 1,_,true,rfl,by omega,by rw [List.length_set];exact hbl,by rw [ins_set hbi];exact hins,hkp.trans k1,by omega,fun _=>by omega,(fun q=>by cases q),by have:=thrN_on htr hbi (by unfold onB;simp only;rw [← hlc];simp [hj,e1];rcases e2 with q | q;exact .inl q;exact .inr (by rw [hws];exact q));rw [← hlc] at this;exact this,rfl⟩
    ·rename_i e1 e2
     refine ⟨b0.length - (i + 1),by omega,i + 1,b,c,rfl,by omega,hbl,hins,hkp,hjl,hcc,hnx (fun e=>?_),thrN_off htr hbi (by unfold onB;simp only;rw [← hlc,hws];simp at e1 e2;simp;omega),rfl⟩
     intro s1 hs1 _ l n' hch hne
     rw [← e,hbi] at hs1
     cases hs1
     rw [← e] at hch
     have:=hall l n' hch
     subst this
     simp at e1 e2
     simp only
     omega
  ·have hj2:isJ ⟨op,dst,src,off,imm⟩ = false:=by simpa using hj
   repeat' first
    | ((with_reducible show SimCall _ 242 _ _ _);refine (c242' hO ⟨op,dst,src,off,imm⟩ _).mono ?_;rintro r h' ⟨rfl,rfl⟩)
    | simp (maxSteps:=1000000) only [go_sem,hlt',hw,h0i,hfit5,hrow5,hj2,Int.toNat_natCast,Nat.zero_add]
   refine ⟨b0.length - (i + 1),by omega,i + 1,b,c,rfl,by omega,hbl,hins,hkp,hjl,hcc,hnx (fun e=>?_),thrN_off htr hbi (by unfold onB;simp only;rw [hj2];rfl),rfl⟩
   intro s1 hs1 hj1
   rw [← e,hbi] at hs1
   cases hs1
   rw [hj2] at hj1
   cases hj1
 ·have hlt':¬ ((i:Int) < b0.length):=by omega
  repeat' first
   | simp (maxSteps:=1000000) only [go_sem,hlt']
  have hie:i = b0.length:=by omega
  refine ⟨b,_,c,rfl,by rw [hbl],hbl,hkp,hjl,hcc,fun hc=>?_,by rw [← hie];exact htr⟩
  ·obtain ⟨q1,q2⟩:=hno hc
   exact ⟨q1,fun k hk=>q2 k (by omega)⟩
end Go.Tidy
namespace Go.Tidy
open Go Go.Eng Go.Proofs
variable {cx:Cx}
theorem jjL_le (is:List Ins):∀ l:List Stp,jjL is l ≤ l.length
 | []=>Nat.le_refl _
 | s :: r=>by
   have:=jjL_le is r
   simp only [jjL,List.length_cons]
   split <;> omega
def far (b:List Stp):Nat:=b.length * (b.length + 1) + jj b
theorem far_len {b b':List Stp} (h:b'.length < b.length):far b' < far b:=by
 unfold far
 have h1:jj b' ≤ b'.length:=jjL_le _ _
 have h2:(b'.length + 1) * (b'.length + 1) ≤ b.length * (b.length + 1):=Nat.mul_le_mul (by omega) (by omega)
 have h3:(b'.length + 1) * (b'.length + 1) = b'.length * (b'.length + 1) + (b'.length + 1):=Nat.succ_mul _ _
 omega
theorem far_jj {b b':List Stp} (hl:b'.length = b.length) (h:jj b' < jj b):far b' < far b:=by
 unfold far
 rw [hl]
 omega
theorem rd_elsewhere {h g1 g2 G:AH} {o o':AO} {id ver:Nat} {cs:List AV} (hid:id ≠ h.length + g1.length) (hr:AH.rd (h ++ (g1 ++ o :: g2)) id ver = some cs):AH.rd (h ++ (g1 ++ o' :: (g2 ++ G))) id ver = some cs:=by
 have hlt:=rd_lt hr
 have:(h ++ (g1 ++ o' :: (g2 ++ G)))[id]? = (h ++ (g1 ++ o :: g2))[id]?:=by
  rw [← List.append_assoc,← List.append_assoc]
  by_cases hc:id < (h ++ g1).length
  ·rw [List.getElem?_append_left hc,List.getElem?_append_left hc]
  ·rw [List.getElem?_append_right (by omega),List.getElem?_append_right (by omega)]
   have hl:(h ++ g1).length = h.length + g1.length:=List.length_append
   obtain ⟨j,hj⟩:∃ j,id - (h ++ g1).length = j + 1:=⟨id - (h ++ g1).length - 1,by omega⟩
   rw [hj,List.getElem?_cons_succ,List.getElem?_cons_succ]
   simp only [List.length_append,List.length_cons] at hlt hj
   rw [List.getElem?_append_left (by omega)]
 unfold AH.rd at hr ⊢
 rw [this]
 exact hr
def Chg (h:AH) (g1 g2:AH) (ver:Nat) (b:List Stp) (X:List Stp → Prop) (N:Prop) (r:AV) (h':AH):Prop:=
 ∃ b' g1' ver' g2' c,h' = h ++ (g1' ++ AO.cells ver' (b'.flatMap Stp.row) :: g2') ∧ r = .tup [.sl (h.length + g1'.length) ver' 0 b'.length 6,VB c] ∧ Keeps b b' ∧ (c = true → far b' < far b ∧ X b') ∧ (c = false → b' = b ∧ N) ∧ far b' ≤ far b ∧ b'.length ≤ b.length ∧
   ∀ id cs,id ≠ h.length + g1.length → AH.rd (h ++ (g1 ++ AO.cells ver (b.flatMap Stp.row) :: g2)) id 0 = some cs → AH.rd h' id 0 = some cs ∧ id ≠ h.length + g1'.length
theorem chg_of {h g1 g2:AH} {ver:Nat} {b:List Stp} {X:List Stp → Prop} {N:Prop} (hf:Fits b) {r:AV} {h':AH} (hc:Changed (h ++ (g1 ++ AO.cells ver (b.flatMap Stp.row) :: g2)) (.sl (h.length + g1.length) ver 0 b.length 6) b (fun b'=>Keeps b b' ∧ X b') N r h'):Chg h g1 g2 ver b X N r h':=by
 obtain ⟨G,rfl,h1⟩:=hc
 rcases h1 with ⟨rfl,hn⟩ | ⟨b',a1,a2,v2,rfl,rfl,h2,h3⟩
 ·refine ⟨b,g1,ver,g2 ++ G,false,by simp,rfl,Keeps.refl hf,(fun q=>by cases q),(fun _=>⟨rfl,hn⟩),Nat.le_refl _,Nat.le_refl _,fun id cs hid hr=>⟨?_,hid⟩⟩
  rw [rd_old (rd_lt hr)];exact hr
 ·refine ⟨b',g1 ++ AO.cells ver (b.flatMap Stp.row) :: (g2 ++ a1),v2,a2,true,by simp,?_,h3.1,fun _=>⟨far_len h2,h3.2⟩,(fun q=>by cases q),Nat.le_of_lt (far_len h2),by omega,fun id cs hid hr=>⟨?_,?_⟩⟩
  ·simp only [List.length_append,List.length_cons]
   congr 3
   omega
  ·rw [rd_old (rd_lt hr)];exact hr
  ·have:=rd_lt hr
   simp only [List.length_append,List.length_cons] at this ⊢
   omega
theorem laid_call {b:List Stp} (hf:Fits b) (hs:(wsB b).sum < 2147483647) {i:Ins} (hi:i ∈ laidL b) (h3:jumps i = 3):∃ s ∈ b,i = s.ins:=by
 obtain ⟨k,hk⟩:=List.mem_iff_getElem?.1 hi
 unfold laidL at hk
 rw [List.getElem?_mapIdx,Option.map_eq_some_iff] at hk
 obtain ⟨s,h1,rfl⟩:=hk
 refine ⟨s,List.mem_of_getElem? h1,?_⟩
 by_cases hl:leads s.ins = true
 ·exfalso
  obtain ⟨h0,_,h5⟩:=hf.to k s h1 hl
  have hv:if s.ins.op = 6 then -2147483648 ≤ dist (wsB b) k s.to.toNat ∧ dist (wsB b) k s.to.toNat < 2147483648 else -32768 ≤ dist (wsB b) k s.to.toNat ∧ dist (wsB b) k s.to.toNat < 32768:=by
   split
   ·have a1:=psum_all (wsB b) (Nat.le_refl _)
    have a2:psum (wsB b) k ≤ (wsB b).sum:=by rw [← psum_all (wsB b) (t:=max k (wsB b).length) (by omega)];exact psum_mono _ (by omega)
    have a3:psum (wsB b) s.to.toNat ≤ (wsB b).sum:=by rw [← psum_all (wsB b) (t:=max s.to.toNat (wsB b).length) (by omega)];exact psum_mono _ (by omega)
    unfold dist
    omega
   ·rename_i h6;exact h5 h6
  have:=(leads_aim hl hv).1
  unfold laidI at h3
  rw [if_pos h0,this] at h3
  unfold leads at hl
  simp [h3] at hl
 ·have h0:=hf.no k s h1 (by simpa using hl)
  unfold laidI
  rw [if_neg (by omega)]
def Cnd (b:List Stp):Nat → Prop
 | 0=>AllR b
 | 1=>∀ k,k < b.length → idleB b k = false
 | 2=>(∀ k,k < b.length → Thr b k) ∧ (b,false) = thrN b b.length
 | _=>True
def Nx (b:List Stp):Nat → List Stp → Prop
 | 0,b'=>b' = unrF b ∧ ¬ AllR b
 | 1,b'=>b' = idleF b ∧ ¬ ∀ k,k < b.length → idleB b k = false
 | _,b'=>(b',true) = thrN b b.length
theorem nxt_of {b b':List Stp} {i:Nat} (hi:i < 3) (hc:∀ j,j < i → Cnd b j) (h:Nx b i b'):nxt b = some b':=by
 match i,hi,h with
 | 0,_,h=>rw [h.1];exact nxt_unr h.2
 | 1,_,h=>rw [h.1];exact nxt_idle (hc 0 (by omega)) h.2
 | 2,_,h=>exact nxt_thr (hc 0 (by omega)) (hc 1 (by omega)) h
def chgC:List AV:=[.fn 180 [],.fn 181 [],.fn 182 []]
set_option maxRecDepth 100000 in
set_option maxHeartbeats 4000000 in
theorem c70 (hO:On cx) {h:AH} {v:AV} {nf nt:Int} {is:List Ins} (hv:SlIns h v is) (hl:is.length < 1099511627775) (hb:BodyOk nf nt is) (hs:(wsI is).sum < 2147483647) :
 SimCall cx 70 [v] h fun r h'=>∃ js,Made nf nt is js ∧ r = .sl h.length 0 0 js.length 5 ∧ h' = h ++ [.cells 0 (js.flatMap Ins.row)]:=by
 refine (SimCall.gc1 hole_id (Q:=fun n sz cs=>∃ js,Made nf nt is js ∧ n = js.length ∧ sz = 5 ∧ cs = js.flatMap Ins.row) ?_).mono (by rintro r h' ⟨n,sz,cs,⟨js,h1,rfl,rfl,rfl⟩,rfl,rfl⟩;exact ⟨js,h1,rfl,rfl⟩)
 refine SimCall.by hO.P res70 ?_
 unfold x70 r70
 repeat' first
  | simp (maxSteps:=1000000) only [go_sem]
 refine (c125 hO hv hl (fun i hi=>(hb.rule i hi).may)).mono ?_
 rintro r h' ⟨b0,htk,rfl,rfl⟩
 obtain ⟨hf0,hws0,hr0⟩:=takenUp_fits hb htk.len htk.each
 have hl0:b0.length < 1099511627776:=by have:=htk.len;omega
 repeat' first
  | simp (maxSteps:=1000000) only [go_sem]
 refine SimLoop.inv [3] (fun m s=>∃ (b:List Stp) (g1 g2:AH) (ver:Nat),m = far b ∧ Keeps b0 b ∧ b.length ≤ b0.length ∧ (∀ z,Ends b z → Ends b0 z) ∧
  s = ⟨[.un,.un,.un,.sl (h.length + g1.length) ver 0 b.length 6,.un,.un,.un,.un,.un,.un,.un,.un,.un,.un,.un,.un,.un,.un,.un,.un,.un,.un,.un,.un,.un],h ++ (g1 ++ .cells ver (b.flatMap Stp.row) :: g2)⟩) ?_ (far b0) ?_
 rotate_left
 ·exact ⟨b0,[],[],0,rfl,Keeps.refl hf0,Nat.le_refl _,fun _ q=>q,by simp only [go_sem]⟩
 rintro m s ⟨b,g1,g2,ver,rfl,hk,hbl,hen0,rfl⟩
 have h3:((3:Nat):Int) = 3:=rfl
 repeat' first
  | ((with_reducible show SimCall _ 126 _ _ _);refine (c126 hO _).mono ?_;rintro r h' ⟨rfl,rfl⟩)
  | simp (maxSteps:=1000000) only [go_sem]
 refine SimLoop.inv [3,5,0,0] (fun m s=>∃ (i:Nat) (b':List Stp) (g1 g2:AH) (ver fid:Nat),m = 3 - i ∧ i ≤ 3 ∧ (∀ j,j < i → Cnd b' j) ∧ Keeps b b' ∧ far b' ≤ far b ∧ b'.length ≤ b.length ∧ (∀ z,Ends b' z → Ends b0 z) ∧ fid ≠ h.length + g1.length ∧ AH.rd (h ++ (g1 ++ .cells ver (b'.flatMap Stp.row) :: g2)) fid 0 = some chgC ∧
  s = ⟨[.un,.un,.un,.sl (h.length + g1.length) ver 0 b'.length 6,.un,.un,.un,.un,.un,.sl fid 0 0 3 1,VI ((3:Nat):Int),VI i,.un,.un,.un,.un,.un,.un,.un,.un,.un,.un,.un,.un,.un],h ++ (g1 ++ .cells ver (b'.flatMap Stp.row) :: g2)⟩) ?_ 3 ?_
 rotate_left
 ·refine ⟨0,b,g1,g2 ++ [.cells 0 chgC],ver,h.length + (g1.length + (g2.length + 1)),rfl,by omega,fun j hj=>absurd hj (by omega),Keeps.refl hk.fits,Nat.le_refl _,Nat.le_refl _,hen0,by omega,by simp only [go_sem],by simp only [go_sem];rfl⟩
 rintro m s ⟨i,b',g1',g2',ver',fid,rfl,hi,hcnd,hk',hfar,hbl',hen,hfid,hrd,rfl⟩
 have hf':=hk'.fits
 have hlb:b'.length < 1099511627776:=by omega
 have hsl:SlT Stp.row 6 (h ++ (g1' ++ .cells ver' (b'.flatMap Stp.row) :: g2')) (.sl (h.length + g1'.length) ver' 0 b'.length 6) b':=
  SlT.whole (f:=Stp.row) (xs:=b') (l:=b'.flatMap Stp.row) (fun g'=>by simp only [go_sem]) Stp.len rfl
 have k180:SimCall cx 180 [.sl (h.length + g1'.length) ver' 0 b'.length 6] (h ++ (g1' ++ .cells ver' (b'.flatMap Stp.row) :: g2')) (Chg h g1' g2' ver' b' (Nx b' 0) (Cnd b' 0)):=(c180 hO hsl hf' hlb).mono fun r h' hc=>chg_of hf' hc
 have k181:SimCall cx 181 [.sl (h.length + g1'.length) ver' 0 b'.length 6] (h ++ (g1' ++ .cells ver' (b'.flatMap Stp.row) :: g2')) (Chg h g1' g2' ver' b' (Nx b' 1) (Cnd b' 1)):=(c181 hO hsl hf' hlb).mono fun r h' hc=>chg_of hf' hc
 have k182:SimCall cx 182 [.sl (h.length + g1'.length) ver' 0 b'.length 6] (h ++ (g1' ++ .cells ver' (b'.flatMap Stp.row) :: g2')) (Chg h g1' g2' ver' b' (Nx b' 2) (Cnd b' 2)):=by
  refine (c182 hO hf' hlb).mono ?_
  rintro r h' ⟨b2,G,c,rfl,rfl,e1,e2,e3,e4,e5,e6⟩
  refine ⟨b2,g1',ver',g2' ++ G,c,rfl,rfl,e2,fun q=>⟨far_jj e1 (e4 q),by subst q;exact e6⟩,fun q=>⟨(e5 q).1,(e5 q).2,by subst q;have:=(e5 rfl).1;subst this;exact e6⟩,?_,by omega,fun id cs hid hr=>⟨rd_elsewhere hid hr,hid⟩⟩
  unfold far
  rw [e1]
  omega
 have fin:∀ X N r h',Chg h g1' g2' ver' b' X N r h' → ∃ (b2:List Stp) (a1 a2:AH) (v2:Nat) (c:Bool),h' = h ++ (a1 ++ AO.cells v2 (b2.flatMap Stp.row) :: a2) ∧ r = .tup [.sl (h.length + a1.length) v2 0 b2.length 6,VB c] ∧ Keeps b b2 ∧ (c = true → far b2 < far b ∧ X b2) ∧ (c = false → b2 = b' ∧ N) ∧ far b2 ≤ far b ∧ b2.length ≤ b.length ∧ fid ≠ h.length + a1.length ∧ AH.rd h' fid 0 = some chgC:=by
  rintro X N r h' ⟨b2,a1,v2,a2,c,e1,e2,e3,e4,e9,e5,e6,e7⟩
  obtain ⟨q1,q2⟩:=e7 fid chgC hfid hrd
  exact ⟨b2,a1,a2,v2,c,e1,e2,hk'.trans e3,fun q=>⟨Nat.lt_of_lt_of_le (e4 q).1 hfar,(e4 q).2⟩,e9,by omega,by omega,q2,q1⟩
 have h0i:(0:Int) ≤ i:=by omega
 by_cases hlt:i < 3
 ·have hlt':(i:Int) < ((3:Nat):Int):=by omega
  have hw:=wrap_succ hlt (by omega)
  have hcall:∀ F:FuncId,chgC[i]? = some (.fn F []) → SimCall cx F [.sl (h.length + g1'.length) ver' 0 b'.length 6] (h ++ (g1' ++ .cells ver' (b'.flatMap Stp.row) :: g2')) (Chg h g1' g2' ver' b' (Nx b' i) (Cnd b' i)):=by
   intro F hF
   match i,hlt,hF with
   | 0,_,hF=>simp [chgC] at hF;subst hF;exact k180
   | 1,_,hF=>simp [chgC] at hF;subst hF;exact k181
   | 2,_,hF=>simp [chgC] at hF;subst hF;exact k182
  obtain ⟨F,hF⟩:∃ F,chgC[i]? = some (.fn F []):=by
   match i,hlt with
   | 0,_=>exact ⟨_,rfl⟩
   | 1,_=>exact ⟨_,rfl⟩
   | 2,_=>exact ⟨_,rfl⟩
  repeat' first
   | simp (maxSteps:=1000000) only [go_sem,hlt',h0i,hrd,hF,Int.toNat_natCast,Nat.mul_one,Nat.zero_add]
  refine (hcall F hF).mono ?_
  intro r h' hc
  obtain ⟨b2,a1,a2,v2,c,rfl,rfl,e3,e4,e9,e5,e6,e7,e8⟩:=fin _ _ r h' hc
  repeat' first
   | ((with_reducible show wx _ (XCode.cond _ _ _) _ _);refine wx_if rfl (fun _=>?_) (fun _=>?_))
   | simp (maxSteps:=1000000) only [go_sem,hw]
  ·rename_i e
   exact ⟨far b2,(e4 e).1,b2,a1,a2,v2,rfl,hk.trans e3,by omega,fun z hz=>hen z (.step (nxt_of hlt hcnd (e4 e).2) hz),rfl⟩
  ·rename_i e
   obtain ⟨q1,q2⟩:=e9 (by simpa using e)
   refine ⟨3 - (i + 1),by omega,i + 1,b2,a1,a2,v2,fid,rfl,by omega,fun j hj=>?_,e3,e5,e6,(by rw [q1];exact hen),e7,e8,rfl⟩
   rw [q1]
   by_cases hji:j = i
   ·rw [hji];exact q2
   ·exact hcnd j (by omega)
 ·have hlt':¬ (i:Int) < ((3:Nat):Int):=by omega
  have hkb:=hk.trans hk'
  have hne:=hkb.fits.ne
  have h127:=c127 hO hsl hne (by omega) hkb.fits.toAll
  repeat' first
   | ((with_reducible show SimCall _ 127 _ _ _);refine (h127).mono ?_;rintro r h' ⟨rfl,rfl⟩)
   | simp (maxSteps:=1000000) only [go_sem,hlt']
  have hsum:(wsB b').sum ≤ (wsI is).sum:=by have:=hkb.slots;rw [hws0] at this;exact this
  refine ⟨_,rfl,_,_,_,_,_,rfl,by omega,by simp only [go_sem],?_,laidL b',⟨laid_ok hkb.fits (fun s hs'=>?_) (by omega),⟨b',hkb.fits,by omega,rfl,hcnd 0 (by omega),hcnd 1 (by omega),(hcnd 2 (by omega)).1⟩,by rw [wsI_laid];exact hsum,?_,b0,b',⟨htk.len,htk.each⟩,hen b' (.done (nxt_no (hcnd 0 (by omega)) (hcnd 1 (by omega)) (hcnd 2 (by omega)).2)),rfl⟩,by simp [laidL],rfl,rfl⟩
  ·intro y hy
   obtain ⟨s,_,hy⟩:=List.mem_flatMap.1 hy
   simp only [Ins.row,List.mem_cons,List.not_mem_nil,or_false] at hy
   rcases hy with rfl | rfl | rfl | rfl | rfl <;> exact .v _
  ·obtain ⟨s0,h0,e0⟩:=hkb.ins s hs'
   rw [e0]
   exact hr0 s0 h0
  ·intro c hc
   unfold callsOf at hc ⊢
   obtain ⟨i,hi,rfl⟩:=List.mem_map.1 hc
   obtain ⟨hi,h3⟩:=List.mem_filter.1 hi
   obtain ⟨s,hs',rfl⟩:=laid_call hkb.fits (by omega) hi (of_decide_eq_true h3)
   obtain ⟨s0,h0,e0⟩:=hkb.ins s hs'
   obtain ⟨k,hk⟩:=List.mem_iff_getElem?.1 h0
   refine List.mem_map.2 ⟨s.ins,List.mem_filter.2 ⟨?_,h3⟩,rfl⟩
   rw [e0]
   exact List.mem_of_getElem? (htk.each k s0 hk).1
end Go.Tidy

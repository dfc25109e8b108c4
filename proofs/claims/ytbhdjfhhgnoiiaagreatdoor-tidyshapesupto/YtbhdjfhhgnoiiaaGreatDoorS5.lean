/- Part 5 of a proof: an abstract memory for the translated code, and what the functions that the law reaches do over it. -/
import Derived.Deep.DeepHandedRow
import Derived.Deep.DeepWitnessRowRef
import Derived.Lib.LaidTab
import Derived.Test.YtbhdjfhhgnoiiaaGreatDoorS4
set_option linter.unusedSimpArgs false
set_option linter.unusedVariables false
namespace Go.Eng
open Go.RowKit Go.ChangeShapes
def avArgs {H:Type} (P:Program) (n:Nat):List TypeId → List (DataW H) → List AV
 | t :: ts,d :: ds=>avOf P n t d :: avArgs P n ts ds
 | _,_=>[]
theorem cell_not_agg {P:Program} {w:World} {r:Reach} {b:Nat} {t:TypeId} {cs:Array Value} {n:Nat} (hok:argOk P n t = true) (h:Value.okWide P w r b t (.agg cs)):(∃ fs,P.underlying t = some (.struct fs)) ∨ ∃ n e,P.underlying t = some (.array n e):=by
 unfold Value.okWide at h
 split at h
 ·rename_i fs ht;exact .inl ⟨fs,ht⟩
 ·rename_i k e ht;exact .inr ⟨k,e,ht⟩
 ·rename_i h1 h2
  exfalso
  cases n with
  | zero=>simp [argOk] at hok
  | succ n=>
    unfold argOk at hok
    unfold Cell.okWide at h
    split at hok <;> rename_i ht <;> (try (simp only [ht,Cell.ok] at h)) <;> first | exact h1 _ ht | exact h2 _ _ ht | cases hok
theorem trod_arg {H:Type} {enc:TypeId × Value → H} {P:Program} {w:World} {b0 b:Nat} {sp:Nat → Bool} {hd:Bool} {φ:Phi} {n:Nat} {t:TypeId} {v:Value} {d:DataW H} {ps:List MemPlace}
 (hok:argOk P n t = true) (hv:Value.okWide P w .any b t v) (h:DataW.Trod enc P w b0 sp hd t v d ps):Rep w w.heap.size φ (avOf P n t d) v:=by
 obtain ⟨m,h⟩:=h
 obtain ⟨hr,hl⟩:=trod_rep (φ:=φ) n t m _ d ps hok h
 by_cases hagg:∃ cs,v = .agg cs
 ·obtain ⟨cs,rfl⟩:=hagg
  have hag:Rep w w.heap.size φ (.agg (avs P n t d)) (.agg cs):=by
   have h1:(Value.cells (.agg cs)).toList = cs.toList:=rfl
   rw [h1] at hr
   exact .agg _ cs (by simpa using hr.1) (fun k x u hx hu=>hr.2.1 k x u hx (by simpa using hu))
  unfold avOf
  rcases cell_not_agg hok hv with ⟨fs,ht⟩ | ⟨k,e,ht⟩ <;> (rw [ht];exact hag)
 ·have hc:v.cells = #[v]:=by
   cases v <;> first | rfl | exact absurd ⟨_,rfl⟩ hagg
  rw [hc] at hr hl
  unfold avOf
  split
  ·rename_i fs ht
   unfold Value.okWide at hv
   rw [ht] at hv
   obtain ⟨cs,rfl,_⟩:=hv
   exact absurd ⟨_,rfl⟩ hagg
  ·rename_i k e ht
   unfold Value.okWide at hv
   rw [ht] at hv
   obtain ⟨cs,rfl,_⟩:=hv
   exact absurd ⟨_,rfl⟩ hagg
  ·have h1:(avs P n t d).length = 1:=by simpa using hr.1
   match hx:avs P n t d,h1 with
   | [x],_=>
     rw [hx] at hr
     exact hr.2.1 0 x v rfl (by simp)
theorem trod_args {H:Type} {enc:TypeId × Value → H} {P:Program} {w:World} {b0 b:Nat} {sp:Nat → Bool} {hd:Bool} {φ:Phi} {n:Nat}:∀ {ts:List TypeId} {vs:List Value} {ds:List (DataW H)} {ps:List MemPlace},
 (∀ t ∈ ts,argOk P n t = true) → (∀ (j:Nat) t v,ts[j]? = some t → vs[j]? = some v → Value.okWide P w .any b t v) → DataW.TrodAll enc P w b0 sp hd ts vs ds ps →
 (avArgs P n ts ds).length = vs.length ∧ ∀ (k:Nat) x v,(avArgs P n ts ds)[k]? = some x → vs[k]? = some v → Rep w w.heap.size φ x v
 | [],vs,ds,ps,_,_,h=>by
   obtain ⟨rfl,rfl,rfl⟩:=trodAll_nil h
   exact ⟨rfl,fun k x v h=>by simp [avArgs] at h⟩
 | t :: ts,vs,ds,ps,ht,hv,h=>by
   obtain ⟨v,vs1,d,ds1,a,c,rfl,rfl,rfl,h1,h2⟩:=trodAll_cons h
   obtain ⟨q1,q2⟩:=trod_args (φ:=φ) (fun t h=>ht t (List.mem_cons_of_mem _ h)) (fun j t v h h'=>hv (j + 1) t v (by simpa using h) (by simpa using h')) h2
   refine ⟨by simp [avArgs,q1],?_⟩
   intro k x u hx hu
   cases k with
   | zero=>
     simp only [avArgs,List.getElem?_cons_zero,Option.some.injEq] at hx hu
     subst hx;subst hu
     exact trod_arg (ht t (List.mem_cons_self ..)) (hv 0 t v rfl rfl) h1
   | succ k=>exact q2 k x u (by simpa [avArgs] using hx) (by simpa using hu)
theorem below_trodAll {H:Type} {enc:TypeId × Value → H} {P:Program} (hl:laidOutB P = true) {W W':World} (hb:Below W.heap.size W W'):∀ {ts:List TypeId} {vs:List Value} {ds:List (DataW H)} {ps:List MemPlace},
 (∀ t ∈ ts,P.readableRec t = true ∧ t < P.types.size) → DataW.TrodAll enc P W 0 (fun _=>true) true ts vs ds ps → (∀ p ∈ ps,p.block < W.heap.size) → DataW.TrodAll enc P W' 0 (fun b=>decide (b < W.heap.size)) true ts vs ds ps
 | [],vs,ds,ps,_,h,_=>by
   obtain ⟨rfl,rfl,rfl⟩:=trodAll_nil h
   exact h
 | t :: ts,vs,ds,ps,ht,h,hp=>by
   obtain ⟨v,vs1,d,ds1,a,c,rfl,rfl,rfl,h1,h2⟩:=trodAll_cons h
   obtain ⟨q1,q2⟩:=ht t (List.mem_cons_self ..)
   exact trodAll_cons_mk (Below.trod hl q1 q2 h1 hb fun p h=>hp p (List.mem_append_left _ h)) (below_trodAll hl hb (fun t h=>ht t (List.mem_cons_of_mem _ h)) h2 fun p h=>hp p (List.mem_append_right _ h))
theorem RepW.start (cx:Cx):RepW cx (fun _ _=>none) [] cx.w0:=
 by
 refine ⟨Blw.refl _ _,?_,?_,?_,?_⟩
 ·intro id o b n h;simp at h
 ·intro id id' o o' b n n' h;simp at h
 ·intro id ver r h;cases h
 ·intro id ver b n h;cases h
theorem SimCall.apart {cx:Cx} {f:FuncId} {args:List AV} {Q:AV → Prop} (hp:∀ x ∈ args,Plain x) (hq:∀ r,Q r → Plain r) (hc:SimCall cx f args [] fun r _=>Q r) (h:AH):SimCall cx f args h fun r h'=>h' = h ∧ Q r:=by
 refine ⟨hc.1,fun φ w vs h1 h2 h3=>(hc.2 (fun _ _=>none) w vs h1 (fun k x v hx hv=>(hp x (List.mem_of_getElem? hx)).rep (h2 k x v hx hv)) ?_).mono ?_⟩
 ·refine ⟨h3.below,?_,?_,?_,?_⟩
  ·intro id o b n h;simp at h
  ·intro id id' o o' b n n' h;simp at h
  ·intro id ver r h;cases h
  ·intro id ver b n h;cases h
 ·rintro e w' ⟨v,r,h',φ',rfl,hv,hw',hst,hr⟩
  have hold:∀ b,b < w.heap.size → w'.heap[b]? = w.heap[b]?:=fun b hb=>hst.keep b hb (fun id o n ho=>by simp at ho)
  refine ⟨v,r,h,φ,rfl,(hq r hr).rep hv,⟨hw'.below,?_,h3.inj,h3.dom,?_⟩,⟨Ext.refl _,fun b hb _=>hold b hb,fun id o b n ho hn _=>⟨id,o,n,ho,hn⟩,hst.size,Nat.le_refl _,fun _ _ h=>h⟩,rfl,hr⟩
  ·intro id o b n ho hb
   exact (h3.obj id o b n ho hb).mono (Ext.refl _) (hold b (h3.hi _ _ _ _ hb).2)
  ·intro id ver b n hb
   have:=h3.hi _ _ _ _ hb
   have:=hst.size
   omega
theorem law_post {H:Type} {enc:TypeId × Value → H} {cx:Cx} {f:FuncId} {fn:Func} {s:ChangeSpec} {apart:Bool} {args:Array Value} {ds gs:List (DataW H)} {before:List MemPlace} {n b:Nat} {tb:TypeId} {h0:AH}
 (hB:cx.B = cx.w0.heap.size) (hW:DataW.Whole enc cx.P fn.params.toList s.vars apart cx.w0 args.toList ds gs before) (hvars:s.vars = []) (hfn:s.fn H (ds ++ gs) = { results:=[.lit (.bool true)],args:=ds })
 (hl:laidOutB cx.P = true) (hread:∀ t ∈ fn.params.toList,cx.P.readableRec t = true ∧ t < cx.P.types.size) (hok:∀ t ∈ fn.params.toList,argOk cx.P n t = true) (hres:fn.resultTypes = #[tb]) (htb:cx.P.underlying tb = some .bool)
 (hval:∀ (j:Nat) t v,fn.params[j]? = some t → args[j]? = some v → Value.okWide cx.P cx.w0 .any b t v)
 (hsim:SimCall cx f (avArgs cx.P n fn.params.toList ds) [] fun r _=>r = .v (.bool true)) :
 Calls cx.P f args cx.w0 fun e W'=>∃ v,e = .returned v ∧ s.post enc cx.P fn apart true false false cx.w0 args v W':=by
 have hW0:=hW
 obtain ⟨p,q,hA,hV,hpq,hz,hn⟩:=hW
 rw [hvars] at hV
 match gs,hV with
 | [],hV=>
 have hq:q = []:=hV
 subst hq
 obtain ⟨q1,q2⟩:=trod_args (φ:=fun _ _=>none) (b:=b) hok (fun j t v ht hv=>hval j t v (by simpa using ht) (by simpa using hv)) hA
 refine (hsim.2 (fun _ _=>none) cx.w0 args (by simpa using q1) (fun k x v hx hv=>by rw [hB];exact q2 k x v hx (by simpa using hv)) (RepW.start cx)).mono ?_
 rintro e W' ⟨v,r,h',φ',rfl,h1,h2,h3,rfl⟩
 have hvv:=rep_v h1
 subst hvv
 have hb:Below cx.w0.heap.size cx.w0 W':=by
  have:=h2.below.below
  rw [hB] at this
  exact this
 refine ⟨_,rfl,ds,[],before,[],p,[],hW0,?_,?_,?_,hb.frame _,fun h=>by cases h⟩
 ·rw [hfn,hres]
  exact trodAll_cons_mk (shut_bool htb _) trodAll_mk0
 ·rw [hfn]
  exact below_trodAll hl hb hread hA fun x hx=>hW0.lt x (by rw [hpq];simpa using hx)
 ·rw [hvars,hfn]
  exact rfl
theorem tab_rep {w:World} {φ:Phi} {g:Nat} {k:IntKind} {zs:List Int} (hg:g < w.heap.size) (h:∀ i,i < zs.length → w.cell? ⟨g,i,none⟩ = some (.int k (zs.getD i 0))):Rep w w.heap.size φ (.rp (zs.map fun z=>.v (.int k z))) (.pointer (some ⟨g,0,none⟩)):=by
 refine .rp _ g 0 (fun i=>.int k (zs.getD i 0)) hg (fun i hi=>by rw [Nat.zero_add];exact h i (by simpa using hi)) (fun i hi=>rfl) ?_
 intro i x hx
 rw [List.getElem?_map,Option.map_eq_some_iff] at hx
 obtain ⟨z,h1,rfl⟩:=hx
 rw [show zs.getD i 0 = z by rw [List.getD_eq_getElem?_getD,h1];rfl]
 exact .v _
end Go.Eng
namespace Go.Eng
open Go.RowKit
def fitsD {H:Type} (P:Program):Nat → TypeId → DataW H → Prop
 | 0,_,_=>False
 | n + 1,t,d=>match P.underlying t with
   | some .bool=>∃ b,d = .lit (.bool b)
   | some (.int k)=>∃ x,d = .lit (.int k x) ∧ (Lit.int k x).wf = true
   | some .string=>∃ bs:List UInt8,d = .lit (.string bs) ∧ bs.length ≤ maxLen
   | some (.slice e)=>d = .nil ∨ ∃ es sp,d = .slice es sp ∧ es.length ≤ maxLen ∧ ∀ x ∈ es,fitsD P n e x
   | some (.struct fs)=>∃ ds,d = .agg ds ∧ ds.length = fs.size ∧ ∀ (i:Nat) f x,fs[i]? = some f → ds[i]? = some x → fitsD P n f.type x
   | some (.array m e)=>∃ ds,d = .agg ds ∧ ds.length = m ∧ ∀ x ∈ ds,fitsD P n e x
   | _=>False
theorem fieldsOk_mem {P:Program} {ok:TypeId → Bool}:∀ {l:List Field} {off m:Nat},fieldsOk P ok off l m = true → ∀ f ∈ l,ok f.type = true
 | [],_,_,_,f,hf=>by cases hf
 | g :: r,off,m,h,f,hf=>by
   simp only [fieldsOk,Bool.and_eq_true] at h
   rcases List.mem_cons.1 hf with rfl | hf
   ·exact h.1.2
   ·exact fieldsOk_mem h.2 f hf
theorem trod_fits {H:Type} {enc:TypeId × Value → H} {P:Program} {w:World} {b0:Nat} {sp:Nat → Bool} {hd:Bool}:∀ (n:Nat) (t:TypeId) (m:Nat) (cs:List Value) (d:DataW H) (ps:List MemPlace),
 argOk P n t = true → DataW.trod enc P w b0 sp hd m t cs = some (d,ps) → fitsD P n t d
 | 0,t,m,cs,d,ps,hok,h=>by simp [argOk] at hok
 | n + 1,t,m,cs,d,ps,hok,h=>by
   have ih:=fun t m cs d ps=>trod_fits (enc:=enc) (P:=P) (w:=w) (b0:=b0) (sp:=sp) (hd:=hd) n t m cs d ps
   unfold argOk at hok
   unfold fitsD
   split at hok
   ·rename_i ht
    obtain ⟨b,rfl,he⟩:=DataW.trod_bool ht h
    cases he
    rw [ht]
    exact ⟨b,rfl⟩
   ·rename_i k ht
    obtain ⟨x,rfl,he,hw⟩:=DataW.trod_int ht h
    cases he
    rw [ht]
    exact ⟨x,rfl,hw⟩
   ·rename_i ht
    obtain ⟨s,rfl,he,hs⟩:=DataW.trod_string ht h
    cases he
    rw [ht]
    exact ⟨_,rfl,by rw [Array.length_toList];exact hs⟩
   ·rename_i e ht
    simp only [Bool.and_eq_true,decide_eq_true_eq] at hok
    rw [ht]
    rcases DataW.trod_slice ht h with ⟨rfl,he⟩ | ⟨a,len,cap,elems,rest,m',rfl,rfl,he,_,hlc,hcm,hlen,hel,_,_⟩
    ·cases he
     exact .inl rfl
    ·cases he
     refine .inr ⟨_,_,rfl,by rw [List.length_map];omega,?_⟩
     intro x hx
     obtain ⟨y,hy,rfl⟩:=List.mem_map.1 hx
     obtain ⟨i,hi⟩:=List.mem_iff_getElem?.1 hy
     have hil:i < len:=by have:=(List.getElem?_eq_some_iff.1 hi).1;omega
     have h4:=hel i hil
     rw [hi] at h4
     simp only [Option.bind_eq_some_iff] at h4
     obtain ⟨es,h5,h6⟩:=h4
     exact ih e _ _ _ _ hok.2 h6
   ·rename_i fs ht
    obtain ⟨xs,m',rfl,he,hl,hxl,hf⟩:=DataW.trod_struct ht h
    cases he
    rw [ht]
    refine ⟨_,rfl,by rw [List.length_map,hxl],?_⟩
    intro i f x hfi hx
    rw [List.getElem?_map,Option.map_eq_some_iff] at hx
    obtain ⟨y,hy,rfl⟩:=hx
    have h4:=hf i f hfi
    rw [hy] at h4
    exact ih f.type _ _ _ _ (fieldsOk_mem hok f (by simpa using Array.mem_of_getElem? hfi)) h4
   ·rename_i k e ht
    simp only [Bool.and_eq_true,decide_eq_true_eq] at hok
    obtain ⟨xs,m',rfl,he,hl,hxl,hf⟩:=DataW.trod_array ht h
    cases he
    rw [ht]
    refine ⟨_,rfl,by rw [List.length_map,hxl],?_⟩
    intro x hx
    obtain ⟨y,hy,rfl⟩:=List.mem_map.1 hx
    obtain ⟨i,hi⟩:=List.mem_iff_getElem?.1 hy
    have h4:=hf i (by have:=(List.getElem?_eq_some_iff.1 hi).1;omega)
    rw [hi] at h4
    exact ih e _ _ _ _ hok.2 h4
   ·cases hok
def dInt {H:Type}:DataW H → Int
 | .lit (.int _ n)=>n
 | _=>0
def dStr {H:Type}:DataW H → ByteArray
 | .lit (.string bs)=>⟨bs.toArray⟩
 | _=>.empty
def dList {H:Type}:DataW H → List (DataW H)
 | .slice es _=>es
 | _=>[]
theorem fits_int {H:Type} {P:Program} {n:Nat} {t:TypeId} {k:IntKind} {d:DataW H} (ht:P.underlying t = some (.int k)) (h:fitsD P (n + 1) t d):d = .lit (.int k (dInt d)) ∧ (Lit.int k (dInt d)).wf = true ∧ avs P (n + 1) t d = [.v (.int k (dInt d))]:=by
 unfold fitsD at h
 rw [ht] at h
 obtain ⟨x,rfl,hw⟩:=h
 exact ⟨rfl,hw,by simp only [avs,ht];rfl⟩
theorem fits_str {H:Type} {P:Program} {n:Nat} {t:TypeId} {d:DataW H} (ht:P.underlying t = some .string) (h:fitsD P (n + 1) t d):∃ bs:List UInt8,d = .lit (.string bs) ∧ bs.length ≤ maxLen ∧ dStr d = ⟨bs.toArray⟩ ∧ avs P (n + 1) t d = [.v (.string (dStr d))]:=by
 unfold fitsD at h
 rw [ht] at h
 obtain ⟨x,rfl,hw⟩:=h
 exact ⟨x,rfl,hw,rfl,by simp only [avs,ht];rfl⟩
theorem fits_slice {H:Type} {P:Program} {n:Nat} {t e:TypeId} {d:DataW H} (ht:P.underlying t = some (.slice e)) (h:fitsD P (n + 1) t d) :
 (∀ x ∈ dList d,fitsD P n e x) ∧ (d = .nil ∨ ∃ sp,d = .slice (dList d) sp) ∧ ∃ fn,avs P (n + 1) t d = [.ro (P.cellsOf e) (dList d).length fn] ∧ ∀ (i:Nat) x,(dList d)[i]? = some x → fn i = avs P n e x:=by
 unfold fitsD at h
 rw [ht] at h
 rcases h with rfl | ⟨es,sp,rfl,_,h⟩
 ·exact ⟨(fun x hx=>by cases hx),.inl rfl,fun _=>[],(by simp only [avs,ht];rfl),(fun i x hx=>by simp [dList] at hx)⟩
 ·refine ⟨h,.inr ⟨sp,rfl⟩,fun i=>avs P n e (es.getD i .nil),(by simp only [avs,ht];rfl),?_⟩
  intro i x hx
  simp only [dList] at hx
  show avs P n e (es.getD i .nil) = _
  rw [List.getD_eq_getElem?_getD,hx]
  rfl
theorem fits_struct {H:Type} {P:Program} {n:Nat} {t:TypeId} {fs:Array Field} {d:DataW H} (ht:P.underlying t = some (.struct fs)) (h:fitsD P (n + 1) t d) :
 ∃ ds,d = .agg ds ∧ ds.length = fs.size ∧ (∀ (i:Nat) f x,fs[i]? = some f → ds[i]? = some x → fitsD P n f.type x) ∧ avs P (n + 1) t d = (fs.toList.zip ds).flatMap fun x=>avs P n x.1.type x.2:=by
 unfold fitsD at h
 rw [ht] at h
 obtain ⟨ds,rfl,h1,h2⟩:=h
 exact ⟨ds,rfl,h1,h2,by simp only [avs,ht]⟩
end Go.Eng

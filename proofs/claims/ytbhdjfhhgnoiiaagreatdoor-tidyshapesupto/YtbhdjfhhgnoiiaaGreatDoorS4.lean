/- Part 4 of a proof: an abstract memory for the translated code, and what the functions that the law reaches do over it. -/
import Derived.OpenShut
import Derived.Test.YtbhdjfhhgnoiiaaGreatDoorS3
set_option linter.unusedSimpArgs false
set_option linter.unusedVariables false
namespace Go.Eng
open Go.RowKit
def avs {H:Type} (P:Program):Nat → TypeId → DataW H → List AV
 | 0,_,_=>[]
 | n + 1,t,d=>match P.underlying t,d with
   | some .bool,.lit (.bool b)=>[.v (.bool b)]
   | some (.int _),.lit (.int k x)=>[.v (.int k x)]
   | some .string,.lit (.string bs)=>[.v (.string ⟨bs.toArray⟩)]
   | some (.slice e),.slice es _=>[.ro (P.cellsOf e) es.length fun i=>avs P n e (es.getD i .nil)]
   | some (.slice e),_=>[.ro (P.cellsOf e) 0 fun _=>[]]
   | some (.struct fs),.agg ds=>(fs.toList.zip ds).flatMap fun x=>avs P n x.1.type x.2
   | some (.array _ e),.agg ds=>ds.flatMap fun x=>avs P n e x
   | _,_=>[]
def fieldsOk (P:Program) (ok:TypeId → Bool):Nat → List Field → Nat → Bool
 | off,[],m=>decide (off = m)
 | off,f :: r,m=>decide (f.offset = off) && ok f.type && fieldsOk P ok (off + P.cellsOf f.type) r m
def argOk (P:Program):Nat → TypeId → Bool
 | 0,_=>false
 | n + 1,t=>match P.underlying t with
   | some .bool | some (.int _) | some .string=>decide (P.cellsOf t = 1)
   | some (.slice e)=>decide (P.cellsOf t = 1) && decide (0 < P.cellsOf e) && argOk P n e
   | some (.struct fs)=>fieldsOk P (argOk P n) 0 fs.toList (P.cellsOf t)
   | some (.array m e)=>decide (P.cellsOf t = m * P.cellsOf e) && argOk P n e
   | _=>false
theorem mapM_all {α β:Type} {f:α → Option β}:∀ {l:List α} {r:List β},l.mapM f = some r → r.length = l.length ∧ ∀ (i:Nat) x,l[i]? = some x → ∃ y,r[i]? = some y ∧ f x = some y:=by
 intro l r h
 refine ⟨mapM_some_length h,fun i x hx=>?_⟩
 have h1:=mapM_some_get h i x hx
 have h2:=mapM_some_length h
 have hi:i < r.length:=by have:=(List.getElem?_eq_some_iff.1 hx).1;omega
 exact ⟨_,List.getElem?_eq_getElem hi,by rw [h1];exact List.getElem?_eq_getElem hi⟩
theorem cells_some {w:World} {b:Nat} {a:Addr} {n:Nat} {cs:List Value} (h:w.cells? b a n = some cs):cs.length = n ∧ ∀ i,i < n → ∃ v,cs[i]? = some v ∧ w.cell? (a.add i) = some v:=by
 unfold World.cells? at h
 split at h
 ·obtain ⟨h1,h2⟩:=mapM_all h
  refine ⟨by simpa using h1,fun i hi=>h2 i i (by simp [hi])⟩
 ·cases h
theorem cell_plain {w:World} {a:Addr} {v:Value} (h:w.cell? a = some v):a.spot = none ∧ a.block < w.heap.size:=by
 unfold World.cell? at h
 split at h
 ·rename_i c t z hb
  split at h
  ·cases h
  ·rename_i hs
   exact ⟨by simpa using hs,(Array.getElem?_eq_some_iff.1 hb).1⟩
 ·cases h
theorem addr_add {a:Addr} (hs:a.spot = none) (n:Nat):a.add n = ⟨a.block,a.off + n,none⟩:=by
 obtain ⟨b,o,s⟩:=a
 simp only at hs
 subst hs
 unfold Addr.add
 split <;> simp_all
def Reps (w0:World) (B:Nat) (φ:Phi) (xs:List AV) (cs:List Value):Prop:=xs.length = cs.length ∧ (∀ (k:Nat) x v,xs[k]? = some x → cs[k]? = some v → Rep w0 B φ x v) ∧ ∀ v ∈ cs,v.oneCell' = true
section
variable {w0:World} {B:Nat} {φ:Phi}
theorem Reps.nil:Reps w0 B φ [] []:=⟨rfl,fun k x v h=>by simp at h,fun v h=>by cases h⟩
theorem Reps.one {x:AV} {v:Value} (h:Rep w0 B φ x v) (hv:v.oneCell' = true):Reps w0 B φ [x] [v]:=by
 refine ⟨rfl,?_,fun u hu=>by simp at hu;rw [hu];exact hv⟩
 intro k y u hy hu
 cases k with
 | zero=>simp at hy hu;subst hy;subst hu;exact h
 | succ k=>simp at hy
theorem Reps.append {xs ys:List AV} {cs ds:List Value} (h:Reps w0 B φ xs cs) (k:Reps w0 B φ ys ds):Reps w0 B φ (xs ++ ys) (cs ++ ds):=by
 obtain ⟨h1,h2,h3⟩:=h
 obtain ⟨k1,k2,k3⟩:=k
 refine ⟨by simp [h1,k1],?_,fun v hv=>(List.mem_append.1 hv).elim (h3 v) (k3 v)⟩
 intro i x v hx hv
 by_cases hi:i < xs.length
 ·rw [List.getElem?_append_left hi] at hx
  rw [List.getElem?_append_left (by omega)] at hv
  exact h2 i x v hx hv
 ·rw [List.getElem?_append_right (by omega)] at hx
  rw [List.getElem?_append_right (by omega),← h1] at hv
  exact k2 _ x v hx hv
end
theorem drop_split {α:Type} (l:List α) (a b:Nat):l.drop a = (l.drop a).take b ++ l.drop (a + b):=by
 rw [← List.drop_drop]
 exact (List.take_append_drop b (l.drop a)).symm
theorem trod_rep {H:Type} {enc:TypeId × Value → H} {P:Program} {w:World} {b0:Nat} {sp:Nat → Bool} {hd:Bool} {φ:Phi}:∀ (n:Nat) (t:TypeId) (m:Nat) (cs:List Value) (d:DataW H) (ps:List MemPlace),
 argOk P n t = true → DataW.trod enc P w b0 sp hd m t cs = some (d,ps) → Reps w w.heap.size φ (avs P n t d) cs ∧ cs.length = P.cellsOf t
 | 0,t,m,cs,d,ps,hok,h=>by simp [argOk] at hok
 | n + 1,t,m,cs,d,ps,hok,h=>by
   have ih:=fun t m cs d ps=>trod_rep (enc:=enc) (P:=P) (w:=w) (b0:=b0) (sp:=sp) (hd:=hd) (φ:=φ) n t m cs d ps
   unfold argOk at hok
   split at hok
   ·rename_i ht
    obtain ⟨b,rfl,he⟩:=DataW.trod_bool ht h
    cases he
    simp only [avs,ht]
    exact ⟨.one (.v _) rfl,by simpa using (of_decide_eq_true hok).symm⟩
   ·rename_i k ht
    obtain ⟨x,rfl,he,_⟩:=DataW.trod_int ht h
    cases he
    simp only [avs,ht]
    exact ⟨.one (.v _) rfl,by simpa using (of_decide_eq_true hok).symm⟩
   ·rename_i ht
    obtain ⟨s,rfl,he,_⟩:=DataW.trod_string ht h
    cases he
    simp only [avs,ht]
    exact ⟨.one (.v _) rfl,by simpa using (of_decide_eq_true hok).symm⟩
   ·rename_i e ht
    simp only [Bool.and_eq_true,decide_eq_true_eq] at hok
    obtain ⟨⟨h1,h2⟩,h3⟩:=hok
    rcases DataW.trod_slice ht h with ⟨rfl,he⟩ | ⟨a,len,cap,elems,rest,m',rfl,rfl,he,_,hlc,_,hlen,hel,_,_⟩
    ·cases he
     simp only [avs,ht]
     refine ⟨.one ?_ rfl,by simpa using h1.symm⟩
     exact .ro _ 0 _ none 0 0 0 (fun _ _=>undef) (Nat.le_refl _) (fun hh=>by omega) (fun i hi=>by omega) (fun i k hi=>by omega) (fun i k hi=>by omega) (fun i k x hi=>by omega)
    ·cases he
     simp only [avs,ht]
     refine ⟨.one ?_ rfl,by simpa using h1.symm⟩
     have hone:∀ i,i < len → ∃ es x,w.cells? b0 (a.add (i * P.cellsOf e)) (P.cellsOf e) = some es ∧ elems[i]? = some x ∧ Reps w w.heap.size φ (avs P n e x.1) es ∧ es.length = P.cellsOf e:=by
      intro i hi
      have h4:=hel i hi
      rw [List.getElem?_eq_getElem (by omega)] at h4
      simp only [Option.bind_eq_some_iff] at h4
      obtain ⟨es,h5,h6⟩:=h4
      obtain ⟨h7,h8⟩:=ih e _ _ _ _ h3 (show DataW.trod enc P w b0 sp hd m' e es = some (elems[i].1,elems[i].2) from h6)
      exact ⟨es,elems[i],h5,List.getElem?_eq_getElem (by omega),h7,h8⟩
     have hgd:∀ i x,elems[i]? = some x → (elems.map (·.1)).getD i .nil = x.1:=by
      intro i x hx
      rw [List.getD_eq_getElem?_getD,List.getElem?_map,hx]
      rfl
     have hsp:0 < len → a = ⟨a.block,a.off,none⟩ ∧ a.block < w.heap.size:=by
      intro hl
      obtain ⟨es,x,q1,_,_,q4⟩:=hone 0 hl
      obtain ⟨v,_,q5⟩:=(cells_some q1).2 0 h2
      have h0:(a.add (0 * P.cellsOf e)).add 0 = a:=by simp [Addr.add]
      rw [h0] at q5
      obtain ⟨q6,q7⟩:=cell_plain q5
      exact ⟨by obtain ⟨b,o,s⟩:=a;simp only at q6;subst q6;rfl,q7⟩
     have hcell:∀ i k,i < len → k < P.cellsOf e → ∃ v x,w.cell? ⟨a.block,a.off + i * P.cellsOf e + k,none⟩ = some v ∧ v.oneCell' = true ∧ elems[i]? = some x ∧ ∀ y,(avs P n e x.1)[k]? = some y → Rep w w.heap.size φ y v:=by
      intro i k hi hk
      obtain ⟨es,x,q1,q2,q3,q4⟩:=hone i hi
      obtain ⟨v,q5,q6⟩:=(cells_some q1).2 k hk
      obtain ⟨q7,_⟩:=hsp (by omega)
      have q8:(a.add (i * P.cellsOf e)).add k = ⟨a.block,a.off + i * P.cellsOf e + k,none⟩:=by
       have q9:a.spot = none:=by rw [q7]
       rw [addr_add q9,addr_add rfl]
      rw [q8] at q6
      exact ⟨v,x,q6,q3.2.2 v (List.mem_of_getElem? q5),q2,fun y hy=>q3.2.1 k y v hy q5⟩
     have hc:∀ i k,∃ v,i < len → k < P.cellsOf e → w.cell? ⟨a.block,a.off + i * P.cellsOf e + k,none⟩ = some v:=by
      intro i k
      by_cases hik:i < len ∧ k < P.cellsOf e
      ·obtain ⟨v,x,q,_⟩:=hcell i k hik.1 hik.2
       exact ⟨v,fun _ _=>q⟩
      ·exact ⟨undef,fun p q=>absurd ⟨p,q⟩ hik⟩
     obtain ⟨c,hc'⟩:∃ c:Nat → Nat → Value,∀ i k,i < len → k < P.cellsOf e → w.cell? ⟨a.block,a.off + i * P.cellsOf e + k,none⟩ = some (c i k):=
      ⟨fun i k=>Classical.choose (hc i k),fun i k=>Classical.choose_spec (hc i k)⟩
     rw [List.length_map,hlen]
     refine .ro _ len _ (some a) cap a.block a.off c hlc (fun hl=>⟨by rw [← (hsp hl).1],(hsp hl).2⟩) ?_ hc' ?_ ?_
     ·intro i hi
      obtain ⟨es,x,q1,q2,q3,q4⟩:=hone i hi
      rw [hgd i x q2,q3.1,q4]
     ·intro i k hi hk
      obtain ⟨v,x,q,q2,_⟩:=hcell i k hi hk
      rw [hc' i k hi hk] at q
      cases q
      exact q2
     ·intro i k y hi hy
      obtain ⟨es,x,q1,q2,q3,q4⟩:=hone i hi
      rw [hgd i x q2] at hy
      have hk:k < P.cellsOf e:=by have:=(List.getElem?_eq_some_iff.1 hy).1;rw [q3.1,q4] at this;exact this
      obtain ⟨v,x',q,_,q5,q6⟩:=hcell i k hi hk
      rw [hc' i k hi hk] at q
      cases q
      rw [q2] at q5
      cases q5
      exact q6 y hy
   ·rename_i fs ht
    obtain ⟨xs,m',rfl,he,hl,hxl,hf⟩:=DataW.trod_struct ht h
    cases he
    simp only [avs,ht]
    refine ⟨?_,hl⟩
    have key:∀ (l:List Field) (j off:Nat),(∀ (i:Nat) f,l[i]? = some f → fs[j + i]? = some f) → l.length + j = xs.length → fieldsOk P (argOk P n) off l (P.cellsOf t) = true →
     Reps w w.heap.size φ ((l.zip ((xs.drop j).map (·.1))).flatMap fun x=>avs P n x.1.type x.2) (cs.drop off):=by
     intro l
     induction l with
     | nil=>
       intro j off _ hj hok
       simp only [fieldsOk,decide_eq_true_eq] at hok
       rw [List.drop_of_length_le (show cs.length ≤ off by omega)]
       exact .nil
     | cons f r ihr=>
       intro j off hfs hj hok
       simp only [fieldsOk,Bool.and_eq_true,decide_eq_true_eq] at hok
       obtain ⟨⟨q1,q2⟩,q3⟩:=hok
       have hjl:j < xs.length:=by simp at hj;omega
       have h4:=hf j f (by simpa using hfs 0 f rfl)
       rw [List.getElem?_eq_getElem hjl] at h4
       obtain ⟨h5,h6⟩:=ih f.type _ _ _ _ q2 (show DataW.trod enc P w b0 sp hd m' f.type _ = some (xs[j].1,xs[j].2) from h4)
       rw [q1] at h5
       rw [List.drop_eq_getElem_cons hjl]
       simp only [List.map_cons,List.zip_cons_cons,List.flatMap_cons]
       rw [drop_split cs off (P.cellsOf f.type)]
       exact h5.append (ihr (j + 1) _ (fun i g hg=>by have:=hfs (i + 1) g hg;rw [show j + 1 + i = j + (i + 1) by omega];exact this) (by simp at hj;omega) q3)
    have:=key fs.toList 0 0 (fun i f hf=>by simpa using hf) (by simpa using hxl.symm) hok
    simpa using this
   ·rename_i k e ht
    simp only [Bool.and_eq_true,decide_eq_true_eq] at hok
    obtain ⟨xs,m',rfl,he,hl,hxl,hf⟩:=DataW.trod_array ht h
    cases he
    simp only [avs,ht]
    refine ⟨?_,hl⟩
    have key:∀ (c j:Nat),c + j = xs.length → Reps w w.heap.size φ (((xs.drop j).map (·.1)).flatMap fun x=>avs P n e x) (cs.drop (j * P.cellsOf e)):=by
     intro c
     induction c with
     | zero=>
       intro j hj
       rw [List.drop_of_length_le (show cs.length ≤ j * P.cellsOf e by rw [hl,hok.1,← hxl,← hj,Nat.zero_add];exact Nat.le_refl _),List.drop_of_length_le (show xs.length ≤ j by omega)]
       exact .nil
     | succ c ihc=>
       intro j hj
       have hjl:j < xs.length:=by omega
       have h4:=hf j (by omega)
       rw [List.getElem?_eq_getElem hjl] at h4
       obtain ⟨h5,h6⟩:=ih e _ _ _ _ hok.2 (show DataW.trod enc P w b0 sp hd m' e _ = some (xs[j].1,xs[j].2) from h4)
       rw [List.drop_eq_getElem_cons hjl]
       simp only [List.map_cons,List.flatMap_cons]
       rw [drop_split cs (j * P.cellsOf e) (P.cellsOf e)]
       refine h5.append ?_
       have:=ihc (j + 1) (by omega)
       rw [Nat.succ_mul] at this
       exact this
    have:=key xs.length 0 (by omega)
    simpa using this
   ·cases hok
def avOf (P:Program) (n:Nat) (t:TypeId) {H:Type} (d:DataW H):AV:=match P.underlying t with
 | some (.struct _) | some (.array _ _)=>.agg (avs P n t d)
 | _=>(avs P n t d).headD .un
end Go.Eng

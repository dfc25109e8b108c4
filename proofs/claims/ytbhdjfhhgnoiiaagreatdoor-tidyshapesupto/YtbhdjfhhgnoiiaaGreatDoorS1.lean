/- Part 1 of a proof: an abstract memory for the translated code, and what the functions that the law reaches do over it. -/
import Derived.WalkKit
set_option linter.unusedSimpArgs false
set_option linter.unusedVariables false
namespace Go.Eng
open Go.RowKit
inductive AV where
 | un
 | v (x:Value)
 | agg (cs:List AV)
 | tup (cs:List AV)
 | ptr (id ver off:Nat)
 | sl (id ver off len sz:Nat)
 | ro (sz n:Nat) (f:Nat → List AV)
 | rp (cs:List AV)
 | fn (f:FuncId) (caps:List AV)
 | mp (id:Nat)
 | und
instance:Inhabited AV:=⟨.un⟩
inductive AO where
 | cells (ver:Nat) (cs:List AV)
 | froz (cs:List AV)
 | map (clock:Nat) (es:List (Nat × Value × AV))
 | fam (ver:Nat) (f:Nat → AV) (k:Nat)
def AO.ver:AO → Nat
 | .cells ver _=>ver
 | .froz _=>0
 | .map _ _=>0
 | .fam ver _ _=>ver
@[simp] theorem AO.ver_fam (n:Nat) (f:Nat → AV) (k:Nat):(AO.fam n f k).ver = n:=rfl
def AO.isFam:AO → Bool
 | .fam _ _ _=>true
 | _=>false
def Sib (o o':AO):Prop:=∃ v v' f k k',o = .fam v f k ∧ o' = .fam v' f k'
theorem Sib.no {o o':AO} (h:Sib o o'):o.isFam = true ∧ o'.isFam = true:=by
 obtain ⟨v,v',f,k,k',rfl,rfl⟩:=h
 exact ⟨rfl,rfl⟩
theorem Sib.symm {o o':AO} (h:Sib o o'):Sib o' o:=by
 obtain ⟨v,v',f,k,k',rfl,rfl⟩:=h
 exact ⟨_,_,f,_,_,rfl,rfl⟩
@[simp] theorem AO.ver_cells (n:Nat) (cs:List AV):(AO.cells n cs).ver = n:=rfl
@[simp] theorem AO.ver_froz (cs:List AV):(AO.froz cs).ver = 0:=rfl
@[simp] theorem AO.ver_map (c:Nat) (es:List (Nat × Value × AV)):(AO.map c es).ver = 0:=rfl
abbrev AH:=List AO
abbrev Phi:=Nat → Nat → Option (Nat × Nat × Nat)
def AV.cell:AV → Bool
 | .v x=>x.oneCell'
 | .ptr .. | .sl .. | .ro .. | .rp .. | .fn .. | .mp ..=>true
 | _=>false
inductive Rep (w0:World) (B:Nat) (φ:Phi):AV → Value → Prop where
 | un (v:Value):Rep w0 B φ .un v
 | v (x:Value):Rep w0 B φ (.v x) x
 | agg (cs:List AV) (vs:Array Value) (hl:cs.length = vs.size) (h:∀ (k:Nat) x v,cs[k]? = some x → vs[k]? = some v → Rep w0 B φ x v):Rep w0 B φ (.agg cs) (.agg vs)
 | tup (cs:List AV) (vs:Array Value) (hl:cs.length = vs.size) (h:∀ (k:Nat) x v,cs[k]? = some x → vs[k]? = some v → Rep w0 B φ x v):Rep w0 B φ (.tup cs) (.tuple vs)
 | ptr (id ver off b:Nat) (n:Nat × Nat) (h:φ id ver = some (b,n)):Rep w0 B φ (.ptr id ver off) (.pointer (some ⟨b,off,none⟩))
 | sl (id ver off len sz b:Nat) (n:Nat × Nat) (cap:Nat) (h:φ id ver = some (b,n)) (h1:off + len * sz ≤ n.1) (h2:n.1 ≤ off + cap * sz) (h3:len ≤ cap) (h4:off + cap * sz ≤ n.2):Rep w0 B φ (.sl id ver off len sz) (.slice (some ⟨b,off,none⟩) len cap)
 | ro (sz n:Nat) (f:Nat → List AV) (A:Option Addr) (cap b o:Nat) (c:Nat → Nat → Value) (hcap:n ≤ cap) (hA:0 < n → A = some ⟨b,o,none⟩ ∧ b < B)
  (hf:∀ i,i < n → (f i).length = sz) (hc:∀ i k,i < n → k < sz → w0.cell? ⟨b,o + i * sz + k,none⟩ = some (c i k)) (h1:∀ i k,i < n → k < sz → (c i k).oneCell' = true)
  (h:∀ (i k:Nat) x,i < n → (f i)[k]? = some x → Rep w0 B φ x (c i k)):Rep w0 B φ (.ro sz n f) (.slice A n cap)
 | rp (cs:List AV) (b o:Nat) (c:Nat → Value) (hb:b < B) (hc:∀ k,k < cs.length → w0.cell? ⟨b,o + k,none⟩ = some (c k)) (h1:∀ k,k < cs.length → (c k).oneCell' = true)
  (h:∀ (k:Nat) x,cs[k]? = some x → Rep w0 B φ x (c k)):Rep w0 B φ (.rp cs) (.pointer (some ⟨b,o,none⟩))
 | fn (f:FuncId) (caps:List AV) (vs:Array Value) (hl:caps.length = vs.size) (h:∀ (k:Nat) x v,caps[k]? = some x → vs[k]? = some v → Rep w0 B φ x v):Rep w0 B φ (.fn f caps) (.func (.func f) #[] vs)
 | mp (id b:Nat) (n:Nat × Nat) (h:φ id 0 = some (b,n)):Rep w0 B φ (.mp id) (.map (some b))
 | und:Rep w0 B φ .und undef
def Ext (φ φ':Phi):Prop:=∀ id ver r,φ id ver = some r → φ' id ver = some r
theorem Ext.refl (φ:Phi):Ext φ φ:=fun _ _ _ h=>h
theorem Ext.trans {a b c:Phi} (h:Ext a b) (k:Ext b c):Ext a c:=fun _ _ _ x=>k _ _ _ (h _ _ _ x)
section
variable {w0:World} {B:Nat} {φ φ':Phi}
theorem Rep.ext {x:AV} {v:Value} (h:Rep w0 B φ x v) (he:Ext φ φ'):Rep w0 B φ' x v:=by
 induction h with
 | un v=>exact .un v
 | v x=>exact .v x
 | agg cs vs hl _ ih=>exact .agg cs vs hl ih
 | tup cs vs hl _ ih=>exact .tup cs vs hl ih
 | ptr id ver off b n h=>exact .ptr id ver off b n (he _ _ _ h)
 | sl id ver off len sz b n cap h h1 h2 h3 h4=>exact .sl id ver off len sz b n cap (he _ _ _ h) h1 h2 h3 h4
 | ro sz n f A cap b o c hcap hA hf hc h1 _ ih=>exact .ro sz n f A cap b o c hcap hA hf hc h1 ih
 | rp cs b o c hb hc h1 _ ih=>exact .rp cs b o c hb hc h1 ih
 | fn f caps vs hl _ ih=>exact .fn f caps vs hl ih
 | mp id b n h=>exact .mp id b n (he _ _ _ h)
 | und=>exact .und
theorem Rep.oneCell {x:AV} {v:Value} (h:Rep w0 B φ x v) (hx:x.cell = true):v.oneCell' = true:=by
 cases h <;> first | exact hx | rfl | (simp [AV.cell] at hx)
def ofV:Value → AV
 | .agg cs=>.agg (cs.toList.map .v)
 | x=>.v x
theorem rep_ofV (x:Value):Rep w0 B φ (ofV x) x:=by
 unfold ofV
 split
 ·rename_i cs
  refine .agg _ _ (by simp) ?_
  intro k x v hx hv
  simp only [List.getElem?_map,Array.getElem?_toList] at hx
  rw [hv] at hx
  simp only [Option.map_some,Option.some.injEq] at hx
  subst hx
  exact .v _
 ·exact .v _
end
structure Cx where
 P:Program
 w0:World
 B:Nat
 G:Nat → Option (List AV)
 hB:B ≤ w0.heap.size
 hG:∀ (φ:Phi) g cs,G g = some cs → Rep w0 B φ (.rp cs) (.pointer (some ⟨g,0,none⟩))
def RepO (cx:Cx) (φ:Phi) (w:World) (b:Nat) (n:Nat × Nat):AO → Prop
 | .cells _ cs=>n = (cs.length,n.2) ∧ ∃ (ccs:Array Value) (T:TypeId),w.heap[b]? = some (.cells ccs T (0,0)) ∧ ccs.size = n.2 ∧ cs.length ≤ n.2 ∧ (∀ (k:Nat) x v,cs[k]? = some x → ccs[k]? = some v → Rep cx.w0 cx.B φ x v) ∧ ∀ (k:Nat) v,k < cs.length → ccs[k]? = some v → v.oneCell' = true
 | .froz cs=>n = (cs.length,n.2) ∧ ∃ (ccs:Array Value) (T:TypeId) (fz:Nat × Nat),w.heap[b]? = some (.cells ccs T fz) ∧ ccs.size = n.2 ∧ cs.length ≤ n.2 ∧ (∀ (k:Nat) x v,cs[k]? = some x → ccs[k]? = some v → Rep cx.w0 cx.B φ x v) ∧ ∀ (k:Nat) v,k < cs.length → ccs[k]? = some v → v.oneCell' = true
 | .fam _ f k=>n = (k,n.2) ∧ ∃ (ccs:Array Value) (T:TypeId),w.heap[b]? = some (.cells ccs T (0,0)) ∧ ccs.size = n.2 ∧ k ≤ n.2 ∧ ∀ (j:Nat) v,j < k → ccs[j]? = some v → Rep cx.w0 cx.B φ (f j) v ∧ v.oneCell' = true
 | .map clock es=>∃ (en:Array MapEntry),w.heap[b]? = some (.map en clock) ∧ en.size = es.length ∧ ∀ (i:Nat) e x,en[i]? = some e → es[i]? = some x → e.born = x.1 ∧ e.key = x.2.1 ∧ Rep cx.w0 cx.B φ x.2.2 e.val
structure Blw (B:Nat) (w w':World):Prop where
 os:w'.os = w.os
 tape:w'.tape = w.tape
 output:w'.output = w.output
 size:w.heap.size ≤ w'.heap.size
 block:∀ k,k < B → w'.heap[k]? = w.heap[k]?
 drawn:w.drawn ≤ w'.drawn
theorem Blw.refl (B:Nat) (w:World):Blw B w w:=⟨rfl,rfl,rfl,Nat.le_refl _,fun _ _=>rfl,Nat.le_refl _⟩
theorem Blw.trans {B:Nat} {a b c:World} (h:Blw B a b) (k:Blw B b c):Blw B a c:=
 ⟨k.os.trans h.os,k.tape.trans h.tape,k.output.trans h.output,Nat.le_trans h.size k.size,fun i hi=>(k.block i hi).trans (h.block i hi),Nat.le_trans h.drawn k.drawn⟩
theorem Blw.drew {B:Nat} {a w:World} (h:Blw B a w):Blw B a w.drew:=⟨h.os,h.tape,h.output,h.size,h.block,Nat.le_trans h.drawn (Nat.le_succ _)⟩
theorem Blw.below {B:Nat} {w w':World} (h:Blw B w w'):Below B w w':=⟨h.os,h.tape,h.output,h.size,h.block⟩
theorem Blw.cell {B:Nat} {w w':World} (h:Blw B w w') {p:Addr} (hp:p.block < B):w'.cell? p = w.cell? p:=h.below.cell hp
structure RepW (cx:Cx) (φ:Phi) (h:AH) (w:World):Prop where
 below:Blw cx.B cx.w0 w
 obj:∀ (id:Nat) o b n,h[id]? = some o → φ id o.ver = some (b,n) → RepO cx φ w b n o
 inj:∀ (id id':Nat) o o' b n n',h[id]? = some o → h[id']? = some o' → φ id o.ver = some (b,n) → φ id' o'.ver = some (b,n') → id = id' ∨ Sib o o'
 dom:∀ (id ver:Nat) r,φ id ver = some r → ∃ o,h[id]? = some o ∧ ver ≤ o.ver
 hi:∀ (id ver b:Nat) n,φ id ver = some (b,n) → cx.B ≤ b ∧ b < w.heap.size
theorem RepW.hB {cx:Cx} {φ:Phi} {h:AH} {w:World} (hw:RepW cx φ h w):cx.B ≤ w.heap.size:=Nat.le_trans cx.hB hw.below.size
structure Step (φ:Phi) (h:AH) (w:World) (φ':Phi) (h':AH) (w':World):Prop where
 ext:Ext φ φ'
 keep:∀ b,b < w.heap.size → (∀ (id:Nat) o n,h[id]? = some o → φ id o.ver ≠ some (b,n)) → w'.heap[b]? = w.heap[b]?
 cur:∀ (id:Nat) o b n,h'[id]? = some o → φ' id o.ver = some (b,n) → b < w.heap.size → ∃ (id0:Nat) (o0:AO) (n0:Nat × Nat),h[id0]? = some o0 ∧ φ id0 o0.ver = some (b,n0)
 size:w.heap.size ≤ w'.heap.size
 len:h.length ≤ h'.length
 vir:∀ id,id < h.length → (∀ v,φ id v = none) → ∀ v,φ' id v = none
theorem Step.refl (φ:Phi) (h:AH) (w:World):Step φ h w φ h w:=⟨Ext.refl _,fun _ _ _=>rfl,fun id o b n ho hn _=>⟨id,o,n,ho,hn⟩,Nat.le_refl _,Nat.le_refl _,fun _ _ h=>h⟩
theorem Step.trans {φ φ1 φ2:Phi} {h h1 h2:AH} {w w1 w2:World} (a:Step φ h w φ1 h1 w1) (c:Step φ1 h1 w1 φ2 h2 w2):Step φ h w φ2 h2 w2:=by
 refine ⟨a.ext.trans c.ext,?_,?_,Nat.le_trans a.size c.size,Nat.le_trans a.len c.len,fun id hid hv=>c.vir id (by have:=a.len;omega) (a.vir id hid hv)⟩
 ·intro b hb hn
  rw [c.keep b (by have:=a.size;omega) ?_]
  ·exact a.keep b hb hn
  ·intro id o n ho he
   obtain ⟨id0,o0,n0,h0,h1⟩:=a.cur id o b n ho he hb
   exact hn id0 o0 n0 h0 h1
 ·intro id o b n ho he hb
  obtain ⟨id1,o1,n1,h1,h2⟩:=c.cur id o b n ho he (by have:=a.size;omega)
  exact a.cur id1 o1 b n1 h1 h2 hb
structure XSt where
 fr:List AV
 h:AH
structure RepSt (cx:Cx) (φ:Phi) (s:XSt) (a:Act) (w:World):Prop where
 len:s.fr.length = a.tmps.size
 slot:∀ (t:Nat) x v,s.fr[t]? = some x → a.tmps[t]? = some v → Rep cx.w0 cx.B φ x v
 defers:a.defers = []
 world:RepW cx φ s.h w
inductive XO where
 | t (n:Nat)
 | k (v:Value)
 | g (n:Nat)
 | f (n:FuncId)
def opd:Operand → XO
 | .tmp t=>.t t
 | .const v=>.k v
 | .global g=>.g g
 | .func f=>.f f
def XSt.ev (cx:Cx) (s:XSt):XO → AV
 | .t n=>s.fr.getD n .un
 | .k v=>ofV v
 | .g g=>match cx.G g with
   | some cs=>.rp cs
   | none=>.un
 | .f f=>.fn f []
section
variable {cx:Cx} {φ:Phi} {s:XSt} {a:Act} {w:World}
theorem RepSt.ev (hs:RepSt cx φ s a w) (x:Operand):Rep cx.w0 cx.B φ (s.ev cx (opd x)) (a.eval x):=by
 cases x with
 | tmp t=>
   simp only [opd,XSt.ev,Act.eval,List.getD_eq_getElem?_getD,Array.getD_eq_getD_getElem?]
   cases h1:s.fr[t]? with
   | none=>simp only [Option.getD_none];exact .un _
   | some x=>
     have hlt:t < a.tmps.size:=by rw [← hs.len];exact (List.getElem?_eq_some_iff.1 h1).1
     rw [Array.getElem?_eq_getElem hlt]
     simp only [Option.getD_some]
     exact hs.slot t x _ h1 (Array.getElem?_eq_getElem hlt)
 | const v=>exact rep_ofV v
 | global g=>
   simp only [opd,XSt.ev,Act.eval]
   cases h1:cx.G g with
   | none=>exact .un _
   | some cs=>exact cx.hG φ g cs h1
 | func f=>exact .fn f [] #[] rfl (fun k x v h=>by simp at h)
theorem RepSt.put (hs:RepSt cx φ s a w) {φ':Phi} {h':AH} {w':World} (he:Ext φ φ') (hw:RepW cx φ' h' w') (d:Option Nat) {x:AV} {v:Value} (hx:Rep cx.w0 cx.B φ' x v) :
 RepSt cx φ' ⟨match d with | some t=>s.fr.set t x | none=>s.fr,h'⟩ (a.put d v) w':=by
 cases d with
 | none=>exact ⟨hs.len,fun t x v h1 h2=>(hs.slot t x v h1 h2).ext he,hs.defers,hw⟩
 | some t=>
   refine ⟨by simp [Act.put,hs.len],?_,hs.defers,hw⟩
   intro t' y u h1 h2
   simp only [Act.put] at h2
   by_cases ht:t = t'
   ·subst ht
    have hlt:t < a.tmps.size:=by
     have:=(Array.getElem?_eq_some_iff.1 h2).1
     simpa using this
    rw [Array.getElem?_setIfInBounds_self_of_lt hlt] at h2
    rw [List.getElem?_set_self (by rw [hs.len];exact hlt)] at h1
    simp only [Option.some.injEq] at h1 h2
    subst h1;subst h2
    exact hx
   ·rw [Array.getElem?_setIfInBounds_ne ht] at h2
    rw [List.getElem?_set_ne ht] at h1
    exact (hs.slot t' y u h1 h2).ext he
end
end Go.Eng
namespace Go.Eng
open Go.RowKit
variable {cx:Cx} {φ φ':Phi} {h:AH} {w w':World} {b:Nat} {n:Nat × Nat}
theorem RepO.mono {o:AO} (hr:RepO cx φ w b n o) (he:Ext φ φ') (hb:w'.heap[b]? = w.heap[b]?):RepO cx φ' w' b n o:=by
 cases o with
 | cells ver cs=>
   obtain ⟨h1,ccs,T,h2,h3,h5,h4,h6⟩:=hr
   exact ⟨h1,ccs,T,hb.trans h2,h3,h5,fun k x v hx hv=>(h4 k x v hx hv).ext he,h6⟩
 | froz cs=>
   obtain ⟨h1,ccs,T,fz,h2,h3,h5,h4,h6⟩:=hr
   exact ⟨h1,ccs,T,fz,hb.trans h2,h3,h5,fun k x v hx hv=>(h4 k x v hx hv).ext he,h6⟩
 | map clock es=>
   obtain ⟨en,h1,h2,h3⟩:=hr
   exact ⟨en,hb.trans h1,h2,fun i e x hx hv=>⟨(h3 i e x hx hv).1,(h3 i e x hx hv).2.1,(h3 i e x hx hv).2.2.ext he⟩⟩
 | fam ver f k=>
   obtain ⟨h1,ccs,T,h2,h3,h5,h4⟩:=hr
   exact ⟨h1,ccs,T,hb.trans h2,h3,h5,fun j v hj hv=>⟨(h4 j v hj hv).1.ext he,(h4 j v hj hv).2⟩⟩
structure Adds (w:World) (obj:Obj) (w':World):Prop where
 heap:w'.heap = w.heap.push obj
 os:w'.os = w.os
 tape:w'.tape = w.tape
 output:w'.output = w.output
 drawn:w.drawn ≤ w'.drawn
theorem Adds.alloc (w:World) (obj:Obj):Adds w obj (w.alloc obj):=⟨rfl,rfl,rfl,rfl,Nat.le_refl _⟩
theorem Adds.size {obj:Obj} (ha:Adds w obj w'):w'.heap.size = w.heap.size + 1:=by rw [ha.heap];simp
theorem Adds.new {obj:Obj} (ha:Adds w obj w'):w'.heap[w.heap.size]? = some obj:=by rw [ha.heap];simp
theorem Adds.old {obj:Obj} (ha:Adds w obj w') {k:Nat} (hk:k < w.heap.size):w'.heap[k]? = w.heap[k]?:=by rw [ha.heap,Array.getElem?_push,if_neg (by omega)]
def newPhi (φ:Phi) (id ver b:Nat) (n:Nat × Nat):Phi:=fun i v=>if i = id ∧ v = ver then some (b,n) else φ i v
theorem newPhi_self (φ:Phi) (id ver b:Nat) (n:Nat × Nat):newPhi φ id ver b n id ver = some (b,n):=by simp [newPhi]
theorem newPhi_ext {id ver:Nat} (hn:φ id ver = none) (b:Nat) (n:Nat × Nat):Ext φ (newPhi φ id ver b n):=by
 intro i v r hr
 unfold newPhi
 split
 ·rename_i hc
  rw [hc.1,hc.2,hn] at hr
  cases hr
 ·exact hr
theorem RepW.none_of (hw:RepW cx φ h w) {id ver:Nat} (hn:∀ o,h[id]? = some o → o.ver < ver):φ id ver = none:=by
 cases he:φ id ver with
 | none=>rfl
 | some r=>
   obtain ⟨o,ho,hv⟩:=hw.dom _ _ _ he
   have:=hn o ho
   omega
theorem RepW.inj1 (hw:RepW cx φ h w) {id id':Nat} {o o':AO} {b:Nat} {n n':Nat × Nat} (hf:o.isFam = false) (ho:h[id]? = some o) (ho':h[id']? = some o') (hφ:φ id o.ver = some (b,n)) (hφ':φ id' o'.ver = some (b,n')):id = id':=by
 rcases hw.inj id id' o o' b n n' ho ho' hφ hφ' with h1 | h1
 ·exact h1
 ·rw [h1.no.1] at hf;cases hf
theorem RepW.inj2 (hw:RepW cx φ h w) {id id':Nat} {o o':AO} {b:Nat} {n n':Nat × Nat} (hf:o'.isFam = false) (ho:h[id]? = some o) (ho':h[id']? = some o') (hφ:φ id o.ver = some (b,n)) (hφ':φ id' o'.ver = some (b,n')):id = id':=
 (hw.inj1 hf ho' ho hφ' hφ).symm
theorem RepW.new (hw:RepW cx φ h w) (hB:cx.B ≤ w.heap.size) {obj:Obj} (ha:Adds w obj w') (o:AO) (ho:o.ver = 0) (n:Nat × Nat)
 (hr:∀ φ',Ext φ φ' → RepO cx φ' w' w.heap.size n o) :
 RepW cx (newPhi φ h.length 0 w.heap.size n) (h ++ [o]) w' ∧ Step φ h w (newPhi φ h.length 0 w.heap.size n) (h ++ [o]) w':=by
 have hnone:∀ ver,φ h.length ver = none:=fun ver=>hw.none_of (fun o ho=>by simp at ho)
 have hext:=newPhi_ext (hnone 0) w.heap.size n
 have hget:∀ (id:Nat) o',(h ++ [o])[id]? = some o' → (h[id]? = some o' ∧ id < h.length) ∨ (id = h.length ∧ o' = o):=by
  intro id o' hg
  rw [List.getElem?_append] at hg
  split at hg
  ·rename_i hlt;exact .inl ⟨hg,hlt⟩
  ·rename_i hlt
   have:id - h.length = 0:=by
    cases hk:id - h.length with
    | zero=>rfl
    | succ k=>rw [hk] at hg;simp at hg
   rw [this] at hg
   simp at hg
   exact .inr ⟨by omega,hg.symm⟩
 have hold:∀ (id ver:Nat),id < h.length → newPhi φ h.length 0 w.heap.size n id ver = φ id ver:=by
  intro id ver hlt
  unfold newPhi
  rw [if_neg (by omega)]
 have hnew:∀ (ver b:Nat) m,newPhi φ h.length 0 w.heap.size n h.length ver = some (b,m) → ver = 0 ∧ b = w.heap.size ∧ m = n:=by
  intro ver b m he
  unfold newPhi at he
  split at he
  ·rename_i hc
   simp at he
   exact ⟨hc.2,he.1.symm,he.2.symm⟩
  ·rw [hnone] at he;cases he
 refine ⟨⟨?_,?_,?_,?_,?_⟩,hext,?_,?_,by rw [ha.size];omega,by simp,fun id hid hv v=>by rw [hold id v hid];exact hv v⟩
 ·exact hw.below.trans ⟨ha.os,ha.tape,ha.output,by rw [ha.size];omega,fun k hk=>ha.old (by omega),ha.drawn⟩
 ·intro id o' b m hg he
  rcases hget id o' hg with ⟨h1,h2⟩ | ⟨rfl,rfl⟩
  ·rw [hold id _ h2] at he
   exact (hw.obj id o' b m h1 he).mono hext (ha.old (hw.hi _ _ _ _ he).2)
  ·obtain ⟨_,rfl,rfl⟩:=hnew _ _ _ he
   exact hr _ hext
 ·intro id id' o1 o2 b m m' hg hg' he he'
  rcases hget id o1 hg with ⟨h1,h2⟩ | ⟨rfl,rfl⟩ <;> rcases hget id' o2 hg' with ⟨h3,h4⟩ | ⟨rfl,rfl⟩
  ·rw [hold _ _ h2] at he
   rw [hold _ _ h4] at he'
   exact hw.inj id id' o1 o2 b m m' h1 h3 he he'
  ·rw [hold _ _ h2] at he
   obtain ⟨_,rfl,rfl⟩:=hnew _ _ _ he'
   have:=(hw.hi _ _ _ _ he).2
   omega
  ·rw [hold _ _ h4] at he'
   obtain ⟨_,rfl,rfl⟩:=hnew _ _ _ he
   have:=(hw.hi _ _ _ _ he').2
   omega
  ·exact .inl rfl
 ·intro id ver r he
  by_cases hlt:id < h.length
  ·rw [hold _ _ hlt] at he
   obtain ⟨o',h1,h2⟩:=hw.dom _ _ _ he
   exact ⟨o',by rw [List.getElem?_append,if_pos hlt];exact h1,h2⟩
  ·by_cases hid:id = h.length
   ·subst hid
    obtain ⟨rb,rn⟩:=r
    obtain ⟨rfl,_⟩:=hnew _ _ _ he
    exact ⟨o,by simp,by omega⟩
   ·have:φ id ver = none:=hw.none_of (fun o ho=>by rw [List.getElem?_eq_none (by omega)] at ho;cases ho)
    unfold newPhi at he
    rw [if_neg (by omega),this] at he
    cases he
 ·intro id ver b m he
  rw [ha.size]
  unfold newPhi at he
  split at he
  ·simp at he
   obtain ⟨rfl,_⟩:=he
   have:=hw.hB
   omega
  ·have:=hw.hi _ _ _ _ he
   omega
 ·intro b hb _
  exact ha.old hb
 ·intro id o' b m hg he hb
  rcases hget id o' hg with ⟨h1,h2⟩ | ⟨rfl,rfl⟩
  ·rw [hold _ _ h2] at he
   exact ⟨id,o',m,h1,he⟩
  ·obtain ⟨_,rfl,_⟩:=hnew _ _ _ he
   omega
structure Puts (w:World) (b:Nat) (obj:Obj) (w':World):Prop where
 size:w'.heap.size = w.heap.size
 at_:w'.heap[b]? = some obj
 other:∀ k,k ≠ b → w'.heap[k]? = w.heap[k]?
 os:w'.os = w.os
 tape:w'.tape = w.tape
 output:w'.output = w.output
 drawn:w.drawn ≤ w'.drawn
theorem Puts.setRow {g:Nat} {old cs:Array Value} {T:TypeId} (hg:w.heap[g]? = some (.cells old T (0,0))):Puts w g (.cells cs T (0,0)) (w.setRow g cs):=by
 refine ⟨size_setRow _ _ _,setRow_heap w g old cs T _ hg,?_,rfl,rfl,rfl,Nat.le_refl _⟩
 intro k hk
 simp only [World.setRow,Array.getElem?_modify]
 rw [if_neg (by omega)]
theorem RepW.put (hw:RepW cx φ h w) {id:Nat} {o o':AO} (ho:h[id]? = some o) (hof:o.isFam = false) (hv:o'.ver = o.ver) (hφ:φ id o.ver = some (b,n)) {obj:Obj} (hp:Puts w b obj w') (hr:RepO cx φ w' b n o') :
 RepW cx φ (h.set id o') w' ∧ Step φ h w φ (h.set id o') w':=by
 have hlt:=(List.getElem?_eq_some_iff.1 ho).1
 have hbB:=(hw.hi _ _ _ _ hφ)
 have hget:∀ (i:Nat) x,(h.set id o')[i]? = some x → (i = id ∧ x = o') ∨ (i ≠ id ∧ h[i]? = some x):=by
  intro i x hx
  by_cases hi:id = i
  ·subst hi
   rw [List.getElem?_set_self hlt] at hx
   simp at hx
   exact .inl ⟨rfl,hx.symm⟩
  ·rw [List.getElem?_set_ne hi] at hx
   exact .inr ⟨fun e=>hi e.symm,hx⟩
 refine ⟨⟨?_,?_,?_,?_,?_⟩,Ext.refl _,?_,?_,by rw [hp.size];omega,by simp,fun _ _ hv=>hv⟩
 ·exact hw.below.trans ⟨hp.os,hp.tape,hp.output,by rw [hp.size];omega,fun k hk=>hp.other k (by omega),hp.drawn⟩
 ·intro i x b' m hx he
  rcases hget i x hx with ⟨rfl,rfl⟩ | ⟨h1,h2⟩
  ·rw [hv,hφ] at he
   simp at he
   obtain ⟨rfl,rfl⟩:=he
   exact hr
  ·refine (hw.obj i x b' m h2 he).mono (Ext.refl _) (hp.other _ ?_)
   rintro rfl
   exact h1 (hw.inj2 hof h2 ho he hφ)
 ·intro i j x y b' m m' hx hy he he'
  rcases hget i x hx with ⟨rfl,rfl⟩ | ⟨h1,h2⟩ <;> rcases hget j y hy with ⟨rfl,rfl⟩ | ⟨h3,h4⟩
  ·exact .inl rfl
  ·rw [hv] at he
   exact .inl (hw.inj1 hof ho h4 he he')
  ·rw [hv] at he'
   exact .inl (hw.inj2 hof h2 ho he he')
  ·exact hw.inj i j x y b' m m' h2 h4 he he'
 ·intro i ver r he
  obtain ⟨x,h1,h2⟩:=hw.dom _ _ _ he
  by_cases hi:id = i
  ·subst hi
   rw [ho] at h1
   simp at h1
   subst h1
   exact ⟨o',by rw [List.getElem?_set_self hlt],by omega⟩
  ·exact ⟨x,by rw [List.getElem?_set_ne hi];exact h1,h2⟩
 ·intro i ver b' m he
  rw [hp.size]
  exact hw.hi _ _ _ _ he
 ·intro k hk hn
  refine hp.other k ?_
  rintro rfl
  exact hn id o n ho hφ
 ·intro i x b' m hx he _
  rcases hget i x hx with ⟨rfl,rfl⟩ | ⟨h1,h2⟩
  ·rw [hv] at he
   exact ⟨_,o,m,ho,he⟩
  ·exact ⟨i,x,m,h2,he⟩
theorem RepW.grow (hw:RepW cx φ h w) (hB:cx.B ≤ w.heap.size) {id ver:Nat} {cs cs':List AV} (ho:h[id]? = some (.cells ver cs)) (hφ:φ id ver = some (b,n)) {b':Nat} {n':Nat × Nat}
 (hb':b' = b ∨ w.heap.size ≤ b') (hlt':b' < w'.heap.size) (hsz:w.heap.size ≤ w'.heap.size) (hos:w'.os = w.os) (htp:w'.tape = w.tape) (hou:w'.output = w.output) (hdr:w.drawn ≤ w'.drawn)
 (hk:∀ k,k < w.heap.size → k ≠ b → w'.heap[k]? = w.heap[k]?) (hr:∀ φ',Ext φ φ' → RepO cx φ' w' b' n' (.cells (ver + 1) cs')) :
 RepW cx (newPhi φ id (ver + 1) b' n') (h.set id (.cells (ver + 1) cs')) w' ∧ Step φ h w (newPhi φ id (ver + 1) b' n') (h.set id (.cells (ver + 1) cs')) w':=by
 have hlt:=(List.getElem?_eq_some_iff.1 ho).1
 have hbB:=(hw.hi _ _ _ _ hφ)
 have hnone:φ id (ver + 1) = none:=hw.none_of (fun o h1=>by rw [ho] at h1;simp at h1;subst h1;simp)
 have hext:=newPhi_ext hnone b' n'
 have hget:∀ (i:Nat) x,(h.set id (.cells (ver + 1) cs'))[i]? = some x → (i = id ∧ x = .cells (ver + 1) cs') ∨ (i ≠ id ∧ h[i]? = some x):=by
  intro i x hx
  by_cases hi:id = i
  ·subst hi
   rw [List.getElem?_set_self hlt] at hx
   simp at hx
   exact .inl ⟨rfl,hx.symm⟩
  ·rw [List.getElem?_set_ne hi] at hx
   exact .inr ⟨fun e=>hi e.symm,hx⟩
 have hold:∀ (i v:Nat),i ≠ id → newPhi φ id (ver + 1) b' n' i v = φ i v:=by
  intro i v hi
  unfold newPhi
  rw [if_neg (by omega)]
 have hself:∀ (bb:Nat) m,newPhi φ id (ver + 1) b' n' id (ver + 1) = some (bb,m) → bb = b' ∧ m = n':=by
  intro bb m he
  rw [newPhi_self] at he
  simp at he
  exact ⟨he.1.symm,he.2.symm⟩
 refine ⟨⟨?_,?_,?_,?_,?_⟩,hext,?_,?_,hsz,by simp,fun i _ hv v=>by rw [hold i v (by rintro rfl;rw [hv] at hφ;cases hφ)];exact hv v⟩
 ·exact hw.below.trans ⟨hos,htp,hou,hsz,fun k hkB=>hk k (by omega) (by omega),hdr⟩
 ·intro i x bb m hx he
  rcases hget i x hx with ⟨rfl,rfl⟩ | ⟨h1,h2⟩
  ·obtain ⟨rfl,rfl⟩:=hself _ _ he
   exact hr _ hext
  ·rw [hold _ _ h1] at he
   refine (hw.obj i x bb m h2 he).mono hext (hk _ (hw.hi _ _ _ _ he).2 ?_)
   rintro rfl
   exact h1 (hw.inj2 rfl h2 ho he hφ)
 ·intro i j x y bb m m' hx hy he he'
  rcases hget i x hx with ⟨rfl,rfl⟩ | ⟨h1,h2⟩ <;> rcases hget j y hy with ⟨rfl,rfl⟩ | ⟨h3,h4⟩
  ·exact .inl rfl
  ·obtain ⟨rfl,rfl⟩:=hself _ _ he
   rw [hold _ _ h3] at he'
   rcases hb' with rfl | hb'
   ·exact (h3 (hw.inj2 rfl h4 ho he' hφ)).elim
   ·have:=(hw.hi _ _ _ _ he').2
    omega
  ·obtain ⟨rfl,rfl⟩:=hself _ _ he'
   rw [hold _ _ h1] at he
   rcases hb' with rfl | hb'
   ·exact (h1 (hw.inj2 rfl h2 ho he hφ)).elim
   ·have:=(hw.hi _ _ _ _ he).2
    omega
  ·rw [hold _ _ h1] at he
   rw [hold _ _ h3] at he'
   exact hw.inj i j x y bb m m' h2 h4 he he'
 ·intro i v r he
  by_cases hi:i = id
  ·subst hi
   refine ⟨_,by rw [List.getElem?_set_self hlt],?_⟩
   unfold newPhi at he
   split at he
   ·rename_i hc;simp [hc.2]
   ·obtain ⟨x,h1,h2⟩:=hw.dom _ _ _ he
    rw [ho] at h1
    simp at h1
    subst h1
    simp at h2 ⊢
    omega
  ·rw [hold _ _ hi] at he
   obtain ⟨x,h1,h2⟩:=hw.dom _ _ _ he
   exact ⟨x,by rw [List.getElem?_set_ne (fun e=>hi e.symm)];exact h1,h2⟩
 ·intro i v bb m he
  unfold newPhi at he
  split at he
  ·simp at he
   obtain ⟨rfl,_⟩:=he
   rcases hb' with h1 | h1 <;> omega
  ·have:=hw.hi _ _ _ _ he
   omega
 ·intro k hkl hn
  refine hk k hkl ?_
  rintro rfl
  exact hn id _ n ho hφ
 ·intro i x bb m hx he hbb
  rcases hget i x hx with ⟨rfl,rfl⟩ | ⟨h1,h2⟩
  ·obtain ⟨rfl,rfl⟩:=hself _ _ he
   rcases hb' with rfl | hb'
   ·exact ⟨_,_,n,ho,hφ⟩
   ·omega
  ·rw [hold _ _ h1] at he
   exact ⟨i,x,m,h2,he⟩
theorem RepW.famGrow (hw:RepW cx φ h w) {id ver k k':Nat} {f:Nat → AV} (ho:h[id]? = some (.fam ver f k)) (hφ:φ id ver = some (b,n)) {b':Nat} {n':Nat × Nat}
 (hb':b' = b ∨ w.heap.size ≤ b') (hlt':b' < w'.heap.size) (hsz:w.heap.size ≤ w'.heap.size) (hos:w'.os = w.os) (htp:w'.tape = w.tape) (hou:w'.output = w.output) (hdr:w.drawn ≤ w'.drawn)
 (hk:∀ k,k < w.heap.size → k ≠ b → w'.heap[k]? = w.heap[k]?) (hr:∀ φ',Ext φ φ' → RepO cx φ' w' b' n' (.fam 0 f k'))
 (hb:∀ v k n,RepO cx φ w b n (.fam v f k) → RepO cx φ w' b n (.fam v f k)) :
 RepW cx (newPhi φ h.length 0 b' n') (h ++ [.fam 0 f k']) w' ∧ Step φ h w (newPhi φ h.length 0 b' n') (h ++ [.fam 0 f k']) w':=by
 have hnone:∀ ver,φ h.length ver = none:=fun ver=>hw.none_of (fun o ho=>by simp at ho)
 have hext:=newPhi_ext (hnone 0) b' n'
 have hbB:=hw.hi _ _ _ _ hφ
 have hget:∀ (id:Nat) o',(h ++ [AO.fam 0 f k'])[id]? = some o' → (h[id]? = some o' ∧ id < h.length) ∨ (id = h.length ∧ o' = .fam 0 f k'):=by
  intro id o' hg
  rw [List.getElem?_append] at hg
  split at hg
  ·rename_i hlt;exact .inl ⟨hg,hlt⟩
  ·rename_i hlt
   have:id - h.length = 0:=by
    cases hk:id - h.length with
    | zero=>rfl
    | succ k=>rw [hk] at hg;simp at hg
   rw [this] at hg
   simp at hg
   exact .inr ⟨by omega,hg.symm⟩
 have hold:∀ (id ver:Nat),id < h.length → newPhi φ h.length 0 b' n' id ver = φ id ver:=by
  intro id ver hlt
  unfold newPhi
  rw [if_neg (by omega)]
 have hnew:∀ (ver bb:Nat) m,newPhi φ h.length 0 b' n' h.length ver = some (bb,m) → ver = 0 ∧ bb = b' ∧ m = n':=by
  intro ver bb m he
  unfold newPhi at he
  split at he
  ·rename_i hc
   simp at he
   exact ⟨hc.2,he.1.symm,he.2.symm⟩
  ·rw [hnone] at he;cases he
 have hsib:∀ (i:Nat) x m,h[i]? = some x → φ i x.ver = some (b,m) → Sib x (.fam 0 f k') ∧ ∃ v k,x = .fam v f k:=by
  intro i x m hx he
  rcases hw.inj i id x _ b m n hx ho he hφ with rfl | ⟨v,v',f',k1,k2,rfl,e2⟩
  ·rw [ho] at hx
   cases hx
   exact ⟨⟨ver,0,f,k,k',rfl,rfl⟩,ver,k,rfl⟩
  ·cases e2
   exact ⟨⟨_,0,f,k1,k',rfl,rfl⟩,_,k1,rfl⟩
 have hnb:∀ (i:Nat) x m bb,h[i]? = some x → φ i x.ver = some (bb,m) → bb = b' → Sib x (.fam 0 f k'):=by
  intro i x m bb hx he hbb
  subst hbb
  rcases hb' with rfl | hb'
  ·exact (hsib i x m hx he).1
  ·have:=(hw.hi _ _ _ _ he).2
   omega
 refine ⟨⟨?_,?_,?_,?_,?_⟩,hext,?_,?_,hsz,by simp,fun i hi hv v=>by rw [hold i v hi];exact hv v⟩
 ·exact hw.below.trans ⟨hos,htp,hou,hsz,fun k hkB=>hk k (by have:=hw.hB;omega) (by omega),hdr⟩
 ·intro i x bb m hx he
  rcases hget i x hx with ⟨h1,h2⟩ | ⟨rfl,rfl⟩
  ·rw [hold _ _ h2] at he
   by_cases hbb:bb = b
   ·subst hbb
    obtain ⟨_,v,k1,rfl⟩:=hsib i x m h1 he
    have:=hb v k1 m (hw.obj i _ _ m h1 he)
    exact this.mono hext rfl
   ·exact (hw.obj i x bb m h1 he).mono hext (hk _ (hw.hi _ _ _ _ he).2 hbb)
  ·obtain ⟨_,rfl,rfl⟩:=hnew _ _ _ he
   exact hr _ hext
 ·intro i j x y bb m m' hx hy he he'
  rcases hget i x hx with ⟨h1,h2⟩ | ⟨rfl,rfl⟩ <;> rcases hget j y hy with ⟨h3,h4⟩ | ⟨rfl,rfl⟩
  ·rw [hold _ _ h2] at he
   rw [hold _ _ h4] at he'
   exact hw.inj i j x y bb m m' h1 h3 he he'
  ·rw [hold _ _ h2] at he
   exact .inr (hnb i x m bb h1 he (hnew _ _ _ he').2.1)
  ·rw [hold _ _ h4] at he'
   exact .inr (hnb j y m' bb h3 he' (hnew _ _ _ he).2.1).symm
  ·exact .inl rfl
 ·intro i v r he
  by_cases hlt:i < h.length
  ·rw [hold _ _ hlt] at he
   obtain ⟨o',h1,h2⟩:=hw.dom _ _ _ he
   exact ⟨o',by rw [List.getElem?_append,if_pos hlt];exact h1,h2⟩
  ·by_cases hid:i = h.length
   ·subst hid
    obtain ⟨rb,rn⟩:=r
    obtain ⟨rfl,_⟩:=hnew _ _ _ he
    exact ⟨.fam 0 f k',by simp,Nat.zero_le _⟩
   ·have:φ i v = none:=hw.none_of (fun o ho=>by rw [List.getElem?_eq_none (by omega)] at ho;cases ho)
    unfold newPhi at he
    rw [if_neg (by omega),this] at he
    cases he
 ·intro i v bb m he
  unfold newPhi at he
  split at he
  ·simp at he
   obtain ⟨rfl,_⟩:=he
   have:=hw.hB
   rcases hb' with h1 | h1 <;> omega
  ·have:=hw.hi _ _ _ _ he
   omega
 ·intro c hc hn
  refine hk c hc ?_
  rintro rfl
  exact hn id _ n ho hφ
 ·intro i x bb m hx he hbb
  rcases hget i x hx with ⟨h1,h2⟩ | ⟨rfl,rfl⟩
  ·rw [hold _ _ h2] at he
   exact ⟨i,x,m,h1,he⟩
  ·obtain ⟨_,rfl,_⟩:=hnew _ _ _ he
   rcases hb' with rfl | hb'
   ·exact ⟨id,_,n,ho,hφ⟩
   ·omega
theorem RepW.famOf (hw:RepW cx φ h w) {id ver:Nat} {cs:List AV} {f:Nat → AV} (ho:h[id]? = some (.cells ver cs)) (hf:∀ k x,cs[k]? = some x → x = f k) :
 RepW cx φ (h.set id (.fam ver f cs.length)) w ∧ Step φ h w φ (h.set id (.fam ver f cs.length)) w:=by
 cases hφ:φ id ver with
 | some p=>
   obtain ⟨b,n⟩:=p
   obtain ⟨hn,ccs,T,q2,q5,q3,q4,q6⟩:=hw.obj id _ b n ho hφ
   refine hw.put ho rfl rfl hφ (obj:=.cells ccs T (0,0)) ⟨rfl,q2,fun _ _=>rfl,rfl,rfl,rfl,Nat.le_refl _⟩ ⟨hn,ccs,T,q2,q5,q3,fun j v hj hv=>⟨?_,q6 j v hj hv⟩⟩
   have:=q4 j _ v (List.getElem?_eq_getElem hj) hv
   rwa [hf j _ (List.getElem?_eq_getElem hj)] at this
 | none=>
   have hlt:=(List.getElem?_eq_some_iff.1 ho).1
   have hget:∀ (i:Nat) x v r,(h.set id (.fam ver f cs.length))[i]? = some x → φ i v = some r → x.ver = v → i ≠ id ∧ h[i]? = some x:=by
    intro i x v r hx hr hv
    by_cases hi:id = i
    ·subst hi
     rw [List.getElem?_set_self hlt] at hx
     simp at hx
     subst hx
     simp at hv
     subst hv
     rw [hφ] at hr
     cases hr
    ·rw [List.getElem?_set_ne hi] at hx
     exact ⟨fun e=>hi e.symm,hx⟩
   refine ⟨⟨hw.below,?_,?_,?_,hw.hi⟩,Ext.refl _,fun _ _ _=>rfl,?_,Nat.le_refl _,by simp,fun _ _ hv=>hv⟩
   ·intro i x b m hx he
    exact hw.obj i x b m (hget i x _ _ hx he rfl).2 he
   ·intro i j x y b m m' hx hy he he'
    exact hw.inj i j x y b m m' (hget i x _ _ hx he rfl).2 (hget j y _ _ hy he' rfl).2 he he'
   ·intro i v r he
    obtain ⟨x,h1,h2⟩:=hw.dom _ _ _ he
    by_cases hi:id = i
    ·subst hi
     rw [ho] at h1
     simp at h1
     subst h1
     exact ⟨.fam ver f cs.length,by rw [List.getElem?_set_self hlt],h2⟩
    ·exact ⟨x,by rw [List.getElem?_set_ne hi];exact h1,h2⟩
   ·intro i x b m hx he _
    exact ⟨i,x,m,(hget i x _ _ hx he rfl).2,he⟩
end Go.Eng
namespace Go.Eng
open Go.RowKit
structure Sh where
 agg:Bool
 ks:List Nat
inductive XOp where
 | mov (x:XO)
 | pick (c a b:XO)
 | alloc (z:List Value)
 | box (x:XO)
 | build (z:List Value) (ps:List (Nat × Nat × XO))
 | bsl (sz len:Nat) (z:List Value) (ps:List (Nat × Nat × XO))
 | ld1 (x:XO)
 | lda (n:Nat) (x:XO)
 | st (n:Nat) (a x:XO)
 | nck (x:XO)
 | bin (op:BinOp) (x y:XO)
 | beq (eq:Bool) (x y:XO)
 | un (op:UnOp) (x:XO)
 | cvi (k:IntKind) (x:XO)
 | cvs (x:XO)
 | mkf (f:FuncId) (caps:List XO)
 | sls (sz:Nat) (x:XO) (lo hi:Option XO)
 | slt (x:XO) (lo hi:Option XO)
 | sla (sz n:Nat) (x:XO) (lo hi:Option XO)
 | fad (off:Nat) (x:XO)
 | fld (off:Nat) (n:Option Nat) (x:XO)
 | iad (sz:Nat) (x i:XO)
 | iaa (sz n:Nat) (x i:XO)
 | ixs (x i:XO)
 | ext (i:Nat) (x:XO)
 | lens (x:XO)
 | lenl (x:XO)
 | lenk (n:Nat)
 | mx (mn:Bool) (x y:XO)
 | app (sz bytes:Nat) (s x:XO)
 | mks (sz bytes:Nat) (z:List Value) (l c:XO)
 | cpy (sz:Nat) (d s:XO)
 | seq (eq:Bool) (sh:Sh) (x y:XO)
 | sno (eq:Bool) (x:XO)
 | bts (x:XO)
 | stb (x:XO)
 | mkm (r:Option XO)
 | lku (sh:Sh) (z:Value) (ok:Bool) (m k:XO)
 | mup (sh:Sh) (m k x:XO)
 | men (sh:Sh) (z:Value) (m k:XO)
 | mes (m st x:XO)
 | lenm (x:XO)
 | del (sh:Sh) (m k:XO)
def AV.cellsOf:AV → Option (List AV)
 | .agg cs=>if cs.all AV.cell then some cs else none
 | .un | .tup _ | .und=>none
 | .v x=>if x.oneCell' then some [.v x] else none
 | x=>some [x]
def AH.get (h:AH) (id ver:Nat):Option (List AV):=
 match h[id]? with
 | some (.cells v cs)=>if v = ver then some cs else none
 | _=>none
def AH.rd (h:AH) (id ver:Nat):Option (List AV):=
 match h[id]? with
 | some (.cells v cs)=>if v = ver then some cs else none
 | some (.froz cs)=>if ver = 0 then some cs else none
 | some (.fam v f k)=>if v = ver then some ((List.range k).map f) else none
 | _=>none
def setCells (cs:List AV) (off:Nat) (vs:List AV):List AV:=cs.take off ++ vs ++ cs.drop (off + vs.length)
def xLd1 (h:AH):AV → Option AV
 | .ptr id ver off=>(h.rd id ver).bind (·[off]?)
 | .rp cs=>cs[0]?
 | _=>none
def xLda (h:AH) (n:Nat):AV → Option AV
 | .ptr id ver off=>(h.rd id ver).bind fun cs=>if off + n ≤ cs.length then some (.agg ((cs.drop off).take n)) else none
 | .rp cs=>if n ≤ cs.length then some (.agg (cs.take n)) else none
 | _=>none
def xSt (h:AH) (n:Nat) (a x:AV):Option AH:=
 match a,x.cellsOf with
 | .ptr id ver off,some vs=>(h.get id ver).bind fun cs=>if vs.length = n ∧ off + n ≤ cs.length then some (h.set id (.cells ver (setCells cs off vs))) else none
 | _,_=>none
def xFill (cs:List AV):List (Nat × Nat × AV) → Option (List AV)
 | []=>some cs
 | (off,sz,x) :: r=>match x.cellsOf with
   | some vs=>if vs.length = sz ∧ off + sz ≤ cs.length then xFill (setCells cs off vs) r else none
   | none=>none
def xBin (op:BinOp):Value → Value → Option Value
 | .int k a,.int k' b=>match op with
   | .shl=>if 0 ≤ b then some (.int k (k.wrap (a * 2 ^ min b.toNat k.bits))) else none
   | .shr=>if 0 ≤ b then some (.int k (a.fdiv (2 ^ min b.toNat k.bits))) else none
   | .add=>if k = k' then some (.int k (k.wrap (a + b))) else none
   | .sub=>if k = k' then some (.int k (k.wrap (a - b))) else none
   | .mul=>if k = k' then some (.int k (k.wrap (a * b))) else none
   | .quo=>if k = k' ∧ b ≠ 0 then some (.int k (k.wrap (a.tdiv b))) else none
   | .rem=>if k = k' ∧ b ≠ 0 then some (.int k (a.tmod b)) else none
   | .and=>if k = k' then some (.int k (k.wrap (BitVec.ofInt k.bits a &&& BitVec.ofInt k.bits b).toNat)) else none
   | .or=>if k = k' then some (.int k (k.wrap (BitVec.ofInt k.bits a ||| BitVec.ofInt k.bits b).toNat)) else none
   | .xor=>if k = k' then some (.int k (k.wrap (BitVec.ofInt k.bits a ^^^ BitVec.ofInt k.bits b).toNat)) else none
   | .andNot=>if k = k' then some (.int k (k.wrap (BitVec.ofInt k.bits a &&& ~~~ BitVec.ofInt k.bits b).toNat)) else none
   | .eql=>if k = k' then some (.bool (decide (a = b))) else none
   | .neq=>if k = k' then some (.bool (!decide (a = b))) else none
   | .lss=>if k = k' then some (.bool (decide (a < b))) else none
   | .leq=>if k = k' then some (.bool (decide (a ≤ b))) else none
   | .gtr=>if k = k' then some (.bool (decide (b < a))) else none
   | .geq=>if k = k' then some (.bool (decide (b ≤ a))) else none
 | .string a,.string b=>match op with
   | .add=>if ((a.size + b.size:Nat):Int) ≤ IntKind.i64.max then some (.string (a ++ b)) else none
   | .eql=>some (.bool (decide (a = b)))
   | .neq=>some (.bool (!decide (a = b)))
   | .lss=>some (.bool (Op.bytesLess a.toList b.toList))
   | .leq=>some (.bool (Op.bytesLess a.toList b.toList || decide (a = b)))
   | .gtr=>some (.bool (!(Op.bytesLess a.toList b.toList || decide (a = b))))
   | .geq=>some (.bool (!Op.bytesLess a.toList b.toList))
   | _=>none
 | _,_=>none
def xUn (op:UnOp):Value → Option Value
 | .int k n=>match op with
   | .neg=>some (.int k (k.wrap (0 - n)))
   | .xor=>some (.int k (k.wrap (BitVec.ofInt k.bits (if k.signed then -1 else k.max) ^^^ BitVec.ofInt k.bits n).toNat))
   | _=>none
 | .bool b=>match op with
   | .not=>some (.bool !b)
   | _=>none
 | _=>none
def xLo:Option AV → Nat → Option Nat
 | none,_=>some 0
 | some (.v (.int _ i)),h=>if 0 ≤ i ∧ i ≤ h then some i.toNat else none
 | _,_=>none
def xHi:Option AV → Nat → Option Nat
 | none,n=>some n
 | some (.v (.int _ i)),n=>if 0 ≤ i ∧ i ≤ n then some i.toNat else none
 | _,_=>none
def xSls (sz:Nat) (x:AV) (lo hi:Option AV):Option AV:=
 match x with
 | .sl id ver off len sz'=>if sz' = sz then (xHi hi len).bind fun h=>(xLo lo h).bind fun l=>if l < h ∨ l = 0 then some (.sl id ver (off + l * sz) (h - l) sz) else some (.ro sz 0 fun _=>[]) else none
 | .ro sz' n f=>if sz' = sz then (xHi hi n).bind fun h=>(xLo lo h).bind fun l=>some (.ro sz (h - l) fun i=>f (l + i)) else none
 | .v (.slice A 0 c)=>(xHi hi 0).bind fun h=>(xLo lo h).bind fun _=>some (.v (.slice A 0 c))
 | _=>none
def xSlsX (h:AH) (sz:Nat) (x:AV) (lo hi:Option AV):Option AV:=
 match x,hi with
 | .sl id ver off _ sz',some (.v (.int _ i))=>if sz' = sz ∧ 0 < sz ∧ 0 ≤ i then (h.rd id ver).bind fun cs=>if off + i.toNat * sz ≤ cs.length then (xLo lo i.toNat).bind fun l=>if l < i.toNat ∨ l = 0 then some (.sl id ver (off + l * sz) (i.toNat - l) sz) else none else none else none
 | _,_=>none
def xSlt (x:AV) (lo hi:Option AV):Option AV:=
 match x with
 | .v (.string s)=>(xHi hi s.size).bind fun h=>(xLo lo h).bind fun l=>some (.v (.string (s.extract l h)))
 | _=>none
def xSla (sz n:Nat) (x:AV) (lo hi:Option AV):Option AV:=
 match x,lo,hi with
 | .rp cs,none,none=>if cs.length = n * sz then some (.ro sz n fun i=>(cs.drop (i * sz)).take sz) else none
 | _,_,_=>none
def xIad (sz:Nat):AV → AV → Option AV
 | .sl id ver off len sz',.v (.int _ i)=>if sz' = sz ∧ 0 ≤ i ∧ i < len then some (.ptr id ver (off + i.toNat * sz)) else none
 | .ro sz' n f,.v (.int _ i)=>if sz' = sz ∧ 0 ≤ i ∧ i < n then some (.rp (f i.toNat)) else none
 | _,_=>none
def xIaa (sz n:Nat):AV → AV → Option AV
 | .ptr id ver off,.v (.int _ i)=>if 0 ≤ i ∧ i < n then some (.ptr id ver (off + i.toNat * sz)) else none
 | .rp cs,.v (.int _ i)=>if 0 ≤ i ∧ i < n then some (.rp (cs.drop (i.toNat * sz))) else none
 | _,_=>none
def xFad (off:Nat):AV → Option AV
 | .ptr id ver o=>some (.ptr id ver (o + off))
 | .rp cs=>some (.rp (cs.drop off))
 | _=>none
def xFld (off:Nat) (n:Option Nat):AV → Option AV
 | .agg cs=>match n with
   | none=>cs[off]?
   | some n=>if off + n ≤ cs.length then some (.agg ((cs.drop off).take n)) else none
 | _=>none
def xLenS:AV → Option AV
 | .v (.string s)=>some (.v (.int .i64 s.size))
 | _=>none
def xLenL:AV → Option AV
 | .sl _ _ _ len _=>some (.v (.int .i64 len))
 | .ro _ n _=>some (.v (.int .i64 n))
 | .v (.slice _ n _)=>some (.v (.int .i64 n))
 | _=>none
def xMx (mn:Bool):AV → AV → Option AV
 | .v (.int k a),.v (.int k' b)=>if k = k' then some (.v (.int k (if mn then (if b < a then b else a) else (if a < b then b else a)))) else none
 | _,_=>none
def xRows (h:AH) (sz:Nat):AV → Option (Nat × List AV)
 | .sl id ver off len sz'=>if sz' = sz then (h.rd id ver).bind fun cs=>if off + len * sz ≤ cs.length then some (len,(cs.drop off).take (len * sz)) else none else none
 | .ro sz' n f=>if sz' = sz then some (n,(List.range n).flatMap f) else none
 | .v (.slice _ 0 _)=>some (0,[])
 | .v (.string b)=>if sz = 1 then some (b.size,b.data.toList.map fun c=>.v (.int .u8 c.toNat)) else none
 | _=>none
def xApp (h:AH) (sz bytes:Nat) (s x:AV):Option (AV × AH):=
 match xRows h sz x with
 | none=>none
 | some (n,cells)=>match s with
   | .v (.slice none 0 0)=>if n = 0 then some (.v (.slice none 0 0),h) else if n * bytes ≤ 140737488355328 then some (.sl h.length 0 0 n sz,h ++ [.cells 0 cells]) else none
   | .sl id ver off len sz'=>if sz' = sz then (h.get id ver).bind fun cs=>
    if n = 0 then some (.sl id ver off len sz,h)
    else if off + (len + n) * sz ≤ cs.length then some (.sl id ver off (len + n) sz,h.set id (.cells ver (setCells cs (off + len * sz) cells)))
    else if off = 0 ∧ len * sz ≤ cs.length ∧ (len + n) * bytes ≤ 140737488355328 then some (.sl id (ver + 1) 0 (len + n) sz,h.set id (.cells (ver + 1) (cs.take (len * sz) ++ cells))) else none
     else none
   | _=>none
def sameCell:AV → AV → Bool
 | .v (.int k a),.v (.int k' b)=>decide (k = k' ∧ a = b)
 | .v (.string a),.v (.string b)=>decide (a = b)
 | .v (.bool a),.v (.bool b)=>decide (a = b)
 | .v (.slice none 0 0),.v (.slice none 0 0)=>true
 | _,_=>false
def sameCells:List AV → List AV → Bool
 | [],[]=>true
 | a :: r,b :: q=>sameCell a b && sameCells r q
 | _,_=>false
def xAppF (h:AH) (sz bytes:Nat) (s x:AV):Option (AV × AH):=
 match s with
 | .sl id ver off len sz'=>match h[id]?,xRows h sz x with
   | some (.fam v f k),some (n,cells)=>if v = ver ∧ sz' = sz ∧ off = 0 ∧ len * sz = k ∧ (len + n) * bytes ≤ 140737488355328 ∧ sameCells cells ((List.range (n * sz)).map fun j=>f (k + j)) = true then some (.sl h.length 0 0 (len + n) sz,h ++ [.fam 0 f (k + n * sz)]) else none
   | _,_=>none
 | _=>none
def xMks (h:AH) (sz bytes:Nat) (z:List Value):AV → AV → Option (AV × AH)
 | .v (.int _ l),.v (.int _ c)=>if 0 ≤ l ∧ l ≤ c ∧ c * bytes ≤ 281474976710656 ∧ c < 9223372036854775808 then some (.sl h.length 0 0 l.toNat sz,h ++ [.cells 0 ((List.replicate c.toNat (z.map AV.v)).flatten)]) else none
 | _,_=>none
def xCpy (h:AH) (sz:Nat) (d s:AV):Option (AV × AH):=
 match xRows h sz s with
 | none=>none
 | some (n,cells)=>match d with
   | .v (.slice none 0 0)=>some (.v (.int .i64 0),h)
   | .sl id ver off len sz'=>if sz' = sz then (h.get id ver).bind fun cs=>
    if off + min n len * sz ≤ cs.length then some (.v (.int .i64 (min n len:Nat)),h.set id (.cells ver (setCells cs off (cells.take (min n len * sz))))) else none
     else none
   | _=>none
def sameOne:Nat → Value → Value → Option Bool
 | 0,.bool a,.bool b=>some (a == b)
 | 1,.int k a,.int k' b=>if k = k' then some (decide (a = b)) else none
 | 2,.string a,.string b=>some (decide (a = b))
 | _,_,_=>none
def xEqs:List Nat → List AV → List AV → Option Bool
 | [],[],[]=>some true
 | k :: ks,.v a :: xs,.v b :: ys=>match sameOne k a b,xEqs ks xs ys with
   | some p,some q=>some (p && q)
   | _,_=>none
 | _,_,_=>none
def xEq (sh:Sh) (x y:AV):Option Bool:=match sh.agg,x,y with
 | true,.agg xs,.agg ys=>xEqs sh.ks xs ys
 | false,x,y=>xEqs sh.ks [x] [y]
 | _,_,_=>none
def vals:List AV → Option (List Value)
 | []=>some []
 | .v x :: r=>if x.oneCell' then (vals r).map (x :: ·) else none
 | _=>none
def AV.toV:AV → Option Value
 | .v x=>some x
 | .agg cs=>(vals cs).map fun l=>.agg l.toArray
 | _=>none
def xFind (sh:Sh) (k:Value):List (Nat × Value × AV) → Option (Option Nat)
 | []=>some none
 | e :: r=>match xEq sh (ofV k) (ofV e.2.1) with
   | some true=>some (some 0)
   | some false=>(xFind sh k r).map fun o=>o.map (· + 1)
   | none=>none
def AH.mapAt (h:AH):AV → Option (Nat × Nat × List (Nat × Value × AV))
 | .mp id=>match h[id]? with
   | some (.map c es)=>some (id,c,es)
   | _=>none
 | _=>none
def keyOk (sh:Sh) (k:Value):Bool:=(xEq sh (ofV k) (ofV k)).isSome
def xLk (h:AH) (sh:Sh) (z:Value) (m k:AV):Option (AV × Bool):=
 k.toV.bind fun kv=>if keyOk sh kv then (h.mapAt m).bind fun p=>(xFind sh kv p.2.2).map fun
  | some i=>match p.2.2[i]? with
    | some e=>(e.2.2,true)
    | none=>(ofV z,false)
  | none=>(ofV z,false)
 else none
def xLku (h:AH) (sh:Sh) (z:Value) (ok:Bool) (m k:AV):Option AV:=(xLk h sh z m k).map fun r=>if ok then .tup [r.1,.v (.bool r.2)] else r.1
def xMup (h:AH) (sh:Sh) (m k x:AV):Option AH:=
 k.toV.bind fun kv=>if keyOk sh kv then (h.mapAt m).bind fun p=>(xFind sh kv p.2.2).map fun
  | some i=>h.set p.1 (.map p.2.1 (p.2.2.modify i fun e=>(e.1,kv,x)))
  | none=>h.set p.1 (.map (p.2.1 + 1) (p.2.2 ++ [(p.2.1,kv,x)]))
 else none
def xMen (h:AH) (sh:Sh) (z:Value) (m k:AV):Option (AV × AH):=
 k.toV.bind fun kv=>if keyOk sh kv then (h.mapAt m).bind fun p=>(xFind sh kv p.2.2).bind fun
  | some i=>(p.2.2[i]?).map fun e=>(.tup [e.2.2,.v (.int .i64 e.1)],h.set p.1 (.map p.2.1 (p.2.2.modify i fun e=>(e.1,kv,e.2.2))))
  | none=>some (.tup [ofV z,.v (.int .i64 p.2.1)],h.set p.1 (.map (p.2.1 + 1) (p.2.2 ++ [(p.2.1,kv,ofV z)])))
 else none
def xMes (h:AH) (m st x:AV):Option AH:=
 match st with
 | .v (.int _ n)=>(h.mapAt m).bind fun p=>(p.2.2.findIdx? fun e=>decide ((e.1:Int) = n)).map fun i=>h.set p.1 (.map p.2.1 (p.2.2.modify i fun e=>(e.1,e.2.1,x)))
 | _=>none
def xDel (h:AH) (sh:Sh) (m k:AV):Option AH:=
 k.toV.bind fun kv=>if keyOk sh kv then (h.mapAt m).bind fun p=>(xFind sh kv p.2.2).map fun
  | some i=>h.set p.1 (.map p.2.1 (p.2.2.eraseIdx i))
  | none=>h
 else none
def xLenM (h:AH):AV → Option AV
 | .v (.map none)=>some (.v (.int .i64 0))
 | m=>(h.mapAt m).map fun p=>.v (.int .i64 p.2.2.length)
def xBytes:List AV → Option (List UInt8)
 | []=>some []
 | .v (.int .u8 n) :: r=>(xBytes r).map (UInt8.ofNat n.toNat :: ·)
 | _=>none
def xStb (h:AH) (x:AV):Option AV:=match x with
 | .v (.string _)=>none
 | x=>(xRows h 1 x).bind fun p=>(xBytes p.2).map fun l=>.v (.string ⟨l.toArray⟩)
def xNo:AV → Option Bool
 | .v (.slice A _ _)=>some A.isNone
 | .sl ..=>some false
 | .ro _ n _=>if 0 < n then some false else none
 | _=>none
def xev (cx:Cx) (s:XSt):XOp → Option (AV × AH)
 | .mov x=>some (s.ev cx x,s.h)
 | .pick c a b=>match s.ev cx c with
   | .v (.bool t)=>some (if t then s.ev cx a else s.ev cx b,s.h)
   | _=>none
 | .alloc z=>some (.ptr s.h.length 0 0,s.h ++ [.cells 0 (z.map .v)])
 | .box x=>(s.ev cx x).cellsOf.map fun cs=>(.ptr s.h.length 0 0,s.h ++ [.cells 0 cs])
 | .build z ps=>(xFill (z.map .v) (ps.map fun p=>(p.1,p.2.1,s.ev cx p.2.2))).map fun cs=>(.agg cs,s.h)
 | .bsl sz len z ps=>(xFill (z.map .v) (ps.map fun p=>(p.1,p.2.1,s.ev cx p.2.2))).map fun cs=>(.sl s.h.length 0 0 len sz,s.h ++ [.cells 0 cs])
 | .ld1 x=>(xLd1 s.h (s.ev cx x)).map fun v=>(v,s.h)
 | .lda n x=>(xLda s.h n (s.ev cx x)).map fun v=>(v,s.h)
 | .st n a x=>(xSt s.h n (s.ev cx a) (s.ev cx x)).map fun h=>(.und,h)
 | .nck x=>match s.ev cx x with
   | .ptr .. | .rp _ | .fn ..=>some (s.ev cx x,s.h)
   | _=>none
 | .bin op x y=>match s.ev cx x,s.ev cx y with
   | .v a,.v b=>(xBin op a b).map fun v=>(.v v,s.h)
   | _,_=>none
 | .beq eq x y=>match s.ev cx x,s.ev cx y with
   | .v (.bool a),.v (.bool b)=>some (.v (.bool (if eq then a == b else !(a == b))),s.h)
   | _,_=>none
 | .un op x=>match s.ev cx x with
   | .v a=>(xUn op a).map fun v=>(.v v,s.h)
   | _=>none
 | .cvi k x=>match s.ev cx x with
   | .v (.int _ n)=>some (.v (.int k (k.wrap n)),s.h)
   | _=>none
 | .cvs x=>match s.ev cx x with
   | .v (.string b)=>some (.v (.string b),s.h)
   | _=>none
 | .mkf f caps=>some (.fn f (caps.map (s.ev cx)),s.h)
 | .sls sz x lo hi=>(xSls sz (s.ev cx x) (lo.map (s.ev cx)) (hi.map (s.ev cx))).map fun v=>(v,s.h)
 | .slt x lo hi=>(xSlt (s.ev cx x) (lo.map (s.ev cx)) (hi.map (s.ev cx))).map fun v=>(v,s.h)
 | .sla sz n x lo hi=>(xSla sz n (s.ev cx x) (lo.map (s.ev cx)) (hi.map (s.ev cx))).map fun v=>(v,s.h)
 | .fad off x=>(xFad off (s.ev cx x)).map fun v=>(v,s.h)
 | .fld off n x=>(xFld off n (s.ev cx x)).map fun v=>(v,s.h)
 | .iad sz x i=>(xIad sz (s.ev cx x) (s.ev cx i)).map fun v=>(v,s.h)
 | .iaa sz n x i=>(xIaa sz n (s.ev cx x) (s.ev cx i)).map fun v=>(v,s.h)
 | .ixs x i=>match s.ev cx x,s.ev cx i with
   | .v (.string b),.v (.int _ i)=>if h:0 ≤ i ∧ i.toNat < b.size then some (.v (.int .u8 (b[i.toNat]'h.2).toNat),s.h) else none
   | _,_=>none
 | .ext i x=>match s.ev cx x with
   | .tup cs=>(cs[i]?).map fun v=>(v,s.h)
   | _=>none
 | .lens x=>(xLenS (s.ev cx x)).map fun v=>(v,s.h)
 | .lenl x=>(xLenL (s.ev cx x)).map fun v=>(v,s.h)
 | .lenk n=>some (.v (.int .i64 n),s.h)
 | .mx mn x y=>(xMx mn (s.ev cx x) (s.ev cx y)).map fun v=>(v,s.h)
 | .app sz bytes x y=>xApp s.h sz bytes (s.ev cx x) (s.ev cx y)
 | .mks sz bytes z l c=>xMks s.h sz bytes z (s.ev cx l) (s.ev cx c)
 | .cpy sz d x=>xCpy s.h sz (s.ev cx d) (s.ev cx x)
 | .seq eq sh x y=>(xEq sh (s.ev cx x) (s.ev cx y)).map fun b=>(.v (.bool (if eq then b else !b)),s.h)
 | .sno eq x=>(xNo (s.ev cx x)).map fun b=>(.v (.bool (if eq then b else !b)),s.h)
 | .bts x=>match s.ev cx x with
   | .v (.string b)=>some (.sl s.h.length 0 0 b.size 1,s.h ++ [.froz (b.data.toList.map fun c=>.v (.int .u8 c.toNat))])
   | _=>none
 | .stb x=>(xStb s.h (s.ev cx x)).map fun v=>(v,s.h)
 | .mkm r=>match r.map (s.ev cx) with
   | none=>some (.mp s.h.length,s.h ++ [.map 0 []])
   | some (.v (.int _ _))=>some (.mp s.h.length,s.h ++ [.map 0 []])
   | _=>none
 | .lku sh z ok m k=>(xLku s.h sh z ok (s.ev cx m) (s.ev cx k)).map fun v=>(v,s.h)
 | .mup sh m k x=>(xMup s.h sh (s.ev cx m) (s.ev cx k) (s.ev cx x)).map fun h=>(.und,h)
 | .men sh z m k=>xMen s.h sh z (s.ev cx m) (s.ev cx k)
 | .mes m st x=>(xMes s.h (s.ev cx m) (s.ev cx st) (s.ev cx x)).map fun h=>(.und,h)
 | .lenm x=>(xLenM s.h (s.ev cx x)).map fun v=>(v,s.h)
 | .del sh m k=>(xDel s.h sh (s.ev cx m) (s.ev cx k)).map fun h=>(.tup [],h)
def xevX (cx:Cx) (s:XSt):XOp → Option (AV × AH)
 | .sls sz x lo hi=>(xSlsX s.h sz (s.ev cx x) (lo.map (s.ev cx)) (hi.map (s.ev cx))).map fun v=>(v,s.h)
 | .app sz bytes x y=>xAppF s.h sz bytes (s.ev cx x) (s.ev cx y)
 | _=>none
def xevH (cx:Cx) (s:XSt) (x:XOp):Option (AV × AH):=match xev cx s x with
 | some p=>some p
 | none=>xevX cx s x
theorem xevH_of {cx:Cx} {s:XSt} {x:XOp} {p:AV × AH} (h:xev cx s x = some p):xevH cx s x = some p:=by
 unfold xevH
 rw [h]
def isAggB (P:Program) (t:TypeId):Option Bool:=(P.underlying t).map fun
 | .struct _ | .array _ _=>true
 | _=>false
def xPlaces (P:Program):List Field → Option (List (Nat × Nat))
 | []=>some []
 | f :: r=>match P.info? f.type,xPlaces P r with
   | some i,some l=>some ((f.offset,i.size) :: l)
   | _,_=>none
def xParts (pl:List (Nat × Nat)):List (Nat × Operand) → Option (List (Nat × Nat × XO))
 | []=>some []
 | (i,x) :: r=>match pl[i]?,xParts pl r with
   | some p,some l=>some ((p.1,p.2,opd x) :: l)
   | _,_=>none
def xElem (P:Program) (e:TypeId):Option (Nat × Nat × List Value):=
 (P.info? e).bind fun i=>i.zero.bind fun z=>if z.cells.size = i.size ∧ 0 < i.size ∧ 0 < i.bytes ∧ z.cells.all (·.oneCell') then some (i.size,i.bytes,z.cells.toList) else none
mutual
def shOf (P:Program):Nat → TypeId → Option Sh
 | 0,_=>none
 | n + 1,t=>match P.underlying t with
   | some .bool=>some ⟨false,[0]⟩
   | some (.int _)=>some ⟨false,[1]⟩
   | some .string=>some ⟨false,[2]⟩
   | some (.struct fs)=>if P.stoodInHeld t then none else (shsOf P n fs.toList 0).map fun l=>⟨true,l⟩
   | _=>none
def shsOf (P:Program):Nat → List Field → Nat → Option (List Nat)
 | 0,_,_=>none
 | _ + 1,[],_=>some []
 | n + 1,f :: r,p=>if f.name = "_" ∨ f.offset ≠ p then none else match P.info? f.type,shOf P n f.type with
   | some i,some sh=>if sh.ks.length = i.size then (shsOf P n r (p + i.size)).map (sh.ks ++ ·) else none
   | _,_=>none
end
def xMapT (P:Program) (t:TypeId):Option (Sh × Value):=match P.underlying t with
 | some (.map k e)=>match shOf P 40 k,(P.info? e).bind (·.zero) with
   | some sh,some z=>some (sh,z)
   | _,_=>none
 | _=>none
def isU8 (P:Program) (e:TypeId):Bool:=match P.underlying e with
 | some (.int .u8)=>true
 | _=>false
def xCall (P:Program) (b:Builtin) (ts:List TypeId) (xs:List Operand):Option XOp:=
 match b,ts,xs with
 | .len,[t],[x]=>match P.underlying t with
   | some .string=>some (.lens (opd x))
   | some (.slice _)=>some (.lenl (opd x))
   | some (.array n _)=>some (.lenk n)
   | some (.map _ _)=>some (.lenm (opd x))
   | _=>none
 | .delete,t :: _,[m,k]=>(xMapT P t).map fun p=>.del p.1 (opd m) (opd k)
 | .append,[t,u],[x,y]=>match P.underlying t,P.underlying u with
   | some (.slice e),some (.slice _)=>(xElem P e).map fun j=>.app j.1 j.2.1 (opd x) (opd y)
   | some (.slice e),some .string=>(xElem P e).map fun j=>.app j.1 j.2.1 (opd x) (opd y)
   | _,_=>none
 | .copy,[t,_],[x,y]=>match P.underlying t with
   | some (.slice e)=>(xElem P e).map fun j=>.cpy j.1 (opd x) (opd y)
   | _=>none
 | .max,_,[x,y]=>some (.mx false (opd x) (opd y))
 | .min,_,[x,y]=>some (.mx true (opd x) (opd y))
 | _,_,_=>none
def nilOk:Operand → Bool
 | .const (.slice none _ _)=>true
 | _=>false
def xop (P:Program):Op → Option XOp
 | .move x | .assign x=>some (.mov (opd x))
 | .pick c a b=>some (.pick (opd c) (opd a) (opd b))
 | .alloc t=>((P.info? t).bind (·.zero)).bind fun z=>if z.cells.all (·.oneCell') then some (.alloc z.cells.toList) else none
 | .box _ x=>some (.box (opd x))
 | .load t x=>(isAggB P t).bind fun b=>if b then (P.info? t).map fun i=>.lda i.size (opd x) else some (.ld1 (opd x))
 | .store t a x=>(P.info? t).map fun i=>.st i.size (opd a) (opd x)
 | .nilCheck x=>some (.nck (opd x))
 | .binOp op t x y _=>match P.underlying t with
   | some (.int _)=>some (.bin op (opd x) (opd y))
   | some .string=>some (.bin op (opd x) (opd y))
   | some .bool=>match op with
     | .eql=>some (.beq true (opd x) (opd y))
     | .neq=>some (.beq false (opd x) (opd y))
     | _=>none
   | some (.struct _)=>if P.eqGuardType P.depth t then none else match op with
     | .eql=>(shOf P 40 t).map fun sh=>.seq true sh (opd x) (opd y)
     | .neq=>(shOf P 40 t).map fun sh=>.seq false sh (opd x) (opd y)
     | _=>none
   | some (.slice _)=>if nilOk y then (match op with
     | .eql=>some (.sno true (opd x))
     | .neq=>some (.sno false (opd x))
     | _=>none) else none
   | _=>none
 | .unOp op _ x=>some (.un op (opd x))
 | .convert s d x=>match P.underlying s,P.underlying d with
   | some (.int _),some (.int k)=>some (.cvi k (opd x))
   | some .string,some .string=>some (.cvs (opd x))
   | some .string,some (.slice e)=>if isU8 P e then some (.bts (opd x)) else none
   | some (.slice e),some .string=>if isU8 P e then some (.stb (opd x)) else none
   | _,_=>none
 | .makeMap t none=>match P.underlying t with
   | some (.map _ _)=>some (.mkm none)
   | _=>none
 | .makeMap t (some r)=>match P.underlying t with
   | some (.map _ _)=>some (.mkm (some (opd r)))
   | _=>none
 | .lookup t m k ok=>(xMapT P t).map fun p=>.lku p.1 p.2 ok (opd m) (opd k)
 | .mapUpdate t m k x | .insert t m k x=>(xMapT P t).map fun p=>.mup p.1 (opd m) (opd k) (opd x)
 | .mapEntry t m k=>(xMapT P t).map fun p=>.men p.1 p.2 (opd m) (opd k)
 | .entryStore _ m st x=>some (.mes (opd m) (opd st) (opd x))
 | .makeFunc (.func f) first captured=>if first.isEmpty then some (.mkf f (captured.toList.map opd)) else none
 | .slice t x lo hi none=>match P.underlying t with
   | some (.slice e)=>(P.info? e).map fun j=>.sls j.size (opd x) (lo.map opd) (hi.map opd)
   | some .string=>some (.slt (opd x) (lo.map opd) (hi.map opd))
   | some (.array n e)=>(P.info? e).map fun j=>.sla j.size n (opd x) (lo.map opd) (hi.map opd)
   | _=>none
 | .fieldAddr t x f=>match P.underlying t with
   | some (.struct fs)=>(fs[f]?).bind fun fd=>(P.info? fd.type).bind fun i=>if i.size = 0 then none else some (.fad fd.offset (opd x))
   | _=>none
 | .field t x f=>match P.underlying t with
   | some (.struct fs)=>(fs[f]?).bind fun fd=>(isAggB P fd.type).bind fun b=>if b then (P.info? fd.type).map fun i=>.fld fd.offset (some i.size) (opd x) else some (.fld fd.offset none (opd x))
   | _=>none
 | .indexAddr t x i=>match P.underlying t with
   | some (.slice e)=>(P.info? e).map fun j=>.iad j.size (opd x) (opd i)
   | some (.array n e)=>(P.info? e).map fun j=>.iaa j.size n (opd x) (opd i)
   | _=>none
 | .index t x i=>match P.underlying t with
   | some .string=>some (.ixs (opd x) (opd i))
   | _=>none
 | .extract x i=>some (.ext i (opd x))
 | .build t parts=>match P.underlying t,(P.info? t).bind (·.zero) with
   | some (.struct fs),some z=>if z.cells.all (·.oneCell') then (xPlaces P fs.toList).bind fun pl=>(xParts pl parts.toList).map fun ps=>.build z.cells.toList ps else none
   | _,_=>none
 | .buildSlice t len parts=>match P.underlying t with
   | some (.slice e)=>(xElem P e).bind fun j=>if len * j.1 ≤ 16777216 then some (.bsl j.1 len ((List.replicate len j.2.2).flatten) (parts.toList.map fun p=>(p.1 * j.1,j.1,opd p.2))) else none
   | _=>none
 | .makeSlice t l c=>match P.underlying t with
   | some (.slice e)=>(xElem P e).map fun j=>.mks j.1 j.2.1 j.2.2 (opd l) (opd c)
   | _=>none
 | .call c=>match c.callee with
   | .builtin b=>xCall P b c.argTypes.toList c.args.toList
   | _=>none
 | _=>none
end Go.Eng
namespace Go.Eng
open Go.RowKit
variable {cx:Cx} {φ φ':Phi} {h h':AH} {w w':World} {b:Nat} {n:Nat × Nat}
theorem add_none (b o j:Nat):(⟨b,o,none⟩:Addr).add j = ⟨b,o + j,none⟩:=by unfold Addr.add;split <;> simp_all
theorem get_some {id ver:Nat} {cs:List AV} (hg:h.get id ver = some cs):h[id]? = some (.cells ver cs):=by
 unfold AH.get at hg
 split at hg
 ·rename_i v cs' he
  split at hg
  ·rename_i hv
   subst hv
   simp at hg
   subst hg
   exact he
  ·cases hg
 ·cases hg
theorem RepW.cells_at (hw:RepW cx φ h w) {id ver:Nat} {cs:List AV} (hg:h.get id ver = some cs) (hφ:φ id ver = some (b,n)) :
 n = (cs.length,n.2) ∧ ∃ (ccs:Array Value) (T:TypeId),w.heap[b]? = some (.cells ccs T (0,0)) ∧ ccs.size = n.2 ∧ cs.length ≤ n.2 ∧ (∀ (k:Nat) x v,cs[k]? = some x → ccs[k]? = some v → Rep cx.w0 cx.B φ x v) ∧ ∀ (k:Nat) v,k < cs.length → ccs[k]? = some v → v.oneCell' = true:=
 hw.obj id _ b n (get_some hg) hφ
theorem get_rd {id ver:Nat} {cs:List AV} (hg:h.get id ver = some cs):h.rd id ver = some cs:=by
 unfold AH.rd
 rw [get_some hg]
 simp
theorem RepW.rd_at (hw:RepW cx φ h w) {id ver:Nat} {cs:List AV} (hg:h.rd id ver = some cs) (hφ:φ id ver = some (b,n)) :
 n = (cs.length,n.2) ∧ ∃ (ccs:Array Value) (T:TypeId) (fz:Nat × Nat),w.heap[b]? = some (.cells ccs T fz) ∧ ccs.size = n.2 ∧ cs.length ≤ n.2 ∧ (∀ (k:Nat) x v,cs[k]? = some x → ccs[k]? = some v → Rep cx.w0 cx.B φ x v) ∧ ∀ (k:Nat) v,k < cs.length → ccs[k]? = some v → v.oneCell' = true:=by
 unfold AH.rd at hg
 split at hg
 ·rename_i v cs' he
  split at hg
  ·rename_i hv
   subst hv
   simp at hg
   subst hg
   obtain ⟨h1,ccs,T,h2⟩:=hw.obj id _ b n he hφ
   exact ⟨h1,ccs,T,(0,0),h2⟩
  ·cases hg
 ·rename_i cs' he
  split at hg
  ·rename_i hv
   subst hv
   simp at hg
   subst hg
   exact hw.obj id _ b n he hφ
  ·cases hg
 ·rename_i v f k he
  split at hg
  ·rename_i hv
   subst hv
   simp at hg
   subst hg
   obtain ⟨h1,ccs,T,h2,h3,h4,h5⟩:=hw.obj id _ b n he hφ
   refine ⟨by simpa using h1,ccs,T,(0,0),h2,h3,by simpa using h4,?_,?_⟩
   ·intro j x v hx hv
    have hj:j < k:=by
     have:=(List.getElem?_eq_some_iff.1 hx).1
     simpa using this
    simp only [List.getElem?_map,List.getElem?_range hj,Option.map_some,Option.some.injEq] at hx
    subst hx
    exact (h5 j v hj hv).1
   ·intro j v hj hv
    exact (h5 j v (by simpa using hj) hv).2
  ·cases hg
 ·cases hg
theorem RepW.cell0 (hw:RepW cx φ h w) {b o:Nat} (hb:b < cx.B):w.cell? ⟨b,o,none⟩ = cx.w0.cell? ⟨b,o,none⟩:=hw.below.cell (p:=⟨b,o,none⟩) hb
theorem ld1_sound (hw:RepW cx φ h w) {x r:AV} {v:Value} (hx:Rep cx.w0 cx.B φ x v) (he:xLd1 h x = some r):∃ (a:Addr) (u:Value),v = .pointer (some a) ∧ w.cell? a = some u ∧ Rep cx.w0 cx.B φ r u:=by
 cases hx with
 | ptr id ver off b n hφ=>
   simp only [xLd1,Option.bind_eq_some_iff] at he
   obtain ⟨cs,hg,hk⟩:=he
   obtain ⟨_,ccs,T,fz,h2,h5,h3,h4,_⟩:=hw.rd_at hg hφ
   have hlt:off < ccs.size:=by have:=(List.getElem?_eq_some_iff.1 hk).1;omega
   exact ⟨_,ccs[off],rfl,by simp [World.cell?,h2,hlt],h4 off r _ hk (Array.getElem?_eq_getElem hlt)⟩
 | rp cs b o c hb hc _ hr=>
   simp only [xLd1] at he
   have hlt:=(List.getElem?_eq_some_iff.1 he).1
   exact ⟨_,c 0,rfl,by rw [hw.cell0 hb];simpa using hc 0 hlt,hr 0 r he⟩
 | _=>cases he
theorem lda_sound (hw:RepW cx φ h w) {x r:AV} {v:Value} {m:Nat} (hx:Rep cx.w0 cx.B φ x v) (he:xLda h m x = some r) :
 ∃ (a:Addr) (us:List Value),v = .pointer (some a) ∧ us.length = m ∧ (∀ j u,us[j]? = some u → w.cell? (a.add j) = some u) ∧ Rep cx.w0 cx.B φ r (.agg us.toArray):=by
 cases hx with
 | ptr id ver off b n hφ=>
   simp only [xLda,Option.bind_eq_some_iff] at he
   obtain ⟨cs,hg,hk⟩:=he
   split at hk
   ·rename_i hle
    simp at hk
    subst hk
    obtain ⟨_,ccs,T,fz,h2,h5,h3,h4,_⟩:=hw.rd_at hg hφ
    refine ⟨_,(ccs.toList.drop off).take m,rfl,by simp;omega,?_,?_⟩
    ·intro j u hu
     rw [List.getElem?_take] at hu
     split at hu
     ·rw [List.getElem?_drop] at hu
      rw [add_none]
      simp only [Array.getElem?_toList] at hu
      simp [World.cell?,h2,hu]
     ·cases hu
    ·refine .agg _ _ (by simp;omega) ?_
     intro k x v hx hv
     rw [List.getElem?_take] at hx
     split at hx
     ·rw [List.getElem?_drop] at hx
      rename_i hkm
      simp only [List.getElem?_toArray,List.getElem?_take,hkm,if_true,List.getElem?_drop,Array.getElem?_toList] at hv
      exact h4 _ _ _ hx hv
     ·cases hx
   ·cases hk
 | rp cs b o c hb hc _ hr=>
   simp only [xLda] at he
   split at he
   ·rename_i hle
    simp at he
    subst he
    refine ⟨_,(List.range m).map c,rfl,by simp,?_,?_⟩
    ·intro j u hu
     have hj:j < m:=by have:=(List.getElem?_eq_some_iff.1 hu).1;simpa using this
     rw [add_none,hw.cell0 hb,hc j (by omega)]
     simpa [hj] using hu
    ·refine .agg _ _ (by simp;omega) ?_
     intro k x v hx hv
     rw [List.getElem?_take] at hx
     split at hx
     ·rename_i hkm
      simp [hkm] at hv
      subst hv
      exact hr k x hx
     ·cases hx
   ·cases he
 | _=>cases he
theorem cells_sound {w0:World} {B:Nat} {x:AV} {v:Value} {vs:List AV} (hx:Rep w0 B φ x v) (he:x.cellsOf = some vs) :
 v.cells.size = vs.length ∧ (∀ u ∈ v.cells.toList,u.oneCell' = true) ∧ ∀ (k:Nat) y u,vs[k]? = some y → v.cells[k]? = some u → Rep w0 B φ y u:=by
 have one:∀ {y:AV} {u:Value},Rep w0 B φ y u → u.oneCell' = true → u.cells.size = 1 ∧ (∀ t ∈ u.cells.toList,t.oneCell' = true) ∧ ∀ (k:Nat) z t,[y][k]? = some z → u.cells[k]? = some t → Rep w0 B φ z t:=by
  intro y u hy hu
  have hc:u.cells = #[u]:=by cases u <;> first | rfl | (simp [Value.oneCell'] at hu)
  rw [hc]
  refine ⟨rfl,by simpa using hu,?_⟩
  intro k z t hz ht
  cases k with
  | zero=>simp at hz ht;subst hz;subst ht;exact hy
  | succ k=>simp at hz
 cases hx with
 | un v=>cases he
 | tup cs us hl hh=>cases he
 | und=>cases he
 | agg cs us hl hh=>
   simp only [AV.cellsOf] at he
   split at he
   ·rename_i hall
    simp at he
    subst he
    refine ⟨hl.symm,?_,hh⟩
    intro u hu
    obtain ⟨k,hk,rfl⟩:=List.getElem_of_mem hu
    have hk':k < us.size:=by simpa [Value.cells] using hk
    have hkc:k < cs.length:=by omega
    have:=(hh k cs[k] us[k] (List.getElem?_eq_getElem hkc) (Array.getElem?_eq_getElem hk')).oneCell (List.all_eq_true.1 hall _ (List.getElem_mem hkc))
    simpa [Value.cells] using this
   ·cases he
 | v y=>
   simp only [AV.cellsOf] at he
   split at he
   ·rename_i h1
    simp at he
    subst he
    exact one (.v _) h1
   ·cases he
 | ptr id ver off b n hφ=>simp [AV.cellsOf] at he;subst he;exact one (.ptr _ _ _ _ _ hφ) rfl
 | sl id ver off len sz b n cap hφ h1 h2 h3 h4=>simp [AV.cellsOf] at he;subst he;exact one (.sl _ _ _ _ _ _ _ _ hφ h1 h2 h3 h4) rfl
 | ro sz n f A cap b o c hcap hA hf hc h1 hr=>simp [AV.cellsOf] at he;subst he;exact one (.ro _ _ _ _ _ _ _ _ hcap hA hf hc h1 hr) rfl
 | rp cs b o c hb hc h1 hr=>simp [AV.cellsOf] at he;subst he;exact one (.rp _ _ _ _ hb hc h1 hr) rfl
 | fn f caps us hl hh=>simp [AV.cellsOf] at he;subst he;exact one (.fn _ _ _ hl hh) rfl
 | mp id b n hφ=>simp [AV.cellsOf] at he;subst he;exact one (.mp _ _ _ hφ) rfl
theorem rep_setCells {w0:World} {B:Nat} {cs vs:List AV} {ccs:Array Value} {us:List Value} {off:Nat} (hl:vs.length = us.length) (hle:off + vs.length ≤ cs.length) (hlc:cs.length ≤ ccs.size)
 (h1:∀ (k:Nat) x v,cs[k]? = some x → ccs[k]? = some v → Rep w0 B φ x v) (h2:∀ (k:Nat) x v,vs[k]? = some x → us[k]? = some v → Rep w0 B φ x v) :
 (setCells cs off vs).length = cs.length ∧ ∀ (k:Nat) x v,(setCells cs off vs)[k]? = some x → ((ccs.toList.take off ++ us ++ ccs.toList.drop (off + us.length)).toArray)[k]? = some v → Rep w0 B φ x v:=by
 refine ⟨by simp [setCells];omega,?_⟩
 intro k x v hx hv
 simp only [setCells,List.append_assoc] at hx
 simp only [List.append_assoc,List.getElem?_toArray] at hv
 have e1:(cs.take off).length = off:=by simp;omega
 have e2:(ccs.toList.take off).length = off:=by simp;omega
 by_cases hk:k < off
 ·rw [List.getElem?_append_left (by omega),List.getElem?_take,if_pos hk] at hx
  rw [List.getElem?_append_left (by omega),List.getElem?_take,if_pos hk,Array.getElem?_toList] at hv
  exact h1 k x v hx hv
 ·rw [List.getElem?_append_right (by omega),e1] at hx
  rw [List.getElem?_append_right (by omega),e2] at hv
  by_cases hk2:k - off < vs.length
  ·rw [List.getElem?_append_left hk2] at hx
   rw [List.getElem?_append_left (by omega)] at hv
   exact h2 _ x v hx hv
  ·rw [List.getElem?_append_right (by omega),List.getElem?_drop] at hx
   rw [List.getElem?_append_right (by omega),List.getElem?_drop,Array.getElem?_toList] at hv
   have:off + vs.length + (k - off - vs.length) = k:=by omega
   rw [this] at hx
   have:off + us.length + (k - off - us.length) = k:=by omega
   rw [this] at hv
   exact h1 k x v hx hv
theorem one_setCells {cs vs:List AV} {ccs:Array Value} {us:List Value} {off:Nat} (h6:∀ (k:Nat) v,k < cs.length → ccs[k]? = some v → v.oneCell' = true) (hone:∀ u ∈ us,u.oneCell' = true)
 (hle:off + us.length ≤ cs.length) (hlc:cs.length ≤ ccs.size) (e1:(setCells cs off vs).length = cs.length) :
 ∀ (k:Nat) v,k < (setCells cs off vs).length → ((ccs.toList.take off ++ us ++ ccs.toList.drop (off + us.length)).toArray)[k]? = some v → v.oneCell' = true:=by
 intro k v hk hv
 rw [e1] at hk
 simp only [List.append_assoc,List.getElem?_toArray] at hv
 have e2:(ccs.toList.take off).length = off:=by simp;omega
 by_cases hk1:k < off
 ·rw [List.getElem?_append_left (by omega),List.getElem?_take,if_pos hk1,Array.getElem?_toList] at hv
  exact h6 k v hk hv
 ·rw [List.getElem?_append_right (by omega),e2] at hv
  by_cases hk2:k - off < us.length
  ·rw [List.getElem?_append_left (by omega)] at hv
   exact hone v (List.mem_of_getElem? hv)
  ·rw [List.getElem?_append_right (by omega),List.getElem?_drop,Array.getElem?_toList] at hv
   have:off + us.length + (k - off - us.length) = k:=by omega
   rw [this] at hv
   exact h6 k v hk hv
def Good (cx:Cx) (φ:Phi) (h:AH) (w:World) (r:AV) (h':AH) (s:Sem Next):Prop:=
 ∃ nx v w' φ',s.run cx.P w = .ok nx w' ∧ (nx = .value v ∨ (nx = .skip ∧ v = undef)) ∧ Rep cx.w0 cx.B φ' r v ∧ RepW cx φ' h' w' ∧ Step φ h w φ' h' w'
theorem Good.quiet (hw:RepW cx φ h w) {s:Sem Next} {r:AV} {v:Value} (hr:s.run cx.P w = .ok (.value v) w) (hv:Rep cx.w0 cx.B φ r v):Good cx φ h w r h s:=
 ⟨_,v,w,φ,hr,.inl rfl,hv,hw,Step.refl _ _ _⟩
theorem Good.value (hw:RepW cx φ h w) {s:Sem Value} {r:AV} {v:Value} (hr:s.run cx.P w = .ok v w) (hv:Rep cx.w0 cx.B φ r v):Good cx φ h w r h (do pure (.value (← s))):=
 Good.quiet hw (by simp [hr]) hv
theorem run_underlying_of {P:Program} {t:TypeId} {d:TypeDesc} (hu:P.underlying t = some d) (w:World):(underlying t).run P w = .ok d w:=run_underlying hu w
theorem run_info_of {P:Program} {t:TypeId} {i:TypeInfo} (hu:P.info? t = some i) (w:World):(typeInfo t).run P w = .ok i w:=by simp [typeInfo,hu]
theorem run_sizeOf_of {P:Program} {t:TypeId} {i:TypeInfo} (hu:P.info? t = some i) (w:World):(sizeOf t).run P w = .ok i.size w:=by simp [sizeOf,run_info_of hu]
theorem run_isAgg_of {P:Program} {t:TypeId} {c:Bool} (hu:isAggB P t = some c) (w:World):(isAgg t).run P w = .ok c w:=by
 unfold isAggB at hu
 cases he:P.underlying t with
 | none=>simp [he] at hu
 | some d=>
   simp [he] at hu
   unfold isAgg
   simp only [Sem.run_bind,run_underlying_of he,Result.andThen_ok]
   subst hu
   cases d <;> rfl
theorem run_zero_of {P:Program} {t:TypeId} {z:Value} (hu:(P.info? t).bind (·.zero) = some z) (w:World):(zeroValue t).run P w = .ok z w:=by
 cases he:P.info? t with
 | none=>simp [he] at hu
 | some i=>
   simp [he] at hu
   simp [zeroValue,run_info_of he,hu]
theorem load_sound (hw:RepW cx φ h w) {t:TypeId} {x:AV} {v:Value} (hx:Rep cx.w0 cx.B φ x v) {c:Bool} (ha:isAggB cx.P t = some c) {i:TypeInfo} (hi:c = true → cx.P.info? t = some i) {r:AV}
 (he:(if c = true then xLda h i.size x else xLd1 h x) = some r):∃ u,(Instr.loadAt t v).run cx.P w = .ok u w ∧ Rep cx.w0 cx.B φ r u:=by
 cases c with
 | true=>
   simp only [if_true] at he
   obtain ⟨a,us,rfl,h1,h2,h3⟩:=lda_sound hw hx he
   refine ⟨_,?_,h3⟩
   simp only [Instr.loadAt,Instr.sureAddr,loadVar,Sem.run_bind,Sem.run_pure',pure,Sem.run,Result.andThen_ok,run_isAgg_of ha,if_true,run_sizeOf_of (hi rfl)]
   rw [← h1,run_loadCells_list w a us h2]
   simp [Sem.run]
 | false=>
   simp only [Bool.false_eq_true,if_false] at he
   obtain ⟨a,u,rfl,h1,h2⟩:=ld1_sound hw hx he
   refine ⟨_,?_,h2⟩
   simp [Instr.loadAt,Instr.sureAddr,loadVar,run_isAgg_of ha,h1]
theorem store_sound (hw:RepW cx φ h w) {t:TypeId} {x y:AV} {v u:Value} (hx:Rep cx.w0 cx.B φ x v) (hy:Rep cx.w0 cx.B φ y u) {i:TypeInfo} (hi:cx.P.info? t = some i)
 (he:xSt h i.size x y = some h'):∃ w',(Instr.storeAt t v u).run cx.P w = .ok () w' ∧ RepW cx φ h' w' ∧ Step φ h w φ h' w':=by
 unfold xSt at he
 split at he
 ·rename_i id ver off vs hc
  obtain ⟨hsz,hone,hrep⟩:=cells_sound hy hc
  simp only [Option.bind_eq_some_iff] at he
  obtain ⟨cs,hg,he⟩:=he
  split at he
  ·rename_i hle
   simp at he
   subst he
   cases hx with
   | ptr _ _ _ b n hφ=>
     obtain ⟨hn,ccs,T,h2,h5,h3,h4,h6⟩:=hw.cells_at hg hφ
     have hl:(u.cells.toList).length = vs.length:=by simpa using hsz
     have hst:=run_storeCells_at (P:=cx.P) b off T u.cells.toList 0 ccs w h2 (by simp [hsz];omega) hone
     simp only [Nat.add_zero] at hst
     obtain ⟨e1,e2⟩:=rep_setCells (φ:=φ) (cs:=cs) (vs:=vs) (ccs:=ccs) (us:=u.cells.toList) (off:=off) hl.symm (by omega) (by omega) h4 (fun k y z hk hz=>hrep k y z hk (by simpa using hz))
     refine ⟨w.setRow b (ccs.toList.take off ++ u.cells.toList ++ ccs.toList.drop (off + u.cells.toList.length)).toArray,?_,hw.put (get_some hg) rfl rfl hφ (Puts.setRow h2) ?_⟩
     ·simp only [Instr.storeAt,Instr.sureAddr,storeVar,Sem.run_bind,pure,Sem.run,Result.andThen_ok,run_sizeOf_of hi]
      rw [if_neg (by rw [hsz];omega)]
      exact hst
     ·exact ⟨by rw [e1];exact hn,_,T,setRow_heap w b ccs _ T _ h2,by simp;omega,by rw [e1];exact h3,e2,one_setCells h6 hone (by omega) (by omega) e1⟩
  ·cases he
 ·cases he
end Go.Eng
namespace Go.Eng
open Go.RowKit
variable {cx:Cx} {φ φ':Phi} {h h':AH} {w w':World} {b:Nat} {n:Nat × Nat} {s:XSt} {a:Act}
theorem bytes_eq (a b:ByteArray):(a.toList == b.toList) = decide (a = b):=by
 rw [Bool.eq_iff_iff]
 simp only [beq_iff_eq,decide_eq_true_eq]
 rw [ByteArray.toList_eq,ByteArray.toList_eq]
 constructor
 ·intro he
  cases a with | mk x=>cases b with | mk y=>
  have:x = y:=Array.ext' he
  rw [this]
 ·rintro rfl;rfl
theorem bin_sound {P:Program} {op:BinOp} {t:TypeId} {x y z:Value} (he:xBin op x y = some z) (w:World) (p q:Operand) :
 ((do eqGuard op t p q x y;binOp op t x y):Sem Value).run P w = .ok z w:=by
 unfold xBin at he
 split at he
 ·rename_i k a k' b
  have hg:(eqGuard op t p q (.int k a) (.int k' b)).run P w = .ok () w:=by
   unfold eqGuard
   cases op <;> rfl
  simp only [Sem.run_bind,hg,Result.andThen_ok]
  cases op <;> simp only [Option.ite_none_right_eq_some,Option.some.injEq] at he
  all_goals (obtain ⟨hc,rfl⟩:=he)
  all_goals first
   | (simp [binOp,Op.shift,Op.intArith,Op.intDiv,Op.intBits,Op.intCmp,hc];done)
   | (have:¬ b < 0:=by omega
      simp [binOp,Op.shift,this];done)
   | (subst hc;simp [binOp,Op.intCmp,bne];done)
   | (subst hc;simp [binOp,Op.intCmp,bne];rfl)
 ·rename_i a b
  have hg:(eqGuard op t p q (.string a) (.string b)).run P w = .ok () w:=by
   unfold eqGuard
   cases op <;> rfl
  simp only [Sem.run_bind,hg,Result.andThen_ok]
  cases op <;> simp only [Option.ite_none_right_eq_some,Option.some.injEq,reduceCtorEq] at he
  all_goals first
   | (subst he;simp [binOp,Op.stringOp,bytes_eq];done)
   | (obtain ⟨hc,rfl⟩:=he
      have:¬ (((a.size + b.size:Nat):Int) > IntKind.i64.max):=by omega
      simp only [binOp,Op.stringOp]
      rw [if_neg this]
      rfl)
 ·cases he
theorem un_sound {P:Program} {op:UnOp} {x z:Value} (he:xUn op x = some z) (w:World):(Op.unary op x).run P w = .ok z w:=by
 unfold xUn at he
 split at he
 ·cases op <;> simp only [Option.some.injEq,reduceCtorEq] at he <;> subst he <;> rfl
 ·cases op <;> simp only [Option.some.injEq,reduceCtorEq] at he <;> subst he <;> rfl
 ·cases he
theorem beq_sound {P:Program} {eq:Bool} {t:TypeId} {p q:Bool} (hu:P.underlying t = some .bool) (w:World) (x y:Operand) :
 ((do eqGuard (if eq then .eql else .neq) t x y (.bool p) (.bool q);binOp (if eq then .eql else .neq) t (.bool p) (.bool q)):Sem Value).run P w = .ok (.bool (if eq then p == q else !(p == q))) w:=by
 have hg:(eqGuard (if eq then .eql else .neq) t x y (.bool p) (.bool q)).run P w = .ok () w:=by cases eq <;> rfl
 simp only [Sem.run_bind,hg,Result.andThen_ok]
 have he:(Op.equal t (.bool p) (.bool q)).run P w = .ok (p == q) w:=by
  show (Op.equalIn (9999 + 1) t (.bool p) (.bool q)).run P w = _
  rw [Op.equalIn]
  simp only [Sem.run_bind,run_underlying_of hu,Result.andThen_ok]
  rfl
 cases eq <;> simp [binOp,he]
theorem hi_le {hi:Option AV} {n k:Nat} (he:xHi hi n = some k):k ≤ n:=by
 unfold xHi at he
 split at he
 ·simp at he;omega
 ·split at he
  ·simp at he;omega
  ·cases he
 ·cases he
def RepOpt (w0:World) (B:Nat) (φ:Phi) (x:Option AV) (v:Option Value):Prop:=(x = none ∧ v = none) ∨ ∃ y u,x = some y ∧ v = some u ∧ Rep w0 B φ y u
theorem bound_sound {P:Program} {w0:World} {B:Nat} {kk:IntKind} {i:Int} {u:Value} {m:Nat} {code:BoundsCode} {w:World} (hu:Rep w0 B φ (.v (.int kk i)) u) (h0:0 ≤ i) (hm:i ≤ m) :
 (Instr.sliceBound u m code).run P w = .ok i.toNat w:=by
 cases hu
 simp [Instr.sliceBound,asIntOf,h0,hm]
theorem lo_le {lo:Option AV} {h k:Nat} (he:xLo lo h = some k):k ≤ h:=by
 unfold xLo at he
 split at he
 ·simp at he;omega
 ·split at he
  ·simp at he;omega
  ·cases he
 ·cases he
theorem bounds_sound {P:Program} {w0:World} {B:Nat} {lo hi:Option AV} {vl vh:Option Value} {len cap k l:Nat} {isSl:Bool} (w:World)
 (hvl:RepOpt w0 B φ lo vl) (hvh:RepOpt w0 B φ hi vh) (hh:xHi hi len = some k) (hl:xLo lo k = some l) (hm:len ≤ cap) :
 (Instr.sliceBounds isSl len cap vl vh none).run P w = .ok (l,k,cap) w ∧ l ≤ k ∧ k ≤ len:=by
 refine ⟨?_,lo_le hl,hi_le hh⟩
 have h1:∀ u code,vh = some u → (Instr.sliceBound u cap code).run P w = .ok k w:=by
  intro u code hu
  rcases hvh with ⟨rfl,rfl⟩ | ⟨y,u',rfl,rfl,hr⟩
  ·cases hu
  ·cases hu
   unfold xHi at hh
   split at hh
   ·contradiction
   ·rename_i he
    split at hh
    ·rename_i hc
     cases he
     simp at hh
     subst hh
     exact bound_sound hr hc.1 (by omega)
    ·cases hh
   ·cases hh
 have h2:∀ u code,vl = some u → (Instr.sliceBound u k code).run P w = .ok l w:=by
  intro u code hu
  rcases hvl with ⟨rfl,rfl⟩ | ⟨y,u',rfl,rfl,hr⟩
  ·cases hu
  ·cases hu
   unfold xLo at hl
   split at hl
   ·contradiction
   ·rename_i he
    split at hl
    ·rename_i hc
     cases he
     simp at hl
     subst hl
     exact bound_sound hr hc.1 hc.2
    ·cases hl
   ·cases hl
 have h3:vh = none → k = len:=by
  rintro rfl
  rcases hvh with ⟨rfl,_⟩ | ⟨y,u',_,h,_⟩
  ·simpa [xHi] using hh.symm
  ·cases h
 have h4:vl = none → l = 0:=by
  rintro rfl
  rcases hvl with ⟨rfl,_⟩ | ⟨y,u',_,h,_⟩
  ·simpa [xLo] using hl.symm
  ·cases h
 cases vh with
 | none=>
   have:=h3 rfl
   cases vl with
   | none=>simp [Instr.sliceBounds,h3,h4]
   | some ul=>subst this;simp [Instr.sliceBounds,h2 ul _ rfl]
 | some uh=>
   cases vl with
   | none=>simp [Instr.sliceBounds,h1 uh _ rfl,h4]
   | some ul=>simp [Instr.sliceBounds,h1 uh _ rfl,h2 ul _ rfl]
end Go.Eng
namespace Go.Eng
open Go.RowKit
variable {cx:Cx} {φ φ':Phi} {h h':AH} {w w':World} {b:Nat} {n:Nat × Nat} {s:XSt} {a:Act}
theorem repO_new {w0:World} {B:Nat} {cx:Cx} {cs:List AV} {us:Array Value} {T:TypeId} {b:Nat} {w':World} (hb:w'.heap[b]? = some (.cells us T (0,0))) (hl:cs.length ≤ us.size)
 (hr:∀ (k:Nat) x v,cs[k]? = some x → us[k]? = some v → Rep cx.w0 cx.B φ x v) (h1:∀ (k:Nat) v,k < cs.length → us[k]? = some v → v.oneCell' = true):∀ φ',Ext φ φ' → RepO cx φ' w' b (cs.length,us.size) (.cells 0 cs):=
 fun φ' he=>⟨rfl,us,T,hb,rfl,hl,fun k x v hx hv=>(hr k x v hx hv).ext he,h1⟩
theorem Good.newObj (hw:RepW cx φ h w) {cs:List AV} {us:Array Value} {T:TypeId} {s:Sem Next} (hl:cs.length ≤ us.size) (hr:∀ (k:Nat) x v,cs[k]? = some x → us[k]? = some v → Rep cx.w0 cx.B φ x v)
 (h1':∀ (k:Nat) v,k < cs.length → us[k]? = some v → v.oneCell' = true) {v:Value} {r:AV} {w':World} (ha:Adds w (.cells us T (0,0)) w') (hrun:s.run cx.P w = .ok (.value v) w')
 (hv:∀ φ':Phi,φ' h.length 0 = some (w.heap.size,cs.length,us.size) → Rep cx.w0 cx.B φ' r v):Good cx φ h w r (h ++ [.cells 0 cs]) s:=by
 obtain ⟨h1,h2⟩:=hw.new hw.hB ha (.cells 0 cs) rfl (cs.length,us.size) (repO_new (w0:=cx.w0) (B:=cx.B) ha.new hl hr h1')
 exact ⟨_,v,w',_,hrun,.inl rfl,hv _ (newPhi_self _ _ _ _ _),h1,h2⟩
theorem run_newRow (P:Program) (t:TypeId) (cs:Array Value) (w:World):(newRow t cs).run P w = .ok ⟨w.heap.size,0,none⟩ (w.alloc (.cells cs t)):=by
 simp [newRow]
theorem repOpt_ev (hs:RepSt cx φ s a w) (x:Option Operand):RepOpt cx.w0 cx.B φ ((x.map opd).map (s.ev cx)) (x.map a.eval):=by
 cases x with
 | none=>exact .inl ⟨rfl,rfl⟩
 | some x=>exact .inr ⟨_,_,rfl,rfl,hs.ev x⟩
theorem sls_sound (hw:RepW cx φ h w) {t e:TypeId} {j:TypeInfo} (hu:cx.P.underlying t = some (.slice e)) (hj:cx.P.info? e = some j) {x r:AV} {v:Value} {lo hi:Option AV} {vl vh:Option Value}
 (hx:Rep cx.w0 cx.B φ x v) (hl:RepOpt cx.w0 cx.B φ lo vl) (hh:RepOpt cx.w0 cx.B φ hi vh) (he:xSls j.size x lo hi = some r):∃ u,(Instr.sliceAt t v vl vh none).run cx.P w = .ok u w ∧ Rep cx.w0 cx.B φ r u:=by
 have hun:(Instr.sliceAt t v vl vh none).run cx.P w = (Instr.slice t v vl vh none).run cx.P w:=by
  simp [Instr.sliceAt,run_underlying_of hu]
 rw [hun]
 cases hx with
 | sl id ver off len sz b n cap hφ h1 h2 h3 h4=>
   simp only [xSls] at he
   split at he
   ·rename_i hsz
    subst hsz
    simp only [Option.bind_eq_some_iff] at he
    obtain ⟨k,hk,l,hlo,he⟩:=he
    obtain ⟨hb,hlk,hkl⟩:=bounds_sound (P:=cx.P) (isSl:=true) (cap:=cap) w hl hh hk hlo h3
    have hrun:(Instr.slice t (.slice (some ⟨b,off,none⟩) len cap) vl vh none).run cx.P w = .ok (.slice (if cap = l then some ⟨b,off,none⟩ else some ⟨b,off + l * j.size,none⟩) (k - l) (cap - l)) w:=by
     simp [Instr.slice,run_underlying_of hu,hb,run_sizeOf_of hj,add_none]
    rw [hrun]
    split at he
    ·rename_i hc
     simp at he
     subst he
     refine ⟨_,rfl,?_⟩
     have hA:(if cap = l then some (⟨b,off,none⟩:Addr) else some ⟨b,off + l * j.size,none⟩) = some ⟨b,off + l * j.size,none⟩:=by
      by_cases hcl:cap = l
      ·rcases hc with hc | hc
       ·omega
       ·subst hc;simp
      ·rw [if_neg hcl]
     rw [hA]
     have e1:l * j.size + (k - l) * j.size = k * j.size:=by rw [← Nat.add_mul];congr 1;omega
     have e2:l * j.size + (cap - l) * j.size = cap * j.size:=by rw [← Nat.add_mul];congr 1;omega
     have e3:k * j.size ≤ len * j.size:=Nat.mul_le_mul_right _ hkl
     exact .sl _ _ _ _ _ _ _ _ hφ (by omega) (by omega) (by omega) (by omega)
    ·rename_i hc
     simp at he
     subst he
     have:k - l = 0:=by omega
     rw [this]
     exact ⟨_,rfl,.ro _ 0 _ _ _ 0 0 (fun _ _=>undef) (Nat.zero_le _) (fun h=>by omega) (fun i h=>by omega) (fun i k h=>by omega) (fun i k h=>by omega) (fun i k x h=>by omega)⟩
   ·cases he
 | ro sz n f A cap b o c hcap hA hf hc hc1 hr=>
   simp only [xSls] at he
   split at he
   ·rename_i hsz
    subst hsz
    simp only [Option.bind_eq_some_iff] at he
    obtain ⟨k,hk,l,hlo,he⟩:=he
    obtain ⟨hb,hlk,hkl⟩:=bounds_sound (P:=cx.P) (isSl:=true) (cap:=cap) w hl hh hk hlo hcap
    simp at he
    subst he
    have hrun:(Instr.slice t (.slice A n cap) vl vh none).run cx.P w = .ok (.slice (if cap = l then A else A.map (·.add (l * j.size))) (k - l) (cap - l)) w:=by
     simp [Instr.slice,run_underlying_of hu,hb,run_sizeOf_of hj]
    rw [hrun]
    refine ⟨_,rfl,.ro _ _ _ _ _ b (o + l * j.size) (fun i k=>c (l + i) k) (by omega) ?_ ?_ ?_ ?_ ?_⟩
    ·intro hp
     obtain ⟨hA1,hA2⟩:=hA (by omega)
     subst hA1
     rw [if_neg (by omega)]
     exact ⟨by simp [add_none],hA2⟩
    ·intro i hi
     exact hf _ (by omega)
    ·intro i k hi hk
     have:=hc (l + i) k (by omega) hk
     rw [Nat.add_mul] at this
     rw [Nat.add_assoc o]
     exact this
    ·intro i k hi hk
     exact hc1 _ _ (by omega) hk
    ·intro i k x hi hx
     exact hr _ _ _ (by omega) hx
   ·cases he
 | v y=>
   unfold xSls at he
   split at he
   ·rename_i h;cases h
   ·rename_i h;cases h
   ·rename_i A c h
    cases h
    simp only [Option.bind_eq_some_iff] at he
    obtain ⟨k,hk,l,hlo,he⟩:=he
    obtain ⟨hb,hlk,hkl⟩:=bounds_sound (P:=cx.P) (isSl:=true) (cap:=c) w hl hh hk hlo (Nat.zero_le _)
    simp at he
    subst he
    have hk0:k = 0:=by omega
    have hl0:l = 0:=by omega
    subst hk0 hl0
    refine ⟨_,?_,.v _⟩
    simp [Instr.slice,run_underlying_of hu,hb,run_sizeOf_of hj]
    cases A with
    | none=>simp
    | some A=>simp [Addr.add]
   ·cases he
 | _=>cases he
theorem slsX_sound (hw:RepW cx φ h w) {t e:TypeId} {j:TypeInfo} (hu:cx.P.underlying t = some (.slice e)) (hj:cx.P.info? e = some j) {x r:AV} {v:Value} {lo hi:Option AV} {vl vh:Option Value}
 (hx:Rep cx.w0 cx.B φ x v) (hl:RepOpt cx.w0 cx.B φ lo vl) (hh:RepOpt cx.w0 cx.B φ hi vh) (he:xSlsX h j.size x lo hi = some r):∃ u,(Instr.sliceAt t v vl vh none).run cx.P w = .ok u w ∧ Rep cx.w0 cx.B φ r u:=by
 unfold xSlsX at he
 split at he
 ·rename_i id ver off len sz' kk i
  split at he
  ·rename_i hc
   obtain ⟨rfl,hs,hi0⟩:=hc
   simp only [Option.bind_eq_some_iff] at he
   obtain ⟨cs,hg,he⟩:=he
   split at he
   ·rename_i hle
    simp only [Option.bind_eq_some_iff] at he
    obtain ⟨l,hlo,he⟩:=he
    split at he
    ·rename_i hc2
     simp at he
     subst he
     cases hx with
     | sl _ _ _ _ _ b n cap hφ h1 h2 h3 h4=>
       obtain ⟨hn,_⟩:=hw.rd_at hg hφ
       have hn1:n.1 = cs.length:=by rw [hn]
       have hic:i.toNat ≤ cap:=by
        have:i.toNat * j.size ≤ cap * j.size:=by omega
        exact Nat.le_of_mul_le_mul_right this hs
       obtain ⟨hb,hlk,hkl⟩:=bounds_sound (P:=cx.P) (isSl:=true) (len:=i.toNat) (cap:=cap) w hl hh (k:=i.toNat) (by simp [xHi];omega) hlo hic
       have hun:(Instr.sliceAt t (.slice (some ⟨b,off,none⟩) len cap) vl vh none).run cx.P w = (Instr.slice t (.slice (some ⟨b,off,none⟩) len cap) vl vh none).run cx.P w:=by
        simp [Instr.sliceAt,run_underlying_of hu]
       rw [hun]
       have hb':(Instr.sliceBounds true len cap vl vh none).run cx.P w = .ok (l,i.toNat,cap) w:=by
        rcases hh with ⟨q,_⟩ | ⟨y,u,q1,rfl,q3⟩
        ·cases q
        ·exact hb
       have hrun:(Instr.slice t (.slice (some ⟨b,off,none⟩) len cap) vl vh none).run cx.P w = .ok (.slice (if cap = l then some ⟨b,off,none⟩ else some ⟨b,off + l * j.size,none⟩) (i.toNat - l) (cap - l)) w:=by
        simp [Instr.slice,run_underlying_of hu,hb',run_sizeOf_of hj,add_none]
       rw [hrun]
       refine ⟨_,rfl,?_⟩
       have hA:(if cap = l then some (⟨b,off,none⟩:Addr) else some ⟨b,off + l * j.size,none⟩) = some ⟨b,off + l * j.size,none⟩:=by
        by_cases hcl:cap = l
        ·rcases hc2 with hc2 | hc2
         ·omega
         ·subst hc2;simp
        ·rw [if_neg hcl]
       rw [hA]
       have e1:l * j.size + (i.toNat - l) * j.size = i.toNat * j.size:=by rw [← Nat.add_mul];congr 1;omega
       have e2:l * j.size + (cap - l) * j.size = cap * j.size:=by rw [← Nat.add_mul];congr 1;omega
       exact .sl _ _ _ _ _ _ _ _ hφ (by omega) (by omega) (by omega) (by omega)
    ·cases he
   ·cases he
  ·cases he
 ·cases he
theorem slt_sound {t:TypeId} (hu:cx.P.underlying t = some .string) {x r:AV} {v:Value} {lo hi:Option AV} {vl vh:Option Value} (w:World)
 (hx:Rep cx.w0 cx.B φ x v) (hl:RepOpt cx.w0 cx.B φ lo vl) (hh:RepOpt cx.w0 cx.B φ hi vh) (he:xSlt x lo hi = some r):∃ u,(Instr.sliceAt t v vl vh none).run cx.P w = .ok u w ∧ Rep cx.w0 cx.B φ r u:=by
 have hun:(Instr.sliceAt t v vl vh none).run cx.P w = (Instr.slice t v vl vh none).run cx.P w:=by
  simp [Instr.sliceAt,run_underlying_of hu]
 rw [hun]
 unfold xSlt at he
 split at he
 ·cases hx
  rename_i s
  simp only [Option.bind_eq_some_iff] at he
  obtain ⟨k,hk,l,hlo,he⟩:=he
  obtain ⟨hb,hlk,hkl⟩:=bounds_sound (P:=cx.P) (isSl:=false) (cap:=s.size) w hl hh hk hlo (Nat.le_refl _)
  simp at he
  subst he
  exact ⟨_,by simp [Instr.slice,run_underlying_of hu,hb],.v _⟩
 ·cases he
theorem sla_sound (hw:RepW cx φ h w) {t e:TypeId} {m:Nat} {j:TypeInfo} (hu:cx.P.underlying t = some (.array m e)) (hj:cx.P.info? e = some j) {x r:AV} {v:Value} {lo hi:Option AV} {vl vh:Option Value}
 (hx:Rep cx.w0 cx.B φ x v) (hl:RepOpt cx.w0 cx.B φ lo vl) (hh:RepOpt cx.w0 cx.B φ hi vh) (he:xSla j.size m x lo hi = some r):∃ u,(Instr.sliceAt t v vl vh none).run cx.P w = .ok u w ∧ Rep cx.w0 cx.B φ r u:=by
 unfold xSla at he
 split at he
 ·rename_i cs
  split at he
  ·rename_i hlen
   simp at he
   subst he
   rcases hl with ⟨_,rfl⟩ | ⟨y,u,h,_⟩
   ·rcases hh with ⟨_,rfl⟩ | ⟨y,u,h,_⟩
    ·cases hx with
     | rp _ b o c hb hc hc1 hr=>
       have hrun:(Instr.sliceAt t (.pointer (some ⟨b,o,none⟩)) none none none).run cx.P w = .ok (.slice (some ⟨b,o,none⟩) m m) w:=by
        by_cases hm:m = 0
        ·subst hm
         simp [Instr.sliceAt,run_underlying_of hu,Instr.sureAddr,Instr.sliceBounds,run_sizeOf_of hj]
        ·simp [Instr.sliceAt,run_underlying_of hu,Instr.sureAddr,Instr.sliceBounds,run_sizeOf_of hj,add_none,hm]
       rw [hrun]
       have hle:∀ i k,i < m → k < j.size → i * j.size + k < cs.length:=by
        intro i k hi hk
        rw [hlen]
        calc i * j.size + k < i * j.size + j.size:=by omega
         _ = (i + 1) * j.size:=by rw [Nat.add_mul];omega
         _ ≤ m * j.size:=Nat.mul_le_mul_right _ (by omega)
       refine ⟨_,rfl,.ro _ _ _ _ _ b o (fun i k=>c (i * j.size + k)) (Nat.le_refl _) (fun _=>⟨rfl,hb⟩) ?_ ?_ ?_ ?_⟩
       ·intro i hi
        simp only [List.length_take,List.length_drop]
        by_cases hz:j.size = 0
        ·omega
        ·have:=hle i (j.size - 1) hi (by omega)
         omega
       ·intro i k hi hk
        rw [Nat.add_assoc]
        exact hc _ (hle i k hi hk)
       ·intro i k hi hk
        exact hc1 _ (hle i k hi hk)
       ·intro i k x hi hx
        rw [List.getElem?_take] at hx
        split at hx
        ·rw [List.getElem?_drop] at hx
         exact hr _ _ hx
        ·cases hx
    ·cases h
   ·cases h
  ·cases he
 ·cases he
theorem iad_sound {t e:TypeId} {j:TypeInfo} (hu:cx.P.underlying t = some (.slice e)) (hj:cx.P.info? e = some j) {x i r:AV} {v u:Value} (w:World)
 (hx:Rep cx.w0 cx.B φ x v) (hi:Rep cx.w0 cx.B φ i u) (he:xIad j.size x i = some r):∃ z,(Instr.indexAt t v u).run cx.P w = .ok z w ∧ Rep cx.w0 cx.B φ r z:=by
 unfold xIad at he
 split at he
 ·rename_i id ver off len sz' kk i
  split at he
  ·rename_i hc
   simp at he
   subst he
   cases hi
   cases hx with
   | sl _ _ _ _ _ b n cap hφ h1 h2 h3 h4=>
     refine ⟨.pointer (some ⟨b,off + i.toNat * j.size,none⟩),?_,.ptr _ _ _ _ _ hφ⟩
     have:0 ≤ i ∧ i < (len:Int):=hc.2
     simp [Instr.indexAt,asIntOf,run_underlying_of hu,this,run_sizeOf_of hj,add_none]
  ·cases he
 ·rename_i sz' m f kk i
  split at he
  ·rename_i hc
   obtain ⟨rfl,h1,h2⟩:=hc
   simp at he
   subst he
   cases hi
   cases hx with
   | ro _ _ _ A cap b o c hcap hA hf hcc hc1 hr=>
     obtain ⟨rfl,hb⟩:=hA (by omega)
     have hlt:i.toNat < m:=by omega
     refine ⟨.pointer (some ⟨b,o + i.toNat * j.size,none⟩),?_,.rp _ _ _ (c i.toNat) hb ?_ ?_ ?_⟩
     ·simp [Instr.indexAt,asIntOf,run_underlying_of hu,h1,h2,run_sizeOf_of hj,add_none]
     ·intro k hk
      exact hcc _ _ hlt (by rw [← hf _ hlt];exact hk)
     ·intro k hk
      exact hc1 _ _ hlt (by rw [← hf _ hlt];exact hk)
     ·intro k x hx
      exact hr _ _ _ hlt hx
  ·cases he
 ·cases he
theorem iaa_sound {t e:TypeId} {m:Nat} {j:TypeInfo} (hu:cx.P.underlying t = some (.array m e)) (hj:cx.P.info? e = some j) {x i r:AV} {v u:Value} (w:World)
 (hx:Rep cx.w0 cx.B φ x v) (hi:Rep cx.w0 cx.B φ i u) (he:xIaa j.size m x i = some r):∃ z,(Instr.indexAt t v u).run cx.P w = .ok z w ∧ Rep cx.w0 cx.B φ r z:=by
 unfold xIaa at he
 split at he
 ·rename_i id ver off kk i
  split at he
  ·rename_i hc
   simp at he
   subst he
   cases hi
   cases hx with
   | ptr _ _ _ b n hφ=>
     refine ⟨.pointer (some ⟨b,off + i.toNat * j.size,none⟩),?_,.ptr _ _ _ _ _ hφ⟩
     simp [Instr.indexAt,asIntOf,run_underlying_of hu,Instr.sureAddr,hc.1,hc.2,run_sizeOf_of hj,add_none]
  ·cases he
 ·rename_i cs kk i
  split at he
  ·rename_i hc
   simp at he
   subst he
   cases hi
   cases hx with
   | rp _ b o c hb hcc hc1 hr=>
     refine ⟨.pointer (some ⟨b,o + i.toNat * j.size,none⟩),?_,.rp _ _ _ (fun k=>c (i.toNat * j.size + k)) hb ?_ ?_ ?_⟩
     ·simp [Instr.indexAt,asIntOf,run_underlying_of hu,Instr.sureAddr,hc.1,hc.2,run_sizeOf_of hj,add_none]
     ·intro k hk
      rw [Nat.add_assoc]
      exact hcc _ (by simp at hk;omega)
     ·intro k hk
      exact hc1 _ (by simp at hk;omega)
     ·intro k x hx
      rw [List.getElem?_drop] at hx
      exact hr _ _ hx
  ·cases he
 ·cases he
theorem fad_sound {t:TypeId} {fs:Array Field} {fd:Field} {f:Nat} {i:TypeInfo} (hu:cx.P.underlying t = some (.struct fs)) (hf:fs[f]? = some fd) (hi:cx.P.info? fd.type = some i) (hz:i.size ≠ 0)
 {x r:AV} {v:Value} (w:World) (hx:Rep cx.w0 cx.B φ x v) (he:xFad fd.offset x = some r):∃ z,(Instr.fieldAt t v f).run cx.P w = .ok z w ∧ Rep cx.w0 cx.B φ r z:=by
 unfold xFad at he
 split at he
 ·rename_i id ver off
  simp at he
  subst he
  cases hx with
  | ptr _ _ _ b n hφ=>
    refine ⟨.pointer (some ⟨b,off + fd.offset,none⟩),?_,.ptr _ _ _ _ _ hφ⟩
    simp [Instr.fieldAt,run_underlying_of hu,hf,Instr.sureAddr,fieldPlace,run_sizeOf_of hi,hz,add_none]
 ·simp at he
  subst he
  cases hx with
  | rp cs b o c hb hcc hc1 hr=>
    refine ⟨.pointer (some ⟨b,o + fd.offset,none⟩),?_,.rp _ _ _ (fun k=>c (fd.offset + k)) hb ?_ ?_ ?_⟩
    ·simp [Instr.fieldAt,run_underlying_of hu,hf,Instr.sureAddr,fieldPlace,run_sizeOf_of hi,hz,add_none]
    ·intro k hk
     rw [Nat.add_assoc]
     exact hcc _ (by simp at hk;omega)
    ·intro k hk
     exact hc1 _ (by simp at hk;omega)
    ·intro k x hx
     rw [List.getElem?_drop] at hx
     exact hr _ _ hx
 ·cases he
theorem fld_sound {t:TypeId} {fs:Array Field} {fd:Field} {f:Nat} {c:Bool} (hu:cx.P.underlying t = some (.struct fs)) (hf:fs[f]? = some fd) (ha:isAggB cx.P fd.type = some c) {i:TypeInfo} (hi:c = true → cx.P.info? fd.type = some i)
 {x r:AV} {v:Value} (w:World) (hx:Rep cx.w0 cx.B φ x v) (he:xFld fd.offset (if c = true then some i.size else none) x = some r):∃ z,(Instr.field t v f).run cx.P w = .ok z w ∧ Rep cx.w0 cx.B φ r z:=by
 unfold xFld at he
 split at he
 ·cases hx with
  | agg cs vs hl hr=>
    cases c with
    | false=>
      simp only [Bool.false_eq_true,if_false] at he
      have hlt:fd.offset < vs.size:=by have:=(List.getElem?_eq_some_iff.1 he).1;omega
      refine ⟨vs[fd.offset],?_,hr _ _ _ he (Array.getElem?_eq_getElem hlt)⟩
      simp [Instr.field,run_underlying_of hu,hf,asAgg,part,run_isAgg_of ha,hlt]
    | true=>
      simp only [if_true] at he
      split at he
      ·rename_i hle
       simp at he
       subst he
       refine ⟨.agg (vs.extract fd.offset (fd.offset + i.size)),?_,.agg _ _ (by simp;omega) ?_⟩
       ·simp [Instr.field,run_underlying_of hu,hf,asAgg,part,run_isAgg_of ha,run_sizeOf_of (hi rfl)]
       ·intro k x v hx hv
        rw [List.getElem?_take] at hx
        split at hx
        ·rw [List.getElem?_drop] at hx
         rw [Array.getElem?_extract] at hv
         split at hv
         ·exact hr _ _ _ hx hv
         ·cases hv
        ·cases hx
      ·cases he
 ·cases he
theorem lenS_sound {x r:AV} {v:Value} (hx:Rep cx.w0 cx.B φ x v) (he:xLenS x = some r):∃ s,v = .string s ∧ r = .v (.int .i64 s.size):=by
 unfold xLenS at he
 split at he
 ·cases hx;simp at he;exact ⟨_,rfl,he.symm⟩
 ·cases he
theorem lenL_sound {x r:AV} {v:Value} (hx:Rep cx.w0 cx.B φ x v) (he:xLenL x = some r):∃ A n c,v = .slice A n c ∧ r = .v (.int .i64 n):=by
 unfold xLenL at he
 split at he
 ·cases hx;simp at he;exact ⟨_,_,_,rfl,he.symm⟩
 ·cases hx;simp at he;exact ⟨_,_,_,rfl,he.symm⟩
 ·cases hx;simp at he;exact ⟨_,_,_,rfl,he.symm⟩
 ·cases he
end Go.Eng
namespace Go.Eng
open Go.RowKit
variable {cx:Cx} {φ φ':Phi} {h h':AH} {w w':World} {b:Nat} {n:Nat × Nat} {s:XSt} {a:Act}
theorem foldSet (off:Nat):∀ (l:List Value) (k:Nat) (cells:Array Value),off + k + l.length ≤ cells.size →
 (l.zipIdx k).foldl (fun cs p=>cs.setIfInBounds (off + p.2) p.1) cells = (cells.toList.take (off + k) ++ l ++ cells.toList.drop (off + k + l.length)).toArray
 | [],k,cells,_=>by simp
 | v :: r,k,cells,hl=>by
   simp only [List.length_cons] at hl
   rw [List.zipIdx_cons,List.foldl_cons]
   simp only
   rw [foldSet off r (k + 1) _ (by simp;omega)]
   have e:=list_seg_step cells.toList (off + k) v r (by simp;omega)
   simp only [Array.toList_setIfInBounds,List.length_cons]
   rw [← e]
   simp [Nat.add_assoc]
theorem splice_size {ccs:Array Value} {us:List Value} {off:Nat} (h:off + us.length ≤ ccs.size):((ccs.toList.take off ++ us ++ ccs.toList.drop (off + us.length)).toArray).size = ccs.size:=by
 simp only [List.size_toArray,List.length_append,List.length_take,List.length_drop,Array.length_toList]
 omega
theorem fill_sound {w0:World} {B:Nat} {place:Nat → Option (Nat × Nat)}:∀ (ps:List (Nat × Value)) (xs:List (Nat × Nat × AV)) (cs cs':List AV) (ccs:Array Value),
 ps.length = xs.length → (∀ (k:Nat) p x,ps[k]? = some p → xs[k]? = some x → place p.1 = some (x.1,x.2.1) ∧ Rep w0 B φ x.2.2 p.2) → xFill cs xs = some cs' → cs.length = ccs.size →
 (∀ (k:Nat) x v,cs[k]? = some x → ccs[k]? = some v → Rep w0 B φ x v) → (∀ (k:Nat) v,k < cs.length → ccs[k]? = some v → v.oneCell' = true) →
 ∃ ccs',Instr.fill place ccs ps = some ccs' ∧ ccs'.size = ccs.size ∧ cs'.length = cs.length ∧ (∀ (k:Nat) x v,cs'[k]? = some x → ccs'[k]? = some v → Rep w0 B φ x v) ∧ ∀ (k:Nat) v,k < cs'.length → ccs'[k]? = some v → v.oneCell' = true
 | [],[],cs,cs',ccs,_,_,he,hl,h1,h2=>by
   simp only [xFill,Option.some.injEq] at he
   subst he
   exact ⟨ccs,rfl,rfl,rfl,h1,h2⟩
 | [],_ :: _,_,_,_,hlen,_,_,_,_,_=>by simp at hlen
 | _ :: _,[],_,_,_,hlen,_,_,_,_,_=>by simp at hlen
 | (i,v) :: ps,(off,sz,x) :: xs,cs,cs',ccs,hlen,hp,he,hl,h1,h2=>by
   obtain ⟨hp1,hp2⟩:=hp 0 _ _ rfl rfl
   simp only [xFill] at he
   split at he
   ·rename_i vs hc
    split at he
    ·rename_i hle
     obtain ⟨hsz,hone,hrep⟩:=cells_sound hp2 hc
     have hu:v.cells.toList.length = vs.length:=by simpa using hsz
     have hu2:v.cells.toList.length = v.cells.size:=by simp
     obtain ⟨e1,e2⟩:=rep_setCells (φ:=φ) (cs:=cs) (vs:=vs) (ccs:=ccs) (us:=v.cells.toList) (off:=off) hu.symm (by omega) (by omega) h1 (fun k y z hk hz=>hrep k y z hk (by simpa using hz))
     have e3:=one_setCells (cs:=cs) (vs:=vs) (ccs:=ccs) (us:=v.cells.toList) (off:=off) h2 hone (by omega) (by omega) e1
     obtain ⟨ccs',f1,f2,f3,f4,f5⟩:=fill_sound ps xs (setCells cs off vs) cs' (ccs.toList.take off ++ v.cells.toList ++ ccs.toList.drop (off + v.cells.toList.length)).toArray (by simpa using hlen)
      (fun k p y hk hy=>hp (k + 1) p y hk hy) he (by rw [e1,splice_size (by omega)];exact hl) e2 e3
     refine ⟨ccs',?_,?_,by rw [f3,e1],f4,f5⟩
     ·simp only [Instr.fill,hp1]
      rw [if_neg (by simp only [ne_eq,Bool.or_eq_true,decide_eq_true_eq];omega)]
      have:=foldSet off v.cells.toList 0 ccs (by omega)
      simp only [Nat.add_zero] at this
      rw [← this] at f1
      rw [← f1]
      congr 1
      rw [← Array.foldl_toList,Array.toList_zipIdx]
     ·rw [f2,splice_size (by omega)]
    ·cases he
   ·cases he
theorem run_places {P:Program}:∀ (fs:List Field) (pl:List (Nat × Nat)),xPlaces P fs = some pl → ∀ w,(fs.mapM fun f=>do pure (f.offset,← sizeOf f.type):Sem (List (Nat × Nat))).run P w = .ok pl w
 | [],pl,he,w=>by simp only [xPlaces,Option.some.injEq] at he;subst he;rfl
 | f :: r,pl,he,w=>by
   simp only [xPlaces] at he
   split at he
   ·rename_i i l hi hl
    simp at he
    subst he
    rw [List.mapM_cons]
    have ih:=run_places r l hl w
    simp only [Sem.run_bind,run_sizeOf_of hi,Result.andThen_ok,pure,Sem.run] at ih ⊢
    rw [ih]
    rfl
   ·cases he
theorem flat_get {α:Type} (l:List α):∀ (n k:Nat),((List.replicate n l).flatten)[k]? = if k < n * l.length then l[k % l.length]? else none
 | 0,k=>by simp
 | n + 1,k=>by
   rw [List.replicate_succ,List.flatten_cons,List.getElem?_append]
   split
   ·rename_i hk
    rw [if_pos (by rw [Nat.add_mul];omega),Nat.mod_eq_of_lt hk]
   ·rename_i hk
    rw [flat_get l n]
    have:k - l.length < n * l.length ↔ k < (n + 1) * l.length:=by rw [Nat.add_mul];omega
    simp only [this]
    split
    ·have:(k - l.length) % l.length = k % l.length:=by
      have h1:k = (k - l.length) + l.length:=by omega
      conv=>rhs;rw [h1,Nat.add_mod_right]
     rw [this]
    ·rfl
theorem elem_some {P:Program} {e:TypeId} {j:Nat × Nat × List Value} (he:xElem P e = some j):∃ i z,P.info? e = some i ∧ i.zero = some z ∧ z.cells.size = i.size ∧ 0 < i.size ∧ 0 < i.bytes ∧ (∀ v ∈ z.cells.toList,v.oneCell' = true) ∧ j = (i.size,i.bytes,z.cells.toList):=by
 unfold xElem at he
 cases hi:P.info? e with
 | none=>simp [hi] at he
 | some i=>
   cases hz:i.zero with
   | none=>simp [hi,hz] at he
   | some z=>
     simp [hi,hz] at he
     obtain ⟨⟨h1,h2,h3,h4⟩,h5⟩:=he
     refine ⟨i,z,rfl,hz,h1,h2,h3,?_,h5.symm⟩
     intro v hv
     obtain ⟨k,hk,rfl⟩:=List.getElem_of_mem hv
     simpa using h4 k (by simpa using hk)
theorem zeros_get {z:Array Value} {sz m:Nat} (hz:z.size = sz) (hs:0 < sz) (k:Nat) (hk:k < m * sz):((Array.range (m * sz)).map (fun i=>z[i % z.size]!))[k]? = (((List.replicate m z.toList).flatten))[k]?:=by
 rw [flat_get]
 simp only [Array.length_toList,hz]
 rw [if_pos hk]
 have hlt:k % sz < z.size:=by rw [hz];exact Nat.mod_lt _ hs
 simp only [Array.getElem?_map,Array.getElem?_range,hk,if_true,Option.map_some,hz]
 rw [getElem!_pos z _ hlt,Array.getElem?_toList,Array.getElem?_eq_getElem hlt]
theorem bsl_sound (hw:RepW cx φ h w) {t e:TypeId} {j:Nat × Nat × List Value} (hu:cx.P.underlying t = some (.slice e)) (hj:xElem cx.P e = some j) {len:Nat} (hlen:len * j.1 ≤ 16777216)
 {ps:List (Nat × Value)} {xs:List (Nat × AV)} (hl:ps.length = xs.length) (hp:∀ (k:Nat) p x,ps[k]? = some p → xs[k]? = some x → p.1 = x.1 ∧ Rep cx.w0 cx.B φ x.2 p.2) {cs:List AV}
 (he:xFill (((List.replicate len j.2.2).flatten).map .v) (xs.map fun x=>(x.1 * j.1,j.1,x.2)) = some cs) :
 Good cx φ h w (.sl h.length 0 0 len j.1) (h ++ [.cells 0 cs]) (do pure (.value (← Instr.buildSlice t len ps.toArray))):=by
 obtain ⟨i,z,hi,hz,hzs,hs,hb,hz1,rfl⟩:=elem_some hj
 simp only at he hlen ⊢
 obtain ⟨zr,hzr⟩:∃ zr:Array Value,zr = (Array.range (len * i.size)).map (fun k=>z.cells[k % z.cells.size]!):=⟨_,rfl⟩
 have hzr1:zr.size = len * i.size:=by simp [hzr]
 have hfl:((List.replicate len z.cells.toList).flatten).length = len * i.size:=by simp [hzs]
 have hget:∀ (k:Nat) x v,(((List.replicate len z.cells.toList).flatten).map AV.v)[k]? = some x → zr[k]? = some v → x = .v v ∧ v ∈ z.cells.toList:=by
  intro k x v hx hv
  have hk:k < len * i.size:=by have:=(Array.getElem?_eq_some_iff.1 hv).1;omega
  rw [hzr,zeros_get hzs hs k hk] at hv
  rw [List.getElem?_map,hv] at hx
  simp at hx
  rw [flat_get,if_pos (by simp [hzs];exact hk)] at hv
  exact ⟨hx.symm,List.mem_of_getElem? hv⟩
 obtain ⟨ccs,f1,f2,f3,f4,f5⟩:=fill_sound (w0:=cx.w0) (B:=cx.B) (φ:=φ) (place:=fun k=>some (k * i.size,i.size)) ps (xs.map fun x=>(x.1 * i.size,i.size,x.2)) _ cs zr (by simpa using hl)
  (by
   intro k p x hk hx
   rw [List.getElem?_map] at hx
   cases hy:xs[k]? with
   | none=>simp [hy] at hx
   | some y=>
     simp [hy] at hx
     subst hx
     obtain ⟨q1,q2⟩:=hp k p y hk hy
     exact ⟨by simp [q1],q2⟩) he (by rw [List.length_map,hfl,hzr1])
  (fun k x v hx hv=>by obtain ⟨rfl,_⟩:=hget k x v hx hv;exact .v _)
  (fun k v hk hv=>by
   have hk':k < (((List.replicate len z.cells.toList).flatten).map AV.v).length:=hk
   exact hz1 _ (hget k _ v (List.getElem?_eq_getElem hk') hv).2)
 have hlen2:cs.length = len * i.size:=by rw [f3,List.length_map,hfl]
 refine Good.newObj hw (cs:=cs) (us:=ccs) (T:=e) (by omega) f4 f5 (v:=.slice (some ⟨w.heap.size,0,none⟩) len len) (w':=w.alloc (.cells ccs e)) (Adds.alloc _ _) ?_ ?_
 ·have hzz:(zeroValue e).run cx.P w = .ok z w:=run_zero_of (by simp [hi,hz]) w
  simp only [Sem.run_bind,Instr.buildSlice,run_underlying_of hu,Result.andThen_ok,run_sizeOf_of hi]
  rw [if_neg (by omega)]
  by_cases h0:len * i.size = 0
  ·have hrr:(Array.range (len * i.size)).map (fun k=>(#[]:Array Value)[k % (#[]:Array Value).size]!) = zr:=by rw [hzr,h0];simp
   rw [if_pos h0]
   simp only [Sem.run_bind,Result.andThen_ok,pure,Sem.run,hrr,f1,run_newRow]
  ·rw [if_neg h0]
   simp only [Sem.run_bind,Result.andThen_ok,pure,Sem.run,hzz,← hzr,f1,run_newRow]
 ·intro φ' hφ
  exact .sl _ _ _ _ _ _ _ _ hφ (by simp [hlen2]) (by simp [hlen2]) (Nat.le_refl _) (by simp;omega)
theorem flatMap_get {α:Type} {f:Nat → List α} {sz:Nat}:∀ (n:Nat),(∀ i,i < n → (f i).length = sz) → ((List.range n).flatMap f).length = n * sz ∧ ∀ k,k < n * sz → ((List.range n).flatMap f)[k]? = (f (k / sz))[k % sz]?
 | 0,_=>⟨by simp,fun k hk=>by simp at hk⟩
 | n + 1,hf=>by
   obtain ⟨h1,h2⟩:=flatMap_get n (fun i hi=>hf i (by omega))
   rw [List.range_succ,List.flatMap_append]
   have e1:(List.flatMap f [n]) = f n:=by simp
   rw [e1]
   refine ⟨by rw [List.length_append,h1,hf n (by omega),Nat.add_mul];omega,?_⟩
   intro k hk
   rw [Nat.add_mul] at hk
   rw [List.getElem?_append]
   split
   ·rename_i hlt
    exact h2 k (by omega)
   ·rename_i hlt
    rw [h1] at hlt ⊢
    have hs:0 < sz:=by omega
    have hd:k / sz = n:=by
     apply Nat.div_eq_of_lt_le
     ·omega
     ·rw [Nat.add_mul];omega
    have hm:k % sz = k - n * sz:=by
     have:=Nat.div_add_mod k sz
     rw [hd,Nat.mul_comm] at this
     omega
    rw [hm,hd]
theorem rows_sound (hw:RepW cx φ h w) {sz m:Nat} {x:AV} {v:Value} {cells:List AV} (hs:0 < sz) (hx:Rep cx.w0 cx.B φ x v) (he:xRows h sz x = some (m,cells)) :
 cells.length = m * sz ∧ (Builtin.lenOf v).run cx.P w = .ok m w ∧ ∀ k,k ≤ m → ∃ us:Array Value,(Builtin.firstCells sz k v).run cx.P w = .ok us w ∧ us.size = k * sz ∧ (∀ u ∈ us.toList,u.oneCell' = true) ∧
  ∀ (j:Nat) y u,cells[j]? = some y → us[j]? = some u → Rep cx.w0 cx.B φ y u:=by
 cases hx with
 | sl id ver off len sz' b n cap hφ h1 h2 h3 h4=>
   simp only [xRows] at he
   split at he
   ·rename_i hsz
    subst hsz
    simp only [Option.bind_eq_some_iff] at he
    obtain ⟨cs,hg,he⟩:=he
    split at he
    ·rename_i hle
     simp at he
     obtain ⟨rfl,rfl⟩:=he
     obtain ⟨hn,ccs,T,fz,q2,q5,q3,q4,q6⟩:=hw.rd_at hg hφ
     refine ⟨by simp;omega,rfl,?_⟩
     intro k hk
     have hks:k * sz' ≤ len * sz':=Nat.mul_le_mul_right _ hk
     refine ⟨((ccs.toList.drop off).take (k * sz')).toArray,?_,by simp;omega,?_,?_⟩
     ·have:=run_loadCells_list (P:=cx.P) w ⟨b,off,none⟩ ((ccs.toList.drop off).take (k * sz')) (by
       intro j u hu
       rw [List.getElem?_take] at hu
       split at hu
       ·rw [List.getElem?_drop,Array.getElem?_toList] at hu
        rw [add_none]
        simp [World.cell?,q2,hu]
       ·cases hu)
      have hl:((ccs.toList.drop off).take (k * sz')).length = k * sz':=by simp;omega
      rw [hl] at this
      simpa [Builtin.firstCells] using this
     ·intro u hu
      obtain ⟨j,hj,rfl⟩:=List.getElem_of_mem hu
      have hj':j < k * sz':=by simp at hj;omega
      have:(ccs.toList.drop off).take (k * sz') = ((ccs.toList.drop off).take (k * sz')):=rfl
      have e:ccs[off + j]? = some ((((ccs.toList.drop off).take (k * sz')).toArray.toList)[j]):=by
       rw [← Array.getElem?_toList]
       have:=List.getElem?_eq_getElem hj
       simp only [List.getElem?_take,hj',if_true,List.getElem?_drop] at this
       exact this
      exact q6 (off + j) _ (by omega) e
     ·intro j y u hy hu
      rw [List.getElem?_take] at hy
      split at hy
      ·rw [List.getElem?_drop] at hy
       simp only [List.getElem?_toArray,List.getElem?_take] at hu
       split at hu
       ·rw [List.getElem?_drop,Array.getElem?_toList] at hu
        exact q4 _ _ _ hy hu
       ·cases hu
      ·cases hy
    ·cases he
   ·cases he
 | ro sz' n f A cap b o c hcap hA hf hc hc1 hr=>
   simp only [xRows] at he
   split at he
   ·rename_i hsz
    subst hsz
    simp at he
    obtain ⟨rfl,rfl⟩:=he
    obtain ⟨f1,f2⟩:=flatMap_get n hf
    refine ⟨f1,rfl,?_⟩
    intro k hk
    have hks:k * sz' ≤ n * sz':=Nat.mul_le_mul_right _ hk
    have hdm:∀ j,j < k * sz' → j / sz' < n ∧ j % sz' < sz' ∧ j / sz' * sz' + j % sz' = j:=by
     intro j hj
     refine ⟨?_,Nat.mod_lt _ hs,by rw [Nat.mul_comm];exact Nat.div_add_mod _ _⟩
     exact Nat.div_lt_of_lt_mul (by rw [Nat.mul_comm];omega)
    by_cases hk0:k = 0
    ·subst hk0
     refine ⟨#[],?_,by simp,by simp,by simp⟩
     cases A with
     | none=>simp [Builtin.firstCells]
     | some A=>simp [Builtin.firstCells,loadCells,loadCellsFrom]
    ·obtain ⟨rfl,hb⟩:=hA (by omega)
     refine ⟨((List.range (k * sz')).map fun j=>c (j / sz') (j % sz')).toArray,?_,by simp,?_,?_⟩
     ·simp only [Builtin.firstCells]
      refine run_loadCells w _ _ _ ?_
      intro j hj
      obtain ⟨d1,d2,d3⟩:=hdm j hj
      rw [add_none,hw.cell0 hb]
      have:=hc (j / sz') (j % sz') d1 d2
      rw [Nat.add_assoc,d3] at this
      exact this
     ·intro u hu
      simp at hu
      obtain ⟨j,hj,rfl⟩:=hu
      obtain ⟨d1,d2,d3⟩:=hdm j hj
      exact hc1 _ _ d1 d2
     ·intro j y u hy hu
      have hj:j < k * sz':=by have:=(Array.getElem?_eq_some_iff.1 hu).1;simpa using this
      obtain ⟨d1,d2,d3⟩:=hdm j hj
      rw [f2 j (by omega)] at hy
      simp [hj] at hu
      subst hu
      exact hr _ _ _ d1 hy
   ·cases he
 | v y=>
   unfold xRows at he
   split at he
   ·rename_i h;cases h
   ·rename_i h;cases h
   ·rename_i A _ h
    cases h
    simp at he
    obtain ⟨rfl,rfl⟩:=he
    refine ⟨by simp,rfl,?_⟩
    intro k hk
    have:k = 0:=by omega
    subst this
    cases A with
    | none=>exact ⟨#[],by simp [Builtin.firstCells],by simp,by simp,by simp⟩
    | some A=>exact ⟨#[],by simp [Builtin.firstCells,loadCells,loadCellsFrom],by simp,by simp,by simp⟩
   ·rename_i bs h
    cases h
    split at he
    ·rename_i h1
     subst h1
     simp at he
     obtain ⟨rfl,rfl⟩:=he
     refine ⟨by simp,rfl,?_⟩
     intro k hk
     refine ⟨(bs.extract 0 k).data.map fun b=>.int .u8 b.toNat,rfl,by simp;omega,?_,?_⟩
     ·intro u hu
      rw [Array.toList_map,List.mem_map] at hu
      obtain ⟨c,_,rfl⟩:=hu
      rfl
     ·intro j z u hz hu
      simp only [Array.getElem?_map,ByteArray.data_extract,Array.getElem?_extract] at hu
      split at hu
      ·simp only [List.getElem?_map,Array.getElem?_toList] at hz
       simp only [Nat.zero_add] at hu
       cases hb:bs.data[j]? with
       | none=>simp [hb] at hz
       | some c=>
         simp [hb] at hz hu
         subst hz;subst hu
         exact .v _
      ·simp at hu
    ·cases he
   ·cases he
 | _=>cases he
end Go.Eng
namespace Go.Eng
open Go.RowKit
variable {cx:Cx} {φ φ':Phi} {h h':AH} {w w':World} {b:Nat} {n:Nat × Nat} {s:XSt} {a:Act}
theorem drewAdds (w:World) (obj:Obj):Adds w obj (w.drew.alloc obj):=⟨rfl,rfl,rfl,rfl,Nat.le_succ _⟩
theorem zeroCells_size (z:Array Value) (k:Nat):(Builtin.zeroCells z k).size = k * z.size:=by simp [Builtin.zeroCells]
theorem run_cap (P:Program) (need cap:Nat) (e:TypeId) (w:World):∃ c,need ≤ c ∧ (choose (.appendCap need cap e)).run P w = .ok c w.drew:=by
 refine ⟨(Question.appendCap need cap e).cut (w.tape w.drawn (.appendCap need cap e)),?_,?_⟩
 ·simp only [Question.cut];omega
 ·rw [run_choose_drew];rfl
theorem RepW.drew (hw:RepW cx φ h w):RepW cx φ h w.drew:=
 ⟨hw.below.drew,fun id o b n ho hφ=>(hw.obj id o b n ho hφ).mono (Ext.refl _) rfl,hw.inj,hw.dom,hw.hi⟩
theorem run_append_room' {P:Program} {t u e ty:TypeId} {i:TypeInfo} (hu:P.underlying t = some (.slice e)) (hu2:(∃ e',P.underlying u = some (.slice e')) ∨ P.underlying u = some .string) (hi:P.info? e = some i)
 {base:Option Addr} {sLen sCap m:Nat} {z:Value} {us:Array Value} {w:World} (hlen:(Builtin.lenOf z).run P w = .ok m w) (hus:(Builtin.firstCells i.size m z).run P w = .ok us w) (hle:sLen + m ≤ sCap) :
 (Builtin.append_ #[t,u] ty #[.slice base sLen sCap,z]).run P w = (match base with | some a=>(storeCells (a.add (sLen * i.size)) us.toList).run P w | none=>.ok () w).andThen fun _ w'=>.ok (.slice base (sLen + m) sCap) w':=by
 rcases hu2 with ⟨e',hu2⟩ | hu2
 all_goals
  simp only [Builtin.append_,List.getElem?_toArray,List.getElem?_cons_zero,List.getElem?_cons_succ,Sem.run_bind,run_underlying_of hu,run_underlying_of hu2,Result.andThen_ok,run_sizeOf_of hi,pure,Sem.run,Bool.false_eq_true,if_false,hlen]
  rw [if_pos hle]
  simp only [Sem.run_bind,Bool.not_false,if_true,hus,Result.andThen_ok]
  cases base with
  | none=>simp [Sem.run]
  | some a=>simp only [Sem.run_bind,Sem.run]
theorem run_append_grow' {P:Program} {t u e ty:TypeId} {i:TypeInfo} {zz:Value} (hu:P.underlying t = some (.slice e)) (hu2:(∃ e',P.underlying u = some (.slice e')) ∨ P.underlying u = some .string) (hi:P.info? e = some i)
 (hz:i.zero = some zz) (hb:0 < i.bytes) {base:Option Addr} {sLen sCap m:Nat} {z:Value} {old us:Array Value} {w:World} (hlen:(Builtin.lenOf z).run P w = .ok m w)
 (hold:(Builtin.firstCells i.size sLen (.slice base sLen sCap)).run P w.drew = .ok old w.drew) (hus:(Builtin.firstCells i.size m z).run P w.drew = .ok us w.drew) (hlt:sCap < sLen + m) (hbd:(sLen + m) * i.bytes ≤ 140737488355328) :
 ∃ c,sLen + m ≤ c ∧ (Builtin.append_ #[t,u] ty #[.slice base sLen sCap,z]).run P w = .ok (.slice (some ⟨w.heap.size,0,none⟩) (sLen + m) c) (w.drew.alloc (.cells (old ++ us ++ Builtin.zeroCells zz.cells (c - (sLen + m))) e)):=by
 obtain ⟨c,hc,hrun⟩:=run_cap P (sLen + m) sCap e w
 have hfit:=growslice_fits hlt hbd
 have hzr:(zeroValue e).run P w.drew = .ok zz w.drew:=run_zero_of (by simp [hi,hz]) _
 refine ⟨c,hc,?_⟩
 have hroom:(askRoom (c * i.bytes)).run P w.drew = .ok () w.drew:=by
  unfold askRoom
  split <;> rfl
 rcases hu2 with ⟨e',hu2⟩ | hu2
 all_goals
  simp only [Builtin.append_,List.getElem?_toArray,List.getElem?_cons_zero,List.getElem?_cons_succ,Sem.run_bind,run_underlying_of hu,run_underlying_of hu2,Result.andThen_ok,run_sizeOf_of hi,pure,Sem.run,Bool.false_eq_true,if_false,hlen]
  rw [if_neg (by omega)]
  simp only [Sem.run_bind,Result.andThen_ok,run_info_of hi]
  rw [if_neg (by simp;omega)]
  simp only [Sem.run_bind,Result.andThen_ok,run_info_of hi]
  rw [if_neg (by omega)]
  simp only [Sem.run_bind,hrun,Result.andThen_ok,run_info_of hi,hroom,hold,Bool.not_false,if_true,hus,hzr,run_newRow,Sem.run]
  rfl
theorem append_sound (hw:RepW cx φ h w) {t u e ty:TypeId} {j:Nat × Nat × List Value} (hu:cx.P.underlying t = some (.slice e)) (hu2:(∃ e',cx.P.underlying u = some (.slice e')) ∨ cx.P.underlying u = some .string) (hj:xElem cx.P e = some j)
 {x y r:AV} {v z:Value} (hx:Rep cx.w0 cx.B φ x v) (hy:Rep cx.w0 cx.B φ y z) (he:xApp h j.1 j.2.1 x y = some (r,h')) :
 ∃ q w' φ',(Builtin.append_ #[t,u] ty #[v,z]).run cx.P w = .ok q w' ∧ Rep cx.w0 cx.B φ' r q ∧ RepW cx φ' h' w' ∧ Step φ h w φ' h' w':=by
 obtain ⟨i,zz,hi,hz,hzs,hs,hb,hz1,rfl⟩:=elem_some hj
 simp only at he
 unfold xApp at he
 split at he
 ·cases he
 ·rename_i m cells hrows
  obtain ⟨hcl,hlen,hfirst⟩:=rows_sound hw hs hy hrows
  obtain ⟨us,hus,husz,hus1,husr⟩:=hfirst m (Nat.le_refl _)
  obtain ⟨us2,hus2,hus2z,hus21,hus2r⟩:=(rows_sound hw.drew hs hy hrows).2.2 m (Nat.le_refl _)
  split at he
  ·
   cases hx
   split at he
   ·rename_i h0
    subst h0
    simp at he
    obtain ⟨rfl,rfl⟩:=he
    refine ⟨.slice none 0 0,w,φ,?_,.v _,hw,Step.refl _ _ _⟩
    rw [run_append_room' hu hu2 hi hlen hus (by omega)]
    rfl
   ·rename_i h0
    split at he
    ·rename_i hbd
     simp at he
     obtain ⟨rfl,rfl⟩:=he
     obtain ⟨c,hc,hrun⟩:=run_append_grow' (ty:=ty) (base:=none) (sLen:=0) (sCap:=0) (old:=#[]) hu hu2 hi hz hb hlen (by simp [Builtin.firstCells]) hus2 (by omega) (by simpa using hbd)
     simp only [Nat.zero_add,Array.empty_append] at hrun hc
     obtain ⟨cur,hcur⟩:∃ cur,cur = us2 ++ Builtin.zeroCells zz.cells (c - m):=⟨_,rfl⟩
     rw [← hcur] at hrun
     have hsz:cur.size = c * i.size:=by
      rw [hcur,Array.size_append,zeroCells_size,hus2z,hzs,← Nat.add_mul];congr 1;omega
     have hget:∀ (k:Nat) v,k < cells.length → cur[k]? = some v → us2[k]? = some v:=by
      intro k v hk hv
      rw [hcur,Array.getElem?_append_left (by omega)] at hv
      exact hv
     have hmc:m * i.size ≤ c * i.size:=Nat.mul_le_mul_right _ hc
     obtain ⟨g1,g2⟩:=hw.new hw.hB (drewAdds w (.cells cur e)) (.cells 0 cells) rfl (cells.length,cur.size)
      (repO_new (w0:=cx.w0) (B:=cx.B) (φ:=φ) (drewAdds w (.cells cur e)).new (by omega) (fun k y v hy hv=>hus2r k y v hy (hget k v (List.getElem?_eq_some_iff.1 hy).1 hv))
       (fun k v hk hv=>hus21 v (Array.mem_toList_iff.2 (Array.mem_of_getElem? (hget k v hk hv)))))
     refine ⟨_,_,_,hrun,.sl _ _ _ _ _ _ _ _ (newPhi_self _ _ _ _ _) ?_ ?_ hc ?_,g1,g2⟩
     ·simp;omega
     ·simp;omega
     ·simp;omega
    ·cases he
  ·
   rename_i id ver off len sz'
   split at he
   ·rename_i hsz'
    subst hsz'
    simp only [Option.bind_eq_some_iff] at he
    obtain ⟨cs,hg,he⟩:=he
    cases hx with
    | sl _ _ _ _ _ b n cap hφ p1 p2 p3 p4=>
      obtain ⟨hn,ccs,T,q2,q5,q3,q4,q6⟩:=hw.cells_at hg hφ
      have hn1:n.1 = cs.length:=by rw [hn]
      split at he
      ·rename_i h0
       subst h0
       simp at he
       obtain ⟨rfl,rfl⟩:=he
       refine ⟨.slice (some ⟨b,off,none⟩) len cap,w,φ,?_,.sl _ _ _ _ _ _ _ _ hφ p1 p2 p3 p4,hw,Step.refl _ _ _⟩
       rw [run_append_room' hu hu2 hi hlen hus (by omega)]
       have:us.toList = []:=List.eq_nil_of_length_eq_zero (by simpa using husz)
       simp [this,storeCells]
      ·rename_i h0
       have hstore:off + (len + m) * i.size ≤ n.2 → (storeCells ((⟨b,off,none⟩:Addr).add (len * i.size)) us.toList).run cx.P w =
        .ok () (w.setRow b (ccs.toList.take (off + len * i.size) ++ us.toList ++ ccs.toList.drop (off + len * i.size + us.toList.length)).toArray):=by
        intro hle
        rw [Nat.add_mul] at hle
        have:=run_storeCells_at (P:=cx.P) b (off + len * i.size) T us.toList 0 ccs w q2 (by simp;omega) hus1
        simp only [Nat.add_zero] at this
        rw [add_none]
        exact this
       split at he
       ·rename_i hle
        simp at he
        obtain ⟨rfl,rfl⟩:=he
        have hcap:len + m ≤ cap:=by
         have:(len + m) * i.size ≤ cap * i.size:=by omega
         exact Nat.le_of_mul_le_mul_right this hs
        have hle':=hle
        rw [Nat.add_mul] at hle'
        obtain ⟨e1,e2⟩:=rep_setCells (φ:=φ) (w0:=cx.w0) (B:=cx.B) (cs:=cs) (vs:=cells) (ccs:=ccs) (us:=us.toList) (off:=off + len * i.size) (by simp;omega) (by omega) (by omega) q4 (fun k y v hy hv=>husr k y v hy (by simpa using hv))
        have e3:=one_setCells (cs:=cs) (vs:=cells) (ccs:=ccs) (us:=us.toList) (off:=off + len * i.size) q6 hus1 (by simp;omega) (by omega) e1
        obtain ⟨g1,g2⟩:=hw.put (n:=n) (get_some hg) rfl (o':=.cells ver (setCells cs (off + len * i.size) cells)) rfl hφ (Puts.setRow q2 (cs:=(ccs.toList.take (off + len * i.size) ++ us.toList ++ ccs.toList.drop (off + len * i.size + us.toList.length)).toArray))
         ⟨by rw [e1];exact hn,_,T,setRow_heap w b ccs _ T _ q2,by rw [splice_size (by simp;omega)];exact q5,by rw [e1];exact q3,e2,e3⟩
        refine ⟨.slice (some ⟨b,off,none⟩) (len + m) cap,_,φ,?_,.sl _ _ _ _ _ _ _ _ hφ (by omega) p2 hcap p4,g1,g2⟩
        rw [run_append_room' hu hu2 hi hlen hus hcap]
        simp only [hstore (by omega),Result.andThen_ok]
       ·rename_i hle
        split at he
        ·rename_i hc3
         obtain ⟨rfl,hc4,hbd⟩:=hc3
         simp at he
         obtain ⟨rfl,rfl⟩:=he
         simp only [Nat.zero_add] at *
         have hnew:(cs.take (len * i.size) ++ cells).length = (len + m) * i.size:=by
          rw [List.length_append,List.length_take,hcl,Nat.add_mul];omega
         by_cases hroom:len + m ≤ cap
         ·
          have hfit:(len + m) * i.size ≤ n.2:=Nat.le_trans (Nat.mul_le_mul_right _ hroom) p4
          have hfit':=hfit
          rw [Nat.add_mul] at hfit'
          have hul:us.toList.length = m * i.size:=by simpa using husz
          obtain ⟨cur,hcur⟩:∃ cur,cur = (ccs.toList.take (len * i.size) ++ us.toList ++ ccs.toList.drop (len * i.size + us.toList.length)).toArray:=⟨_,rfl⟩
          have hcs:cur.size = ccs.size:=by rw [hcur];exact splice_size (by omega)
          have hpt:∀ (k:Nat) y v,(cs.take (len * i.size) ++ cells)[k]? = some y → cur[k]? = some v → Rep cx.w0 cx.B φ y v ∧ v.oneCell' = true:=by
           intro k y v hy hv
           rw [hcur] at hv
           simp only [List.append_assoc,List.getElem?_toArray] at hv
           have l1:(ccs.toList.take (len * i.size)).length = len * i.size:=by simp;omega
           have l2:(cs.take (len * i.size)).length = len * i.size:=by simp;omega
           by_cases hk:k < len * i.size
           ·rw [List.getElem?_append_left (by omega),List.getElem?_take,if_pos hk] at hy
            rw [List.getElem?_append_left (by omega),List.getElem?_take,if_pos hk,Array.getElem?_toList] at hv
            exact ⟨q4 k y v hy hv,q6 k v (by omega) hv⟩
           ·rw [List.getElem?_append_right (by omega),l2] at hy
            have hk2:=(List.getElem?_eq_some_iff.1 hy).1
            rw [List.getElem?_append_right (by omega),l1,List.getElem?_append_left (by omega)] at hv
            exact ⟨husr _ y v hy (by simpa using hv),hus1 v (List.mem_of_getElem? hv)⟩
          have hp:=Puts.setRow q2 (cs:=cur)
          obtain ⟨g1,g2⟩:=hw.grow hw.hB (w':=w.setRow b cur) (get_some hg) hφ (b':=b) (n':=((len + m) * i.size,n.2)) (cs':=cs.take (len * i.size) ++ cells) (.inl rfl) (by rw [hp.size];exact (hw.hi _ _ _ _ hφ).2) (by rw [hp.size];omega) rfl rfl rfl (Nat.le_refl _) (fun k _ hk=>hp.other k hk)
           (fun φ' he'=>⟨by rw [hnew],cur,T,hp.at_,by rw [hcs];exact q5,by rw [hnew];exact hfit,fun k y v hy hv=>(hpt k y v hy hv).1.ext he',
            fun k v hk hv=>(hpt k _ v (List.getElem?_eq_getElem hk) hv).2⟩)
          refine ⟨.slice (some ⟨b,0,none⟩) (len + m) cap,_,_,?_,.sl _ _ _ _ _ _ _ _ (newPhi_self _ _ _ _ _) (by simp) ?_ hroom (by simpa using p4),g1,g2⟩
          ·rw [run_append_room' hu hu2 hi hlen hus hroom]
           simp only [hstore hfit,Result.andThen_ok,hcur]
          ·simpa using Nat.mul_le_mul_right i.size hroom
         ·
          have hrow2:xRows h i.size (.sl id ver 0 len i.size) = some (len,cs.take (len * i.size)):=by
           simp [xRows,get_rd hg];omega
          obtain ⟨r1,r2,r3⟩:=rows_sound hw.drew hs (.sl _ _ _ _ _ _ _ _ hφ (by simpa using p1) (by simpa using p2) p3 (by simpa using p4)) hrow2
          obtain ⟨old,hold,holdz,hold1,holdr⟩:=r3 len (Nat.le_refl _)
          obtain ⟨c,hc,hrun⟩:=run_append_grow' (ty:=ty) hu hu2 hi hz hb hlen hold hus2 (by omega) hbd
          obtain ⟨cur,hcur⟩:∃ cur,cur = old ++ us2 ++ Builtin.zeroCells zz.cells (c - (len + m)):=⟨_,rfl⟩
          rw [← hcur] at hrun
          have hmc:(len + m) * i.size ≤ c * i.size:=Nat.mul_le_mul_right _ hc
          have hsz:cur.size = c * i.size:=by
           rw [hcur,Array.size_append,Array.size_append,zeroCells_size,hus2z,holdz,hzs,← Nat.add_mul,← Nat.add_mul];congr 1;omega
          have hpt:∀ (k:Nat) y v,(cs.take (len * i.size) ++ cells)[k]? = some y → cur[k]? = some v → Rep cx.w0 cx.B φ y v ∧ v.oneCell' = true:=by
           intro k y v hy hv
           have hk0:=(List.getElem?_eq_some_iff.1 hy).1
           rw [hnew,Nat.add_mul] at hk0
           rw [hcur,Array.getElem?_append_left (by simp;omega)] at hv
           have l2:(cs.take (len * i.size)).length = len * i.size:=by simp;omega
           by_cases hk:k < len * i.size
           ·rw [List.getElem?_append_left (by omega)] at hy
            rw [Array.getElem?_append_left (by omega)] at hv
            exact ⟨holdr k y v hy hv,hold1 v (Array.mem_toList_iff.2 (Array.mem_of_getElem? hv))⟩
           ·rw [List.getElem?_append_right (by omega),l2] at hy
            rw [Array.getElem?_append_right (by omega),holdz] at hv
            exact ⟨hus2r _ y v hy hv,hus21 v (Array.mem_toList_iff.2 (Array.mem_of_getElem? hv))⟩
          have ha:=drewAdds w (.cells cur e)
          obtain ⟨g1,g2⟩:=hw.grow hw.hB (w':=w.drew.alloc (.cells cur e)) (get_some hg) hφ (b':=w.heap.size) (n':=((len + m) * i.size,cur.size)) (cs':=cs.take (len * i.size) ++ cells) (.inr (Nat.le_refl _)) (by rw [ha.size];omega) (by rw [ha.size];omega) rfl rfl rfl (Nat.le_succ _) (fun k hk _=>ha.old hk)
           (fun φ' he'=>⟨by rw [hnew],cur,e,ha.new,rfl,by rw [hnew];omega,fun k y v hy hv=>(hpt k y v hy hv).1.ext he',
            fun k v hk hv=>(hpt k _ v (List.getElem?_eq_getElem hk) hv).2⟩)
          exact ⟨_,_,_,hrun,.sl _ _ _ _ _ _ _ _ (newPhi_self _ _ _ _ _) (by simp) (by simpa using hmc) hc (by simp [hsz]),g1,g2⟩
        ·cases he
   ·cases he
  ·cases he
theorem sameCell_eq {x y:AV} (h:sameCell x y = true):x = y:=by
 unfold sameCell at h
 split at h
 ·have:=of_decide_eq_true h
  rw [this.1,this.2]
 ·have:=of_decide_eq_true h
  rw [this]
 ·have:=of_decide_eq_true h
  rw [this]
 ·rfl
 ·cases h
theorem sameCells_eq:∀ {x y:List AV},sameCells x y = true → x = y
 | [],[],_=>rfl
 | a :: r,b :: q,h=>by
   simp only [sameCells,Bool.and_eq_true] at h
   rw [sameCell_eq h.1,sameCells_eq h.2]
 | [],_ :: _,h=>by simp [sameCells] at h
 | _ :: _,[],h=>by simp [sameCells] at h
theorem appendF_sound (hw:RepW cx φ h w) {t u e ty:TypeId} {j:Nat × Nat × List Value} (hu:cx.P.underlying t = some (.slice e)) (hu2:(∃ e',cx.P.underlying u = some (.slice e')) ∨ cx.P.underlying u = some .string) (hj:xElem cx.P e = some j)
 {x y r:AV} {v z:Value} (hx:Rep cx.w0 cx.B φ x v) (hy:Rep cx.w0 cx.B φ y z) (he:xAppF h j.1 j.2.1 x y = some (r,h')) :
 ∃ q w' φ',(Builtin.append_ #[t,u] ty #[v,z]).run cx.P w = .ok q w' ∧ Rep cx.w0 cx.B φ' r q ∧ RepW cx φ' h' w' ∧ Step φ h w φ' h' w':=by
 obtain ⟨i,zz,hi,hz,hzs,hs,hb,hz1,rfl⟩:=elem_some hj
 simp only at he
 unfold xAppF at he
 split at he
 ·rename_i id ver off len sz'
  split at he
  ·rename_i v0 f k m cells ho hrows
   split at he
   ·rename_i hc
    obtain ⟨rfl,rfl,rfl,hk,hbd,hsame⟩:=hc
    have hcells:=sameCells_eq hsame
    simp at he
    obtain ⟨rfl,rfl⟩:=he
    obtain ⟨hcl,hlen,hfirst⟩:=rows_sound hw hs hy hrows
    obtain ⟨us,hus,husz,hus1,husr⟩:=hfirst m (Nat.le_refl _)
    obtain ⟨us2,hus2,hus2z,hus21,hus2r⟩:=(rows_sound hw.drew hs hy hrows).2.2 m (Nat.le_refl _)
    have hcg:∀ j,j < m * i.size → cells[j]? = some (f (k + j)):=by
     intro j hj
     rw [hcells,List.getElem?_map,List.getElem?_range hj];rfl
    cases hx with
    | sl _ _ _ _ _ b n cap hφ p1 p2 p3 p4=>
      have hO:=hw.obj id _ b n ho hφ
      obtain ⟨hn,ccs,T,q2,q5,q3,q4⟩:=hO
      have hn1:n.1 = k:=by rw [hn]
      have hadd:(len + m) * i.size = k + m * i.size:=by rw [Nat.add_mul,hk]
      by_cases hroom:len + m ≤ cap
      ·have hfit:k + m * i.size ≤ n.2:=by
        have:=Nat.mul_le_mul_right i.size hroom
        omega
       have hul:us.toList.length = m * i.size:=by simpa using husz
       obtain ⟨cur,hcur⟩:∃ cur,cur = (ccs.toList.take k ++ us.toList ++ ccs.toList.drop (k + us.toList.length)).toArray:=⟨_,rfl⟩
       have hcs:cur.size = ccs.size:=by rw [hcur];exact splice_size (by omega)
       have hpt:∀ (j:Nat) v,cur[j]? = some v → (k ≤ j ∧ j < k + m * i.size ∧ Rep cx.w0 cx.B φ (f j) v ∧ v.oneCell' = true) ∨ (ccs[j]? = some v ∧ (j < k ∨ k + m * i.size ≤ j)):=by
        intro j v hv
        rw [hcur] at hv
        simp only [List.append_assoc,List.getElem?_toArray] at hv
        have l1:(ccs.toList.take k).length = k:=by simp;omega
        by_cases hjk:j < k
        ·rw [List.getElem?_append_left (by omega),List.getElem?_take,if_pos hjk,Array.getElem?_toList] at hv
         exact .inr ⟨hv,.inl hjk⟩
        ·rw [List.getElem?_append_right (by omega),l1] at hv
         by_cases hj2:j < k + m * i.size
         ·rw [List.getElem?_append_left (by omega)] at hv
          have h1:=hcg (j - k) (by omega)
          rw [show k + (j - k) = j by omega] at h1
          exact .inl ⟨by omega,hj2,husr _ _ v h1 (by simpa using hv),hus1 v (List.mem_of_getElem? hv)⟩
         ·rw [List.getElem?_append_right (by omega),List.getElem?_drop,Array.getElem?_toList] at hv
          rw [show k + us.toList.length + (j - k - us.toList.length) = j by omega] at hv
          exact .inr ⟨hv,.inr (by omega)⟩
       have hp:=Puts.setRow q2 (cs:=cur)
       have hstore:(storeCells ((⟨b,0,none⟩:Addr).add (len * i.size)) us.toList).run cx.P w = .ok () (w.setRow b cur):=by
        have:=run_storeCells_at (P:=cx.P) b k T us.toList 0 ccs w q2 (by simp;omega) hus1
        simp only [Nat.add_zero] at this
        rw [add_none,hk,Nat.zero_add,hcur]
        exact this
       obtain ⟨g1,g2⟩:=hw.famGrow ho hφ (b':=b) (n':=(k + m * i.size,n.2)) (k':=k + m * i.size) (w':=w.setRow b cur) (.inl rfl) (by rw [hp.size];exact (hw.hi _ _ _ _ hφ).2) (by rw [hp.size];omega) rfl rfl rfl (Nat.le_refl _) (fun k _ hk=>hp.other k hk)
        (fun φ' he'=>⟨rfl,cur,T,hp.at_,by rw [hcs];exact q5,hfit,fun j v hj hv=>by
         rcases hpt j v hv with ⟨_,_,h1,h2⟩ | ⟨h1,h2⟩
         ·exact ⟨h1.ext he',h2⟩
         ·have:=q4 j v (by omega) h1
          exact ⟨this.1.ext he',this.2⟩⟩)
        (fun v k1 n1 hr1=>by
         obtain ⟨d1,ccs',T',d2,d3,d4,d5⟩:=hr1
         rw [q2] at d2
         cases d2
         refine ⟨d1,cur,T,hp.at_,by rw [hcs];exact d3,d4,fun j v hj hv=>?_⟩
         rcases hpt j v hv with ⟨_,_,h1,h2⟩ | ⟨h1,h2⟩
         ·exact ⟨h1,h2⟩
         ·exact d5 j v hj h1)
       refine ⟨.slice (some ⟨b,0,none⟩) (len + m) cap,_,_,?_,.sl _ _ _ _ _ _ _ _ (newPhi_self _ _ _ _ _) (by simp;omega) ?_ hroom (by simpa using p4),g1,g2⟩
       ·rw [run_append_room' hu hu2 hi hlen hus hroom]
        simp only [hstore,Result.andThen_ok]
       ·have:=Nat.mul_le_mul_right i.size hroom
        simp only;omega
      ·have hrow2:xRows h i.size (.sl id v0 0 len i.size) = some (len,(List.range k).map f):=by
        have hrd:AH.rd h id v0 = some ((List.range k).map f):=by
         unfold AH.rd
         rw [ho]
         simp
        simp only [xRows,hrd,if_true,Option.bind_some,List.length_map,List.length_range,List.drop_zero,Nat.zero_add]
        rw [if_pos (by omega),List.take_of_length_le (by simp;omega)]
       obtain ⟨r1,r2,r3⟩:=rows_sound hw.drew hs (.sl _ _ _ _ _ _ _ _ hφ (by simpa using p1) (by simpa using p2) p3 (by simpa using p4)) hrow2
       obtain ⟨old,hold,holdz,hold1,holdr⟩:=r3 len (Nat.le_refl _)
       obtain ⟨c,hc,hrun⟩:=run_append_grow' (ty:=ty) hu hu2 hi hz hb hlen hold hus2 (by omega) hbd
       obtain ⟨cur,hcur⟩:∃ cur,cur = old ++ us2 ++ Builtin.zeroCells zz.cells (c - (len + m)):=⟨_,rfl⟩
       rw [← hcur] at hrun
       have hmc:(len + m) * i.size ≤ c * i.size:=Nat.mul_le_mul_right _ hc
       have hsz:cur.size = c * i.size:=by
        rw [hcur,Array.size_append,Array.size_append,zeroCells_size,hus2z,holdz,hzs,← Nat.add_mul,← Nat.add_mul];congr 1;omega
       have hpt:∀ (j:Nat) v,j < k + m * i.size → cur[j]? = some v → Rep cx.w0 cx.B φ (f j) v ∧ v.oneCell' = true:=by
        intro j v hj hv
        rw [hcur,Array.getElem?_append_left (by simp;omega)] at hv
        by_cases hjk:j < len * i.size
        ·rw [Array.getElem?_append_left (by omega)] at hv
         exact ⟨holdr j _ v (by rw [List.getElem?_map,List.getElem?_range (by omega)];rfl) hv,hold1 v (Array.mem_toList_iff.2 (Array.mem_of_getElem? hv))⟩
        ·rw [Array.getElem?_append_right (by omega),holdz] at hv
         have h1:=hcg (j - len * i.size) (by omega)
         rw [show k + (j - len * i.size) = j by omega] at h1
         exact ⟨hus2r _ _ v h1 hv,hus21 v (Array.mem_toList_iff.2 (Array.mem_of_getElem? hv))⟩
       have ha:=drewAdds w (.cells cur e)
       obtain ⟨g1,g2⟩:=hw.famGrow ho hφ (b':=w.heap.size) (n':=(k + m * i.size,cur.size)) (k':=k + m * i.size) (w':=w.drew.alloc (.cells cur e)) (.inr (Nat.le_refl _)) (by rw [ha.size];omega) (by rw [ha.size];omega) rfl rfl rfl (Nat.le_succ _) (fun k hk _=>ha.old hk)
        (fun φ' he'=>⟨rfl,cur,e,ha.new,rfl,by simp only;omega,fun j v hj hv=>⟨(hpt j v hj hv).1.ext he',(hpt j v hj hv).2⟩⟩)
        (fun v k1 n1 hr1=>hr1.mono (Ext.refl _) (ha.old (hw.hi _ _ _ _ hφ).2))
       exact ⟨_,_,_,hrun,.sl _ _ _ _ _ _ _ _ (newPhi_self _ _ _ _ _) (by simp;omega) (by simp only;omega) hc (by simp only;omega),g1,g2⟩
   ·cases he
  ·cases he
 ·cases he
end Go.Eng
namespace Go.Eng
open Go.RowKit
variable {cx:Cx} {φ φ':Phi} {h h':AH} {w w':World} {b:Nat} {n:Nat × Nat} {s:XSt} {a:Act}
theorem make_sound (hw:RepW cx φ h w) {t e:TypeId} {j:Nat × Nat × List Value} (hu:cx.P.underlying t = some (.slice e)) (hj:xElem cx.P e = some j)
 {x y r:AV} {v z:Value} (hx:Rep cx.w0 cx.B φ x v) (hy:Rep cx.w0 cx.B φ y z) (he:xMks h j.1 j.2.1 j.2.2 x y = some (r,h')):Good cx φ h w r h' (do pure (.value (← Instr.makeSlice t v z))):=by
 obtain ⟨i,zz,hi,hz,hzs,hs,hb,hz1,rfl⟩:=elem_some hj
 simp only at he
 unfold xMks at he
 split at he
 ·rename_i kl l kc c
  split at he
  ·rename_i hc
   obtain ⟨c1,c2,c3,c4⟩:=hc
   simp at he
   obtain ⟨rfl,rfl⟩:=he
   cases hx
   cases hy
   have hzr:(zeroValue e).run cx.P w = .ok zz w:=run_zero_of (by simp [hi,hz]) w
   have wl:IntKind.i64.wrap l = l:=by rw [IntKind.wrap_i64];omega
   have wc:IntKind.i64.wrap c = c:=by rw [IntKind.wrap_i64];omega
   obtain ⟨cur,hcur⟩:∃ cur:Array Value,cur = (Array.range (c.toNat * i.size)).map (fun k=>zz.cells[k % zz.cells.size]!):=⟨_,rfl⟩
   have hsz:cur.size = c.toNat * i.size:=by simp [hcur]
   have hl:((List.replicate c.toNat (zz.cells.toList.map AV.v)).flatten).length = c.toNat * i.size:=by simp [hzs]
   have hget:∀ (k:Nat) y v,((List.replicate c.toNat (zz.cells.toList.map AV.v)).flatten)[k]? = some y → cur[k]? = some v → y = .v v ∧ v ∈ zz.cells.toList:=by
    intro k y v hy hv
    have hk:k < c.toNat * i.size:=by have:=(Array.getElem?_eq_some_iff.1 hv).1;omega
    rw [hcur,zeros_get hzs hs k hk,flat_get] at hv
    rw [flat_get] at hy
    split at hy
    ·rename_i h1
     rw [if_pos (by simpa using h1)] at hv
     simp only [List.length_map,List.getElem?_map] at hy
     rw [hv] at hy
     simp at hy
     exact ⟨hy.symm,List.mem_of_getElem? hv⟩
    ·cases hy
   refine Good.newObj hw (us:=cur) (T:=e) (by omega) (fun k y v hy hv=>?_) (fun k v hk hv=>?_) (v:=.slice (some ⟨w.heap.size,0,none⟩) l.toNat c.toNat) (w':=w.alloc (.cells cur e)) (Adds.alloc _ _) ?_ ?_
   ·obtain ⟨rfl,_⟩:=hget k y v hy hv
    exact .v _
   ·exact hz1 _ (hget k _ v (List.getElem?_eq_getElem hk) hv).2
   ·have hbi:(i.bytes:Int) * c ≤ 281474976710656:=by rw [Int.mul_comm];exact c3
    have htc:(decide (c < 0) || decide ((i.bytes:Int) * c > 2 ^ 48)) = false:=by simp;omega
    have hroom:(askRoom (c.toNat * i.bytes)).run cx.P w = .ok () w:=by unfold askRoom;split <;> rfl
    simp only [Sem.run_bind,Instr.makeSlice,run_underlying_of hu,Result.andThen_ok,asInt,asIntOf,run_info_of hi,pure,Sem.run,wl,wc,htc,Bool.false_or]
    rw [if_neg (by simp;omega)]
    simp only [Sem.run_bind,hroom,Result.andThen_ok,run_sizeOf_of hi]
    by_cases h0:c.toNat * i.size = 0
    ·have hrr:(Array.range (c.toNat * i.size)).map (fun k=>(#[]:Array Value)[k % (#[]:Array Value).size]!) = cur:=by rw [hcur,h0];simp
     rw [if_pos h0]
     simp only [Sem.run_bind,Result.andThen_ok,pure,Sem.run,hrr,run_newRow]
    ·rw [if_neg h0]
     simp only [Sem.run_bind,Result.andThen_ok,pure,Sem.run,hzr,← hcur,run_newRow]
   ·intro φ' hφ
    have hlc:l.toNat * i.size ≤ c.toNat * i.size:=Nat.mul_le_mul_right _ (by omega)
    exact .sl _ _ _ _ _ _ _ _ hφ (by simp only [hl];omega) (by simp only [hl];omega) (by omega) (by simp only [hsz];omega)
  ·cases he
 ·cases he
theorem copy_sound (hw:RepW cx φ h w) {t u e ty:TypeId} {j:Nat × Nat × List Value} (hu:cx.P.underlying t = some (.slice e)) (hj:xElem cx.P e = some j)
 {x y r:AV} {v z:Value} (hx:Rep cx.w0 cx.B φ x v) (hy:Rep cx.w0 cx.B φ y z) (he:xCpy h j.1 x y = some (r,h')) :
 ∃ q w',(Builtin.copy_ #[t,u] ty #[v,z]).run cx.P w = .ok q w' ∧ Rep cx.w0 cx.B φ r q ∧ RepW cx φ h' w' ∧ Step φ h w φ h' w':=by
 obtain ⟨i,zz,hi,hz,hzs,hs,hb,hz1,rfl⟩:=elem_some hj
 simp only at he
 unfold xCpy at he
 split at he
 ·cases he
 ·rename_i m cells hrows
  obtain ⟨hcl,hlen,hfirst⟩:=rows_sound hw hs hy hrows
  split at he
  ·cases hx
   simp at he
   obtain ⟨rfl,rfl⟩:=he
   obtain ⟨us,hus,_⟩:=hfirst 0 (Nat.zero_le _)
   refine ⟨.int .i64 0,w,?_,.v _,hw,Step.refl _ _ _⟩
   simp [Builtin.copy_,run_underlying_of hu,hlen,run_sizeOf_of hi,hus,goInt]
  ·rename_i id ver off len sz'
   split at he
   ·rename_i hsz'
    subst hsz'
    simp only [Option.bind_eq_some_iff] at he
    obtain ⟨cs,hg,he⟩:=he
    split at he
    ·rename_i hle
     simp at he
     obtain ⟨rfl,rfl⟩:=he
     cases hx with
     | sl _ _ _ _ _ b n cap hφ p1 p2 p3 p4=>
       obtain ⟨hn,ccs,T,q2,q5,q3,q4,q6⟩:=hw.cells_at hg hφ
       have hn1:n.1 = cs.length:=by rw [hn]
       obtain ⟨us,hus,husz,hus1,husr⟩:=hfirst (min m len) (Nat.min_le_left _ _)
       have hmm:min m len * i.size ≤ m * i.size:=Nat.mul_le_mul_right _ (Nat.min_le_left _ _)
       have hul:us.toList.length = min m len * i.size:=by simpa using husz
       have hvl:(cells.take (min m len * i.size)).length = min m len * i.size:=by simp;omega
       obtain ⟨e1,e2⟩:=rep_setCells (φ:=φ) (w0:=cx.w0) (B:=cx.B) (cs:=cs) (vs:=cells.take (min m len * i.size)) (ccs:=ccs) (us:=us.toList) (off:=off) (by omega) (by omega) (by omega) q4
        (fun k y v hy hv=>by
         rw [List.getElem?_take] at hy
         split at hy
         ·exact husr k y v hy (by simpa using hv)
         ·cases hy)
       have e3:=one_setCells (cs:=cs) (vs:=cells.take (min m len * i.size)) (ccs:=ccs) (us:=us.toList) (off:=off) q6 hus1 (by omega) (by omega) e1
       obtain ⟨g1,g2⟩:=hw.put (n:=n) (get_some hg) rfl (o':=.cells ver (setCells cs off (cells.take (min m len * i.size)))) rfl hφ (Puts.setRow q2 (cs:=(ccs.toList.take off ++ us.toList ++ ccs.toList.drop (off + us.toList.length)).toArray))
        ⟨by rw [e1];exact hn,_,T,setRow_heap w b ccs _ T _ q2,by rw [splice_size (by omega)];exact q5,by rw [e1];exact q3,e2,e3⟩
       refine ⟨.int .i64 (min m len:Nat),_,?_,.v _,g1,g2⟩
       have hst:=run_storeCells_at (P:=cx.P) b off T us.toList 0 ccs w q2 (by omega) hus1
       simp only [Nat.add_zero] at hst
       have hus':(Builtin.firstCells i.size (Nat.min m len) z).run cx.P w = .ok us w:=hus
       simp only [Builtin.copy_,List.getElem?_toArray,List.getElem?_cons_zero,List.getElem?_cons_succ,Sem.run_bind,run_underlying_of hu,Result.andThen_ok,hlen,run_sizeOf_of hi,hus',hst,pure,Sem.run,goInt]
    ·cases he
   ·cases he
  ·cases he
theorem build_sound (hw:RepW cx φ h w) {t:TypeId} {fs:Array Field} {z:Value} {pl:List (Nat × Nat)} (hu:cx.P.underlying t = some (.struct fs)) (hz:(cx.P.info? t).bind (·.zero) = some z) (hpl:xPlaces cx.P fs.toList = some pl)
 (hz1:∀ v ∈ z.cells.toList,v.oneCell' = true) {ps:List (Nat × Value)} {xs:List (Nat × Nat × AV)} (hl:ps.length = xs.length) (hp:∀ (k:Nat) p x,ps[k]? = some p → xs[k]? = some x → pl[p.1]? = some (x.1,x.2.1) ∧ Rep cx.w0 cx.B φ x.2.2 p.2)
 {cs:List AV} (he:xFill (z.cells.toList.map .v) xs = some cs):∃ u,(Instr.build t ps.toArray).run cx.P w = .ok u w ∧ Rep cx.w0 cx.B φ (.agg cs) u:=by
 have hvv:∀ (k:Nat) x v,(z.cells.toList.map AV.v)[k]? = some x → z.cells[k]? = some v → x = .v v:=by
  intro k x v hx hv
  rw [List.getElem?_map,Array.getElem?_toList,hv] at hx
  simpa using hx.symm
 obtain ⟨ccs,f1,f2,f3,f4,f5⟩:=fill_sound (w0:=cx.w0) (B:=cx.B) (φ:=φ) (place:=fun k=>pl.toArray[k]?) ps xs _ cs z.cells hl (fun k p x hk hx=>by
  obtain ⟨q1,q2⟩:=hp k p x hk hx
  exact ⟨by simpa using q1,q2⟩) he (by simp)
  (fun k x v hx hv=>by rw [hvv k x v hx hv];exact .v _) (fun k v _ hv=>hz1 v (Array.mem_toList_iff.2 (Array.mem_of_getElem? hv)))
 refine ⟨.agg ccs,?_,.agg _ _ (by rw [f3,f2];simp) f4⟩
 have hm:(fs.mapM (fun f=>do pure (f.offset,← sizeOf f.type):Field → Sem (Nat × Nat))).run cx.P w = .ok pl.toArray w:=by
  rw [Array.mapM_eq_mapM_toList]
  rw [Sem.run_map,run_places fs.toList pl hpl w]
  rfl
 have hzr:(zeroValue t).run cx.P w = .ok z w:=run_zero_of hz w
 simp only [Instr.build,Sem.run_bind,hzr,Result.andThen_ok,run_underlying_of hu,pure,Sem.run] at hm ⊢
 simp only [hm,Result.andThen_ok,f1,Sem.run]
theorem parts_sound (hs:RepSt cx φ s a w) {pl:List (Nat × Nat)}:∀ (ps:List (Nat × Operand)) (l:List (Nat × Nat × XO)),xParts pl ps = some l →
 (ps.map fun p=>(p.1,a.eval p.2)).length = (l.map fun p=>(p.1,p.2.1,s.ev cx p.2.2)).length ∧ ∀ (k:Nat) p x,(ps.map fun p=>(p.1,a.eval p.2))[k]? = some p → (l.map fun p=>(p.1,p.2.1,s.ev cx p.2.2))[k]? = some x → pl[p.1]? = some (x.1,x.2.1) ∧ Rep cx.w0 cx.B φ x.2.2 p.2
 | [],l,he=>by
   simp only [xParts,Option.some.injEq] at he
   subst he
   exact ⟨rfl,fun k p x h=>by simp at h⟩
 | (i,x) :: r,l,he=>by
   simp only [xParts] at he
   split at he
   ·rename_i p l' hp hl
    simp at he
    subst he
    obtain ⟨h1,h2⟩:=parts_sound hs r l' hl
    refine ⟨by simpa using h1,?_⟩
    intro k q y hq hy
    cases k with
    | zero=>
      simp at hq hy
      subst hq;subst hy
      exact ⟨hp,hs.ev x⟩
    | succ k=>exact h2 k q y (by simpa using hq) (by simpa using hy)
   ·cases he
theorem Good.of {s:Sem Value} {r:AV} (hh:∃ v w' φ',s.run cx.P w = .ok v w' ∧ Rep cx.w0 cx.B φ' r v ∧ RepW cx φ' h' w' ∧ Step φ h w φ' h' w'):Good cx φ h w r h' (do pure (.value (← s))):=by
 obtain ⟨v,w',φ',h1,h2,h3,h4⟩:=hh
 exact ⟨_,v,w',φ',by simp [h1],.inl rfl,h2,h3,h4⟩
theorem Good.of1 (hw:RepW cx φ h w) {s:Sem Value} {r:AV} (hh:∃ v,s.run cx.P w = .ok v w ∧ Rep cx.w0 cx.B φ r v):Good cx φ h w r h (do pure (.value (← s))):=by
 obtain ⟨v,h1,h2⟩:=hh
 exact Good.value hw h1 h2
end Go.Eng

/- Part 1 of a proof: an abstract memory for the translated code, and what the functions that the law reaches do over it. -/
import Derived.WalkKit
import Derived.Laws.StructEq
import Derived.MapKept
import Derived.WideKeyRuns
namespace Go.Eng
open Go.RowKit
inductive AV where
  | un
  | v (x : Value)
  | agg (cs : List AV)
  | tup (cs : List AV)
  | ptr (id ver off : Nat)
  | sl (id ver off len sz : Nat)
  | ro (sz n : Nat) (f : Nat → List AV)
  | rp (cs : List AV)
  | fn (f : FuncId) (caps : List AV)
  | mp (id : Nat)
  | und
instance : Inhabited AV := ⟨.un⟩
inductive AO where
  | cells (ver : Nat) (cs : List AV)
  | froz (cs : List AV)
  | map (clock : Nat) (es : List (Nat × Value × AV))
def AO.ver : AO → Nat
  | .cells ver _ => ver
  | .froz _ => 0
  | .map _ _ => 0
@[simp] theorem AO.ver_cells (n : Nat) (cs : List AV) : (AO.cells n cs).ver = n := rfl
@[simp] theorem AO.ver_froz (cs : List AV) : (AO.froz cs).ver = 0 := rfl
@[simp] theorem AO.ver_map (c : Nat) (es : List (Nat × Value × AV)) : (AO.map c es).ver = 0 := rfl
abbrev AH := List AO
abbrev Phi := Nat → Nat → Option (Nat × Nat × Nat)
def AV.cell : AV → Bool
  | .v x => x.oneCell'
  | .ptr .. | .sl .. | .ro .. | .rp .. | .fn .. | .mp .. => true
  | _ => false
inductive Rep (w0 : World) (B : Nat) (φ : Phi) : AV → Value → Prop where
  | un (v : Value) : Rep w0 B φ .un v
  | v (x : Value) : Rep w0 B φ (.v x) x
  | agg (cs : List AV) (vs : Array Value) (hl : cs.length = vs.size) (h : ∀ (k : Nat) x v, cs[k]? = some x → vs[k]? = some v → Rep w0 B φ x v) : Rep w0 B φ (.agg cs) (.agg vs)
  | tup (cs : List AV) (vs : Array Value) (hl : cs.length = vs.size) (h : ∀ (k : Nat) x v, cs[k]? = some x → vs[k]? = some v → Rep w0 B φ x v) : Rep w0 B φ (.tup cs) (.tuple vs)
  | ptr (id ver off b : Nat) (n : Nat × Nat) (h : φ id ver = some (b, n)) : Rep w0 B φ (.ptr id ver off) (.pointer (some ⟨b, off, none⟩))
  | sl (id ver off len sz b : Nat) (n : Nat × Nat) (cap : Nat) (h : φ id ver = some (b, n)) (h1 : off + len * sz ≤ n.1) (h2 : n.1 ≤ off + cap * sz) (h3 : len ≤ cap) (h4 : off + cap * sz ≤ n.2) : Rep w0 B φ (.sl id ver off len sz) (.slice (some ⟨b, off, none⟩) len cap)
  | ro (sz n : Nat) (f : Nat → List AV) (A : Option Addr) (cap b o : Nat) (c : Nat → Nat → Value) (hcap : n ≤ cap) (hA : 0 < n → A = some ⟨b, o, none⟩ ∧ b < B)
      (hf : ∀ i, i < n → (f i).length = sz) (hc : ∀ i k, i < n → k < sz → w0.cell? ⟨b, o + i * sz + k, none⟩ = some (c i k)) (h1 : ∀ i k, i < n → k < sz → (c i k).oneCell' = true)
      (h : ∀ (i k : Nat) x, i < n → (f i)[k]? = some x → Rep w0 B φ x (c i k)) : Rep w0 B φ (.ro sz n f) (.slice A n cap)
  | rp (cs : List AV) (b o : Nat) (c : Nat → Value) (hb : b < B) (hc : ∀ k, k < cs.length → w0.cell? ⟨b, o + k, none⟩ = some (c k)) (h1 : ∀ k, k < cs.length → (c k).oneCell' = true)
      (h : ∀ (k : Nat) x, cs[k]? = some x → Rep w0 B φ x (c k)) : Rep w0 B φ (.rp cs) (.pointer (some ⟨b, o, none⟩))
  | fn (f : FuncId) (caps : List AV) (vs : Array Value) (hl : caps.length = vs.size) (h : ∀ (k : Nat) x v, caps[k]? = some x → vs[k]? = some v → Rep w0 B φ x v) : Rep w0 B φ (.fn f caps) (.func (.func f) #[] vs)
  | mp (id b : Nat) (n : Nat × Nat) (h : φ id 0 = some (b, n)) : Rep w0 B φ (.mp id) (.map (some b))
  | und : Rep w0 B φ .und undef
def Ext (φ φ' : Phi) : Prop := ∀ id ver r, φ id ver = some r → φ' id ver = some r
theorem Ext.refl (φ : Phi) : Ext φ φ := fun _ _ _ h => h
theorem Ext.trans {a b c : Phi} (h : Ext a b) (k : Ext b c) : Ext a c := fun _ _ _ x => k _ _ _ (h _ _ _ x)
section
variable {w0 : World} {B : Nat} {φ φ' : Phi}
theorem Rep.ext {x : AV} {v : Value} (h : Rep w0 B φ x v) (he : Ext φ φ') : Rep w0 B φ' x v := by
  induction h with
  | un v => exact .un v
  | v x => exact .v x
  | agg cs vs hl _ ih => exact .agg cs vs hl ih
  | tup cs vs hl _ ih => exact .tup cs vs hl ih
  | ptr id ver off b n h => exact .ptr id ver off b n (he _ _ _ h)
  | sl id ver off len sz b n cap h h1 h2 h3 h4 => exact .sl id ver off len sz b n cap (he _ _ _ h) h1 h2 h3 h4
  | ro sz n f A cap b o c hcap hA hf hc h1 _ ih => exact .ro sz n f A cap b o c hcap hA hf hc h1 ih
  | rp cs b o c hb hc h1 _ ih => exact .rp cs b o c hb hc h1 ih
  | fn f caps vs hl _ ih => exact .fn f caps vs hl ih
  | mp id b n h => exact .mp id b n (he _ _ _ h)
  | und => exact .und
theorem Rep.oneCell {x : AV} {v : Value} (h : Rep w0 B φ x v) (hx : x.cell = true) : v.oneCell' = true := by
  cases h <;> first | exact hx | rfl | (simp [AV.cell] at hx)
def ofV : Value → AV
  | .agg cs => .agg (cs.toList.map .v)
  | x => .v x
theorem rep_ofV (x : Value) : Rep w0 B φ (ofV x) x := by
  unfold ofV
  split
  · rename_i cs
    refine .agg _ _ (by simp) ?_
    intro k x v hx hv
    simp only [List.getElem?_map, Array.getElem?_toList] at hx
    rw [hv] at hx
    simp only [Option.map_some, Option.some.injEq] at hx
    subst hx
    exact .v _
  · exact .v _
end
structure Cx where
  P : Program
  w0 : World
  B : Nat
  G : Nat → Option (List AV)
  hB : B ≤ w0.heap.size
  hG : ∀ (φ : Phi) g cs, G g = some cs → Rep w0 B φ (.rp cs) (.pointer (some ⟨g, 0, none⟩))
def RepO (cx : Cx) (φ : Phi) (w : World) (b : Nat) (n : Nat × Nat) : AO → Prop
  | .cells _ cs => n = (cs.length, n.2) ∧ ∃ (ccs : Array Value) (T : TypeId), w.heap[b]? = some (.cells ccs T (0, 0)) ∧ ccs.size = n.2 ∧ cs.length ≤ n.2 ∧ (∀ (k : Nat) x v, cs[k]? = some x → ccs[k]? = some v → Rep cx.w0 cx.B φ x v) ∧ ∀ (k : Nat) v, k < cs.length → ccs[k]? = some v → v.oneCell' = true
  | .froz cs => n = (cs.length, n.2) ∧ ∃ (ccs : Array Value) (T : TypeId) (fz : Nat × Nat), w.heap[b]? = some (.cells ccs T fz) ∧ ccs.size = n.2 ∧ cs.length ≤ n.2 ∧ (∀ (k : Nat) x v, cs[k]? = some x → ccs[k]? = some v → Rep cx.w0 cx.B φ x v) ∧ ∀ (k : Nat) v, k < cs.length → ccs[k]? = some v → v.oneCell' = true
  | .map clock es => ∃ (en : Array MapEntry), w.heap[b]? = some (.map en clock) ∧ en.size = es.length ∧ ∀ (i : Nat) e x, en[i]? = some e → es[i]? = some x → e.born = x.1 ∧ e.key = x.2.1 ∧ Rep cx.w0 cx.B φ x.2.2 e.val
structure Blw (B : Nat) (w w' : World) : Prop where
  os : w'.os = w.os
  tape : w'.tape = w.tape
  output : w'.output = w.output
  size : w.heap.size ≤ w'.heap.size
  block : ∀ k, k < B → w'.heap[k]? = w.heap[k]?
  drawn : w.drawn ≤ w'.drawn
theorem Blw.refl (B : Nat) (w : World) : Blw B w w := ⟨rfl, rfl, rfl, Nat.le_refl _, fun _ _ => rfl, Nat.le_refl _⟩
theorem Blw.trans {B : Nat} {a b c : World} (h : Blw B a b) (k : Blw B b c) : Blw B a c :=
  ⟨k.os.trans h.os, k.tape.trans h.tape, k.output.trans h.output, Nat.le_trans h.size k.size, fun i hi => (k.block i hi).trans (h.block i hi), Nat.le_trans h.drawn k.drawn⟩
theorem Blw.drew {B : Nat} {a w : World} (h : Blw B a w) : Blw B a w.drew := ⟨h.os, h.tape, h.output, h.size, h.block, Nat.le_trans h.drawn (Nat.le_succ _)⟩
theorem Blw.below {B : Nat} {w w' : World} (h : Blw B w w') : Below B w w' := ⟨h.os, h.tape, h.output, h.size, h.block⟩
theorem Blw.cell {B : Nat} {w w' : World} (h : Blw B w w') {p : Addr} (hp : p.block < B) : w'.cell? p = w.cell? p := h.below.cell hp
structure RepW (cx : Cx) (φ : Phi) (h : AH) (w : World) : Prop where
  below : Blw cx.B cx.w0 w
  obj : ∀ (id : Nat) o b n, h[id]? = some o → φ id o.ver = some (b, n) → RepO cx φ w b n o
  inj : ∀ (id id' : Nat) o o' b n n', h[id]? = some o → h[id']? = some o' → φ id o.ver = some (b, n) → φ id' o'.ver = some (b, n') → id = id'
  dom : ∀ (id ver : Nat) r, φ id ver = some r → ∃ o, h[id]? = some o ∧ ver ≤ o.ver
  hi : ∀ (id ver b : Nat) n, φ id ver = some (b, n) → cx.B ≤ b ∧ b < w.heap.size
theorem RepW.hB {cx : Cx} {φ : Phi} {h : AH} {w : World} (hw : RepW cx φ h w) : cx.B ≤ w.heap.size := Nat.le_trans cx.hB hw.below.size
structure Step (φ : Phi) (h : AH) (w : World) (φ' : Phi) (h' : AH) (w' : World) : Prop where
  ext : Ext φ φ'
  keep : ∀ b, b < w.heap.size → (∀ (id : Nat) o n, h[id]? = some o → φ id o.ver ≠ some (b, n)) → w'.heap[b]? = w.heap[b]?
  cur : ∀ (id : Nat) o b n, h'[id]? = some o → φ' id o.ver = some (b, n) → b < w.heap.size → ∃ (id0 : Nat) (o0 : AO) (n0 : Nat × Nat), h[id0]? = some o0 ∧ φ id0 o0.ver = some (b, n0)
  size : w.heap.size ≤ w'.heap.size
  len : h.length ≤ h'.length
  vir : ∀ id, id < h.length → (∀ v, φ id v = none) → ∀ v, φ' id v = none
theorem Step.refl (φ : Phi) (h : AH) (w : World) : Step φ h w φ h w := ⟨Ext.refl _, fun _ _ _ => rfl, fun id o b n ho hn _ => ⟨id, o, n, ho, hn⟩, Nat.le_refl _, Nat.le_refl _, fun _ _ h => h⟩
theorem Step.trans {φ φ1 φ2 : Phi} {h h1 h2 : AH} {w w1 w2 : World} (a : Step φ h w φ1 h1 w1) (c : Step φ1 h1 w1 φ2 h2 w2) : Step φ h w φ2 h2 w2 := by
  refine ⟨a.ext.trans c.ext, ?_, ?_, Nat.le_trans a.size c.size, Nat.le_trans a.len c.len, fun id hid hv => c.vir id (by have := a.len; omega) (a.vir id hid hv)⟩
  · intro b hb hn
    rw [c.keep b (by have := a.size; omega) ?_]
    · exact a.keep b hb hn
    · intro id o n ho he
      obtain ⟨id0, o0, n0, h0, h1⟩ := a.cur id o b n ho he hb
      exact hn id0 o0 n0 h0 h1
  · intro id o b n ho he hb
    obtain ⟨id1, o1, n1, h1, h2⟩ := c.cur id o b n ho he (by have := a.size; omega)
    exact a.cur id1 o1 b n1 h1 h2 hb
structure XSt where
  fr : List AV
  h : AH
structure RepSt (cx : Cx) (φ : Phi) (s : XSt) (a : Act) (w : World) : Prop where
  len : s.fr.length = a.tmps.size
  slot : ∀ (t : Nat) x v, s.fr[t]? = some x → a.tmps[t]? = some v → Rep cx.w0 cx.B φ x v
  defers : a.defers = []
  world : RepW cx φ s.h w
inductive XO where
  | t (n : Nat)
  | k (v : Value)
  | g (n : Nat)
  | f (n : FuncId)
def opd : Operand → XO
  | .tmp t => .t t
  | .const v => .k v
  | .global g => .g g
  | .func f => .f f
def XSt.ev (cx : Cx) (s : XSt) : XO → AV
  | .t n => s.fr.getD n .un
  | .k v => ofV v
  | .g g => match cx.G g with
    | some cs => .rp cs
    | none => .un
  | .f f => .fn f []
section
variable {cx : Cx} {φ : Phi} {s : XSt} {a : Act} {w : World}
theorem RepSt.ev (hs : RepSt cx φ s a w) (x : Operand) : Rep cx.w0 cx.B φ (s.ev cx (opd x)) (a.eval x) := by
  cases x with
  | tmp t =>
    simp only [opd, XSt.ev, Act.eval, List.getD_eq_getElem?_getD, Array.getD_eq_getD_getElem?]
    cases h1 : s.fr[t]? with
    | none => simp only [Option.getD_none]; exact .un _
    | some x =>
      have hlt : t < a.tmps.size := by rw [← hs.len]; exact (List.getElem?_eq_some_iff.1 h1).1
      rw [Array.getElem?_eq_getElem hlt]
      simp only [Option.getD_some]
      exact hs.slot t x _ h1 (Array.getElem?_eq_getElem hlt)
  | const v => exact rep_ofV v
  | global g =>
    simp only [opd, XSt.ev, Act.eval]
    cases h1 : cx.G g with
    | none => exact .un _
    | some cs => exact cx.hG φ g cs h1
  | func f => exact .fn f [] #[] rfl (fun k x v h => by simp at h)
theorem RepSt.put (hs : RepSt cx φ s a w) {φ' : Phi} {h' : AH} {w' : World} (he : Ext φ φ') (hw : RepW cx φ' h' w') (d : Option Nat) {x : AV} {v : Value} (hx : Rep cx.w0 cx.B φ' x v) :
    RepSt cx φ' ⟨match d with | some t => s.fr.set t x | none => s.fr, h'⟩ (a.put d v) w' := by
  cases d with
  | none => exact ⟨hs.len, fun t x v h1 h2 => (hs.slot t x v h1 h2).ext he, hs.defers, hw⟩
  | some t =>
    refine ⟨by simp [Act.put, hs.len], ?_, hs.defers, hw⟩
    intro t' y u h1 h2
    simp only [Act.put] at h2
    by_cases ht : t = t'
    · subst ht
      have hlt : t < a.tmps.size := by
        have := (Array.getElem?_eq_some_iff.1 h2).1
        simpa using this
      rw [Array.getElem?_setIfInBounds_self_of_lt hlt] at h2
      rw [List.getElem?_set_self (by rw [hs.len]; exact hlt)] at h1
      simp only [Option.some.injEq] at h1 h2
      subst h1; subst h2
      exact hx
    · rw [Array.getElem?_setIfInBounds_ne ht] at h2
      rw [List.getElem?_set_ne ht] at h1
      exact (hs.slot t' y u h1 h2).ext he
end
end Go.Eng
namespace Go.Eng
open Go.RowKit
variable {cx : Cx} {φ φ' : Phi} {h : AH} {w w' : World} {b : Nat} {n : Nat × Nat}
theorem RepO.mono {o : AO} (hr : RepO cx φ w b n o) (he : Ext φ φ') (hb : w'.heap[b]? = w.heap[b]?) : RepO cx φ' w' b n o := by
  cases o with
  | cells ver cs =>
    obtain ⟨h1, ccs, T, h2, h3, h5, h4, h6⟩ := hr
    exact ⟨h1, ccs, T, hb.trans h2, h3, h5, fun k x v hx hv => (h4 k x v hx hv).ext he, h6⟩
  | froz cs =>
    obtain ⟨h1, ccs, T, fz, h2, h3, h5, h4, h6⟩ := hr
    exact ⟨h1, ccs, T, fz, hb.trans h2, h3, h5, fun k x v hx hv => (h4 k x v hx hv).ext he, h6⟩
  | map clock es =>
    obtain ⟨en, h1, h2, h3⟩ := hr
    exact ⟨en, hb.trans h1, h2, fun i e x hx hv => ⟨(h3 i e x hx hv).1, (h3 i e x hx hv).2.1, (h3 i e x hx hv).2.2.ext he⟩⟩
structure Adds (w : World) (obj : Obj) (w' : World) : Prop where
  heap : w'.heap = w.heap.push obj
  os : w'.os = w.os
  tape : w'.tape = w.tape
  output : w'.output = w.output
  drawn : w.drawn ≤ w'.drawn
theorem Adds.alloc (w : World) (obj : Obj) : Adds w obj (w.alloc obj) := ⟨rfl, rfl, rfl, rfl, Nat.le_refl _⟩
theorem Adds.size {obj : Obj} (ha : Adds w obj w') : w'.heap.size = w.heap.size + 1 := by rw [ha.heap]; simp
theorem Adds.new {obj : Obj} (ha : Adds w obj w') : w'.heap[w.heap.size]? = some obj := by rw [ha.heap]; simp
theorem Adds.old {obj : Obj} (ha : Adds w obj w') {k : Nat} (hk : k < w.heap.size) : w'.heap[k]? = w.heap[k]? := by rw [ha.heap, Array.getElem?_push, if_neg (by omega)]
def newPhi (φ : Phi) (id ver b : Nat) (n : Nat × Nat) : Phi := fun i v => if i = id ∧ v = ver then some (b, n) else φ i v
theorem newPhi_self (φ : Phi) (id ver b : Nat) (n : Nat × Nat) : newPhi φ id ver b n id ver = some (b, n) := by simp [newPhi]
theorem newPhi_ext {id ver : Nat} (hn : φ id ver = none) (b : Nat) (n : Nat × Nat) : Ext φ (newPhi φ id ver b n) := by
  intro i v r hr
  unfold newPhi
  split
  · rename_i hc
    rw [hc.1, hc.2, hn] at hr
    cases hr
  · exact hr
theorem RepW.none_of (hw : RepW cx φ h w) {id ver : Nat} (hn : ∀ o, h[id]? = some o → o.ver < ver) : φ id ver = none := by
  cases he : φ id ver with
  | none => rfl
  | some r =>
    obtain ⟨o, ho, hv⟩ := hw.dom _ _ _ he
    have := hn o ho
    omega
theorem RepW.base_le (hw : RepW cx φ h w) : cx.B ≤ w.heap.size ∨ True := Or.inr trivial
theorem RepW.new (hw : RepW cx φ h w) (hB : cx.B ≤ w.heap.size) {obj : Obj} (ha : Adds w obj w') (o : AO) (ho : o.ver = 0) (n : Nat × Nat)
    (hr : ∀ φ', Ext φ φ' → RepO cx φ' w' w.heap.size n o) :
    RepW cx (newPhi φ h.length 0 w.heap.size n) (h ++ [o]) w' ∧ Step φ h w (newPhi φ h.length 0 w.heap.size n) (h ++ [o]) w' := by
  have hnone : ∀ ver, φ h.length ver = none := fun ver => hw.none_of (fun o ho => by simp at ho)
  have hext := newPhi_ext (hnone 0) w.heap.size n
  have hget : ∀ (id : Nat) o', (h ++ [o])[id]? = some o' → (h[id]? = some o' ∧ id < h.length) ∨ (id = h.length ∧ o' = o) := by
    intro id o' hg
    rw [List.getElem?_append] at hg
    split at hg
    · rename_i hlt; exact .inl ⟨hg, hlt⟩
    · rename_i hlt
      have : id - h.length = 0 := by
        cases hk : id - h.length with
        | zero => rfl
        | succ k => rw [hk] at hg; simp at hg
      rw [this] at hg
      simp at hg
      exact .inr ⟨by omega, hg.symm⟩
  have hold : ∀ (id ver : Nat), id < h.length → newPhi φ h.length 0 w.heap.size n id ver = φ id ver := by
    intro id ver hlt
    unfold newPhi
    rw [if_neg (by omega)]
  have hnew : ∀ (ver b : Nat) m, newPhi φ h.length 0 w.heap.size n h.length ver = some (b, m) → ver = 0 ∧ b = w.heap.size ∧ m = n := by
    intro ver b m he
    unfold newPhi at he
    split at he
    · rename_i hc
      simp at he
      exact ⟨hc.2, he.1.symm, he.2.symm⟩
    · rw [hnone] at he; cases he
  refine ⟨⟨?_, ?_, ?_, ?_, ?_⟩, hext, ?_, ?_, by rw [ha.size]; omega, by simp, fun id hid hv v => by rw [hold id v hid]; exact hv v⟩
  · exact hw.below.trans ⟨ha.os, ha.tape, ha.output, by rw [ha.size]; omega, fun k hk => ha.old (by omega), ha.drawn⟩
  · intro id o' b m hg he
    rcases hget id o' hg with ⟨h1, h2⟩ | ⟨rfl, rfl⟩
    · rw [hold id _ h2] at he
      exact (hw.obj id o' b m h1 he).mono hext (ha.old (hw.hi _ _ _ _ he).2)
    · obtain ⟨_, rfl, rfl⟩ := hnew _ _ _ he
      exact hr _ hext
  · intro id id' o1 o2 b m m' hg hg' he he'
    rcases hget id o1 hg with ⟨h1, h2⟩ | ⟨rfl, rfl⟩ <;> rcases hget id' o2 hg' with ⟨h3, h4⟩ | ⟨rfl, rfl⟩
    · rw [hold _ _ h2] at he
      rw [hold _ _ h4] at he'
      exact hw.inj id id' o1 o2 b m m' h1 h3 he he'
    · rw [hold _ _ h2] at he
      obtain ⟨_, rfl, rfl⟩ := hnew _ _ _ he'
      have := (hw.hi _ _ _ _ he).2
      omega
    · rw [hold _ _ h4] at he'
      obtain ⟨_, rfl, rfl⟩ := hnew _ _ _ he
      have := (hw.hi _ _ _ _ he').2
      omega
    · rfl
  · intro id ver r he
    by_cases hlt : id < h.length
    · rw [hold _ _ hlt] at he
      obtain ⟨o', h1, h2⟩ := hw.dom _ _ _ he
      exact ⟨o', by rw [List.getElem?_append, if_pos hlt]; exact h1, h2⟩
    · by_cases hid : id = h.length
      · subst hid
        obtain ⟨rb, rn⟩ := r
        obtain ⟨rfl, _⟩ := hnew _ _ _ he
        exact ⟨o, by simp, by omega⟩
      · have : φ id ver = none := hw.none_of (fun o ho => by rw [List.getElem?_eq_none (by omega)] at ho; cases ho)
        unfold newPhi at he
        rw [if_neg (by omega), this] at he
        cases he
  · intro id ver b m he
    rw [ha.size]
    unfold newPhi at he
    split at he
    · simp at he
      obtain ⟨rfl, _⟩ := he
      have := hw.hB
      omega
    · have := hw.hi _ _ _ _ he
      omega
  · intro b hb _
    exact ha.old hb
  · intro id o' b m hg he hb
    rcases hget id o' hg with ⟨h1, h2⟩ | ⟨rfl, rfl⟩
    · rw [hold _ _ h2] at he
      exact ⟨id, o', m, h1, he⟩
    · obtain ⟨_, rfl, _⟩ := hnew _ _ _ he
      omega
structure Puts (w : World) (b : Nat) (obj : Obj) (w' : World) : Prop where
  size : w'.heap.size = w.heap.size
  at_ : w'.heap[b]? = some obj
  other : ∀ k, k ≠ b → w'.heap[k]? = w.heap[k]?
  os : w'.os = w.os
  tape : w'.tape = w.tape
  output : w'.output = w.output
  drawn : w.drawn ≤ w'.drawn
theorem Puts.setRow {g : Nat} {old cs : Array Value} {T : TypeId} (hg : w.heap[g]? = some (.cells old T (0, 0))) : Puts w g (.cells cs T (0, 0)) (w.setRow g cs) := by
  refine ⟨size_setRow _ _ _, setRow_heap w g old cs T _ hg, ?_, rfl, rfl, rfl, Nat.le_refl _⟩
  intro k hk
  simp only [World.setRow, Array.getElem?_modify]
  rw [if_neg (by omega)]
theorem RepW.put (hw : RepW cx φ h w) {id : Nat} {o o' : AO} (ho : h[id]? = some o) (hv : o'.ver = o.ver) (hφ : φ id o.ver = some (b, n)) {obj : Obj} (hp : Puts w b obj w') (hr : RepO cx φ w' b n o') :
    RepW cx φ (h.set id o') w' ∧ Step φ h w φ (h.set id o') w' := by
  have hlt := (List.getElem?_eq_some_iff.1 ho).1
  have hbB := (hw.hi _ _ _ _ hφ)
  have hget : ∀ (i : Nat) x, (h.set id o')[i]? = some x → (i = id ∧ x = o') ∨ (i ≠ id ∧ h[i]? = some x) := by
    intro i x hx
    by_cases hi : id = i
    · subst hi
      rw [List.getElem?_set_self hlt] at hx
      simp at hx
      exact .inl ⟨rfl, hx.symm⟩
    · rw [List.getElem?_set_ne hi] at hx
      exact .inr ⟨fun e => hi e.symm, hx⟩
  refine ⟨⟨?_, ?_, ?_, ?_, ?_⟩, Ext.refl _, ?_, ?_, by rw [hp.size]; omega, by simp, fun _ _ hv => hv⟩
  · exact hw.below.trans ⟨hp.os, hp.tape, hp.output, by rw [hp.size]; omega, fun k hk => hp.other k (by omega), hp.drawn⟩
  · intro i x b' m hx he
    rcases hget i x hx with ⟨rfl, rfl⟩ | ⟨h1, h2⟩
    · rw [hv, hφ] at he
      simp at he
      obtain ⟨rfl, rfl⟩ := he
      exact hr
    · refine (hw.obj i x b' m h2 he).mono (Ext.refl _) (hp.other _ ?_)
      rintro rfl
      exact h1 (hw.inj i id x o b' m n h2 ho he hφ)
  · intro i j x y b' m m' hx hy he he'
    rcases hget i x hx with ⟨rfl, rfl⟩ | ⟨h1, h2⟩ <;> rcases hget j y hy with ⟨rfl, rfl⟩ | ⟨h3, h4⟩
    · rfl
    · rw [hv] at he
      exact hw.inj i j o y b' m m' ho h4 he he'
    · rw [hv] at he'
      exact hw.inj i j x o b' m m' h2 ho he he'
    · exact hw.inj i j x y b' m m' h2 h4 he he'
  · intro i ver r he
    obtain ⟨x, h1, h2⟩ := hw.dom _ _ _ he
    by_cases hi : id = i
    · subst hi
      rw [ho] at h1
      simp at h1
      subst h1
      exact ⟨o', by rw [List.getElem?_set_self hlt], by omega⟩
    · exact ⟨x, by rw [List.getElem?_set_ne hi]; exact h1, h2⟩
  · intro i ver b' m he
    rw [hp.size]
    exact hw.hi _ _ _ _ he
  · intro k hk hn
    refine hp.other k ?_
    rintro rfl
    exact hn id o n ho hφ
  · intro i x b' m hx he _
    rcases hget i x hx with ⟨rfl, rfl⟩ | ⟨h1, h2⟩
    · rw [hv] at he
      exact ⟨_, o, m, ho, he⟩
    · exact ⟨i, x, m, h2, he⟩
theorem RepW.grow (hw : RepW cx φ h w) (hB : cx.B ≤ w.heap.size) {id ver : Nat} {cs cs' : List AV} (ho : h[id]? = some (.cells ver cs)) (hφ : φ id ver = some (b, n)) {b' : Nat} {n' : Nat × Nat}
    (hb' : b' = b ∨ w.heap.size ≤ b') (hlt' : b' < w'.heap.size) (hsz : w.heap.size ≤ w'.heap.size) (hos : w'.os = w.os) (htp : w'.tape = w.tape) (hou : w'.output = w.output) (hdr : w.drawn ≤ w'.drawn)
    (hk : ∀ k, k < w.heap.size → k ≠ b → w'.heap[k]? = w.heap[k]?) (hr : ∀ φ', Ext φ φ' → RepO cx φ' w' b' n' (.cells (ver + 1) cs')) :
    RepW cx (newPhi φ id (ver + 1) b' n') (h.set id (.cells (ver + 1) cs')) w' ∧ Step φ h w (newPhi φ id (ver + 1) b' n') (h.set id (.cells (ver + 1) cs')) w' := by
  have hlt := (List.getElem?_eq_some_iff.1 ho).1
  have hbB := (hw.hi _ _ _ _ hφ)
  have hnone : φ id (ver + 1) = none := hw.none_of (fun o h1 => by rw [ho] at h1; simp at h1; subst h1; simp)
  have hext := newPhi_ext hnone b' n'
  have hget : ∀ (i : Nat) x, (h.set id (.cells (ver + 1) cs'))[i]? = some x → (i = id ∧ x = .cells (ver + 1) cs') ∨ (i ≠ id ∧ h[i]? = some x) := by
    intro i x hx
    by_cases hi : id = i
    · subst hi
      rw [List.getElem?_set_self hlt] at hx
      simp at hx
      exact .inl ⟨rfl, hx.symm⟩
    · rw [List.getElem?_set_ne hi] at hx
      exact .inr ⟨fun e => hi e.symm, hx⟩
  have hold : ∀ (i v : Nat), i ≠ id → newPhi φ id (ver + 1) b' n' i v = φ i v := by
    intro i v hi
    unfold newPhi
    rw [if_neg (by omega)]
  have hself : ∀ (bb : Nat) m, newPhi φ id (ver + 1) b' n' id (ver + 1) = some (bb, m) → bb = b' ∧ m = n' := by
    intro bb m he
    rw [newPhi_self] at he
    simp at he
    exact ⟨he.1.symm, he.2.symm⟩
  refine ⟨⟨?_, ?_, ?_, ?_, ?_⟩, hext, ?_, ?_, hsz, by simp, fun i _ hv v => by rw [hold i v (by rintro rfl; rw [hv] at hφ; cases hφ)]; exact hv v⟩
  · exact hw.below.trans ⟨hos, htp, hou, hsz, fun k hkB => hk k (by omega) (by omega), hdr⟩
  · intro i x bb m hx he
    rcases hget i x hx with ⟨rfl, rfl⟩ | ⟨h1, h2⟩
    · obtain ⟨rfl, rfl⟩ := hself _ _ he
      exact hr _ hext
    · rw [hold _ _ h1] at he
      refine (hw.obj i x bb m h2 he).mono hext (hk _ (hw.hi _ _ _ _ he).2 ?_)
      rintro rfl
      exact h1 (hw.inj i id x _ _ m n h2 ho he hφ)
  · intro i j x y bb m m' hx hy he he'
    rcases hget i x hx with ⟨rfl, rfl⟩ | ⟨h1, h2⟩ <;> rcases hget j y hy with ⟨rfl, rfl⟩ | ⟨h3, h4⟩
    · rfl
    · obtain ⟨rfl, rfl⟩ := hself _ _ he
      rw [hold _ _ h3] at he'
      rcases hb' with rfl | hb'
      · exact (h3 (hw.inj j _ y _ _ m' n h4 ho he' hφ)).elim
      · have := (hw.hi _ _ _ _ he').2
        omega
    · obtain ⟨rfl, rfl⟩ := hself _ _ he'
      rw [hold _ _ h1] at he
      rcases hb' with rfl | hb'
      · exact (h1 (hw.inj i _ x _ _ m n h2 ho he hφ)).elim
      · have := (hw.hi _ _ _ _ he).2
        omega
    · rw [hold _ _ h1] at he
      rw [hold _ _ h3] at he'
      exact hw.inj i j x y bb m m' h2 h4 he he'
  · intro i v r he
    by_cases hi : i = id
    · subst hi
      refine ⟨_, by rw [List.getElem?_set_self hlt], ?_⟩
      unfold newPhi at he
      split at he
      · rename_i hc; simp [hc.2]
      · obtain ⟨x, h1, h2⟩ := hw.dom _ _ _ he
        rw [ho] at h1
        simp at h1
        subst h1
        simp at h2 ⊢
        omega
    · rw [hold _ _ hi] at he
      obtain ⟨x, h1, h2⟩ := hw.dom _ _ _ he
      exact ⟨x, by rw [List.getElem?_set_ne (fun e => hi e.symm)]; exact h1, h2⟩
  · intro i v bb m he
    unfold newPhi at he
    split at he
    · simp at he
      obtain ⟨rfl, _⟩ := he
      rcases hb' with h1 | h1 <;> omega
    · have := hw.hi _ _ _ _ he
      omega
  · intro k hkl hn
    refine hk k hkl ?_
    rintro rfl
    exact hn id _ n ho hφ
  · intro i x bb m hx he hbb
    rcases hget i x hx with ⟨rfl, rfl⟩ | ⟨h1, h2⟩
    · obtain ⟨rfl, rfl⟩ := hself _ _ he
      rcases hb' with rfl | hb'
      · exact ⟨_, _, n, ho, hφ⟩
      · omega
    · rw [hold _ _ h1] at he
      exact ⟨i, x, m, h2, he⟩
end Go.Eng
namespace Go.Eng
open Go.RowKit
structure Sh where
  agg : Bool
  ks : List Nat
inductive XOp where
  | mov (x : XO)
  | pick (c a b : XO)
  | alloc (z : List Value)
  | box (x : XO)
  | build (z : List Value) (ps : List (Nat × Nat × XO))
  | bsl (sz len : Nat) (z : List Value) (ps : List (Nat × Nat × XO))
  | ld1 (x : XO)
  | lda (n : Nat) (x : XO)
  | st (n : Nat) (a x : XO)
  | nck (x : XO)
  | bin (op : BinOp) (x y : XO)
  | beq (eq : Bool) (x y : XO)
  | un (op : UnOp) (x : XO)
  | cvi (k : IntKind) (x : XO)
  | cvs (x : XO)
  | mkf (f : FuncId) (caps : List XO)
  | sls (sz : Nat) (x : XO) (lo hi : Option XO)
  | slt (x : XO) (lo hi : Option XO)
  | sla (sz n : Nat) (x : XO) (lo hi : Option XO)
  | fad (off : Nat) (x : XO)
  | fld (off : Nat) (n : Option Nat) (x : XO)
  | iad (sz : Nat) (x i : XO)
  | iaa (sz n : Nat) (x i : XO)
  | ixs (x i : XO)
  | ext (i : Nat) (x : XO)
  | lens (x : XO)
  | lenl (x : XO)
  | lenk (n : Nat)
  | mx (mn : Bool) (x y : XO)
  | app (sz bytes : Nat) (s x : XO)
  | mks (sz bytes : Nat) (z : List Value) (l c : XO)
  | cpy (sz : Nat) (d s : XO)
  | seq (eq : Bool) (sh : Sh) (x y : XO)
  | sno (eq : Bool) (x : XO)
  | bts (x : XO)
  | stb (x : XO)
  | mkm (r : Option XO)
  | lku (sh : Sh) (z : Value) (ok : Bool) (m k : XO)
  | mup (sh : Sh) (m k x : XO)
  | men (sh : Sh) (z : Value) (m k : XO)
  | mes (m st x : XO)
  | lenm (x : XO)
  | del (sh : Sh) (m k : XO)
def AV.cellsOf : AV → Option (List AV)
  | .agg cs => if cs.all AV.cell then some cs else none
  | .un | .tup _ | .und => none
  | .v x => if x.oneCell' then some [.v x] else none
  | x => some [x]
def AH.get (h : AH) (id ver : Nat) : Option (List AV) :=
  match h[id]? with
  | some (.cells v cs) => if v = ver then some cs else none
  | _ => none
def AH.rd (h : AH) (id ver : Nat) : Option (List AV) :=
  match h[id]? with
  | some (.cells v cs) => if v = ver then some cs else none
  | some (.froz cs) => if ver = 0 then some cs else none
  | _ => none
def setCells (cs : List AV) (off : Nat) (vs : List AV) : List AV := cs.take off ++ vs ++ cs.drop (off + vs.length)
def xLd1 (h : AH) : AV → Option AV
  | .ptr id ver off => (h.rd id ver).bind (·[off]?)
  | .rp cs => cs[0]?
  | _ => none
def xLda (h : AH) (n : Nat) : AV → Option AV
  | .ptr id ver off => (h.rd id ver).bind fun cs => if off + n ≤ cs.length then some (.agg ((cs.drop off).take n)) else none
  | .rp cs => if n ≤ cs.length then some (.agg (cs.take n)) else none
  | _ => none
def xSt (h : AH) (n : Nat) (a x : AV) : Option AH :=
  match a, x.cellsOf with
  | .ptr id ver off, some vs => (h.get id ver).bind fun cs => if vs.length = n ∧ off + n ≤ cs.length then some (h.set id (.cells ver (setCells cs off vs))) else none
  | _, _ => none
def xFill (cs : List AV) : List (Nat × Nat × AV) → Option (List AV)
  | [] => some cs
  | (off, sz, x) :: r => match x.cellsOf with
    | some vs => if vs.length = sz ∧ off + sz ≤ cs.length then xFill (setCells cs off vs) r else none
    | none => none
def xBin (op : BinOp) : Value → Value → Option Value
  | .int k a, .int k' b => match op with
    | .shl => if 0 ≤ b then some (.int k (k.wrap (a * 2 ^ min b.toNat k.bits))) else none
    | .shr => if 0 ≤ b then some (.int k (a.fdiv (2 ^ min b.toNat k.bits))) else none
    | .add => if k = k' then some (.int k (k.wrap (a + b))) else none
    | .sub => if k = k' then some (.int k (k.wrap (a - b))) else none
    | .mul => if k = k' then some (.int k (k.wrap (a * b))) else none
    | .quo => if k = k' ∧ b ≠ 0 then some (.int k (k.wrap (a.tdiv b))) else none
    | .rem => if k = k' ∧ b ≠ 0 then some (.int k (a.tmod b)) else none
    | .and => if k = k' then some (.int k (k.wrap (BitVec.ofInt k.bits a &&& BitVec.ofInt k.bits b).toNat)) else none
    | .or => if k = k' then some (.int k (k.wrap (BitVec.ofInt k.bits a ||| BitVec.ofInt k.bits b).toNat)) else none
    | .xor => if k = k' then some (.int k (k.wrap (BitVec.ofInt k.bits a ^^^ BitVec.ofInt k.bits b).toNat)) else none
    | .andNot => if k = k' then some (.int k (k.wrap (BitVec.ofInt k.bits a &&& ~~~ BitVec.ofInt k.bits b).toNat)) else none
    | .eql => if k = k' then some (.bool (decide (a = b))) else none
    | .neq => if k = k' then some (.bool (!decide (a = b))) else none
    | .lss => if k = k' then some (.bool (decide (a < b))) else none
    | .leq => if k = k' then some (.bool (decide (a ≤ b))) else none
    | .gtr => if k = k' then some (.bool (decide (b < a))) else none
    | .geq => if k = k' then some (.bool (decide (b ≤ a))) else none
  | .string a, .string b => match op with
    | .add => if ((a.size + b.size : Nat) : Int) ≤ IntKind.i64.max then some (.string (a ++ b)) else none
    | .eql => some (.bool (decide (a = b)))
    | .neq => some (.bool (!decide (a = b)))
    | .lss => some (.bool (Op.bytesLess a.toList b.toList))
    | .leq => some (.bool (Op.bytesLess a.toList b.toList || decide (a = b)))
    | .gtr => some (.bool (!(Op.bytesLess a.toList b.toList || decide (a = b))))
    | .geq => some (.bool (!Op.bytesLess a.toList b.toList))
    | _ => none
  | _, _ => none
def xUn (op : UnOp) : Value → Option Value
  | .int k n => match op with
    | .neg => some (.int k (k.wrap (0 - n)))
    | .xor => some (.int k (k.wrap (BitVec.ofInt k.bits (if k.signed then -1 else k.max) ^^^ BitVec.ofInt k.bits n).toNat))
    | _ => none
  | .bool b => match op with
    | .not => some (.bool !b)
    | _ => none
  | _ => none
def xLo : Option AV → Nat → Option Nat
  | none, _ => some 0
  | some (.v (.int _ i)), h => if 0 ≤ i ∧ i ≤ h then some i.toNat else none
  | _, _ => none
def xHi : Option AV → Nat → Option Nat
  | none, n => some n
  | some (.v (.int _ i)), n => if 0 ≤ i ∧ i ≤ n then some i.toNat else none
  | _, _ => none
def xSls (sz : Nat) (x : AV) (lo hi : Option AV) : Option AV :=
  match x with
  | .sl id ver off len sz' => if sz' = sz then (xHi hi len).bind fun h => (xLo lo h).bind fun l => if l < h ∨ l = 0 then some (.sl id ver (off + l * sz) (h - l) sz) else some (.ro sz 0 fun _ => []) else none
  | .ro sz' n f => if sz' = sz then (xHi hi n).bind fun h => (xLo lo h).bind fun l => some (.ro sz (h - l) fun i => f (l + i)) else none
  | _ => none
def xSlt (x : AV) (lo hi : Option AV) : Option AV :=
  match x with
  | .v (.string s) => (xHi hi s.size).bind fun h => (xLo lo h).bind fun l => some (.v (.string (s.extract l h)))
  | _ => none
def xSla (sz n : Nat) (x : AV) (lo hi : Option AV) : Option AV :=
  match x, lo, hi with
  | .rp cs, none, none => if cs.length = n * sz then some (.ro sz n fun i => (cs.drop (i * sz)).take sz) else none
  | _, _, _ => none
def xIad (sz : Nat) : AV → AV → Option AV
  | .sl id ver off len sz', .v (.int _ i) => if sz' = sz ∧ 0 ≤ i ∧ i < len then some (.ptr id ver (off + i.toNat * sz)) else none
  | .ro sz' n f, .v (.int _ i) => if sz' = sz ∧ 0 ≤ i ∧ i < n then some (.rp (f i.toNat)) else none
  | _, _ => none
def xIaa (sz n : Nat) : AV → AV → Option AV
  | .ptr id ver off, .v (.int _ i) => if 0 ≤ i ∧ i < n then some (.ptr id ver (off + i.toNat * sz)) else none
  | .rp cs, .v (.int _ i) => if 0 ≤ i ∧ i < n then some (.rp (cs.drop (i.toNat * sz))) else none
  | _, _ => none
def xFad (off : Nat) : AV → Option AV
  | .ptr id ver o => some (.ptr id ver (o + off))
  | .rp cs => some (.rp (cs.drop off))
  | _ => none
def xFld (off : Nat) (n : Option Nat) : AV → Option AV
  | .agg cs => match n with
    | none => cs[off]?
    | some n => if off + n ≤ cs.length then some (.agg ((cs.drop off).take n)) else none
  | _ => none
def xLenS : AV → Option AV
  | .v (.string s) => some (.v (.int .i64 s.size))
  | _ => none
def xLenL : AV → Option AV
  | .sl _ _ _ len _ => some (.v (.int .i64 len))
  | .ro _ n _ => some (.v (.int .i64 n))
  | .v (.slice _ n _) => some (.v (.int .i64 n))
  | _ => none
def xMx (mn : Bool) : AV → AV → Option AV
  | .v (.int k a), .v (.int k' b) => if k = k' then some (.v (.int k (if mn then (if b < a then b else a) else (if a < b then b else a)))) else none
  | _, _ => none
def xRows (h : AH) (sz : Nat) : AV → Option (Nat × List AV)
  | .sl id ver off len sz' => if sz' = sz then (h.rd id ver).bind fun cs => if off + len * sz ≤ cs.length then some (len, (cs.drop off).take (len * sz)) else none else none
  | .ro sz' n f => if sz' = sz then some (n, (List.range n).flatMap f) else none
  | .v (.slice none 0 _) => some (0, [])
  | .v (.string b) => if sz = 1 then some (b.size, b.data.toList.map fun c => .v (.int .u8 c.toNat)) else none
  | _ => none
def xApp (h : AH) (sz bytes : Nat) (s x : AV) : Option (AV × AH) :=
  match xRows h sz x with
  | none => none
  | some (n, cells) => match s with
    | .v (.slice none 0 0) => if n = 0 then some (.v (.slice none 0 0), h) else if n * bytes ≤ 140737488355328 then some (.sl h.length 0 0 n sz, h ++ [.cells 0 cells]) else none
    | .sl id ver off len sz' => if sz' = sz then (h.get id ver).bind fun cs =>
        if n = 0 then some (.sl id ver off len sz, h)
        else if off + (len + n) * sz ≤ cs.length then some (.sl id ver off (len + n) sz, h.set id (.cells ver (setCells cs (off + len * sz) cells)))
        else if off = 0 ∧ len * sz ≤ cs.length ∧ (len + n) * bytes ≤ 140737488355328 then some (.sl id (ver + 1) 0 (len + n) sz, h.set id (.cells (ver + 1) (cs.take (len * sz) ++ cells))) else none
      else none
    | _ => none
def xMks (h : AH) (sz bytes : Nat) (z : List Value) : AV → AV → Option (AV × AH)
  | .v (.int _ l), .v (.int _ c) => if 0 ≤ l ∧ l ≤ c ∧ c * bytes ≤ 281474976710656 ∧ c < 9223372036854775808 then some (.sl h.length 0 0 l.toNat sz, h ++ [.cells 0 ((List.replicate c.toNat (z.map AV.v)).flatten)]) else none
  | _, _ => none
def xCpy (h : AH) (sz : Nat) (d s : AV) : Option (AV × AH) :=
  match xRows h sz s with
  | none => none
  | some (n, cells) => match d with
    | .v (.slice none 0 0) => some (.v (.int .i64 0), h)
    | .sl id ver off len sz' => if sz' = sz then (h.get id ver).bind fun cs =>
        if off + min n len * sz ≤ cs.length then some (.v (.int .i64 (min n len : Nat)), h.set id (.cells ver (setCells cs off (cells.take (min n len * sz))))) else none
      else none
    | _ => none
def sameOne : Nat → Value → Value → Option Bool
  | 0, .bool a, .bool b => some (a == b)
  | 1, .int k a, .int k' b => if k = k' then some (decide (a = b)) else none
  | 2, .string a, .string b => some (decide (a = b))
  | _, _, _ => none
def xEqs : List Nat → List AV → List AV → Option Bool
  | [], [], [] => some true
  | k :: ks, .v a :: xs, .v b :: ys => match sameOne k a b, xEqs ks xs ys with
    | some p, some q => some (p && q)
    | _, _ => none
  | _, _, _ => none
def xEq (sh : Sh) (x y : AV) : Option Bool := match sh.agg, x, y with
  | true, .agg xs, .agg ys => xEqs sh.ks xs ys
  | false, x, y => xEqs sh.ks [x] [y]
  | _, _, _ => none
def vals : List AV → Option (List Value)
  | [] => some []
  | .v x :: r => if x.oneCell' then (vals r).map (x :: ·) else none
  | _ => none
def AV.toV : AV → Option Value
  | .v x => some x
  | .agg cs => (vals cs).map fun l => .agg l.toArray
  | _ => none
def xFind (sh : Sh) (k : Value) : List (Nat × Value × AV) → Option (Option Nat)
  | [] => some none
  | e :: r => match xEq sh (ofV k) (ofV e.2.1) with
    | some true => some (some 0)
    | some false => (xFind sh k r).map fun o => o.map (· + 1)
    | none => none
def AH.mapAt (h : AH) : AV → Option (Nat × Nat × List (Nat × Value × AV))
  | .mp id => match h[id]? with
    | some (.map c es) => some (id, c, es)
    | _ => none
  | _ => none
def keyOk (sh : Sh) (k : Value) : Bool := (xEq sh (ofV k) (ofV k)).isSome
def xLk (h : AH) (sh : Sh) (z : Value) (m k : AV) : Option (AV × Bool) :=
  k.toV.bind fun kv => if keyOk sh kv then (h.mapAt m).bind fun p => (xFind sh kv p.2.2).map fun
    | some i => match p.2.2[i]? with
      | some e => (e.2.2, true)
      | none => (ofV z, false)
    | none => (ofV z, false)
  else none
def xLku (h : AH) (sh : Sh) (z : Value) (ok : Bool) (m k : AV) : Option AV := (xLk h sh z m k).map fun r => if ok then .tup [r.1, .v (.bool r.2)] else r.1
def xMup (h : AH) (sh : Sh) (m k x : AV) : Option AH :=
  k.toV.bind fun kv => if keyOk sh kv then (h.mapAt m).bind fun p => (xFind sh kv p.2.2).map fun
    | some i => h.set p.1 (.map p.2.1 (p.2.2.modify i fun e => (e.1, kv, x)))
    | none => h.set p.1 (.map (p.2.1 + 1) (p.2.2 ++ [(p.2.1, kv, x)]))
  else none
def xMen (h : AH) (sh : Sh) (z : Value) (m k : AV) : Option (AV × AH) :=
  k.toV.bind fun kv => if keyOk sh kv then (h.mapAt m).bind fun p => (xFind sh kv p.2.2).bind fun
    | some i => (p.2.2[i]?).map fun e => (.tup [e.2.2, .v (.int .i64 e.1)], h.set p.1 (.map p.2.1 (p.2.2.modify i fun e => (e.1, kv, e.2.2))))
    | none => some (.tup [ofV z, .v (.int .i64 p.2.1)], h.set p.1 (.map (p.2.1 + 1) (p.2.2 ++ [(p.2.1, kv, ofV z)])))
  else none
def xMes (h : AH) (m st x : AV) : Option AH :=
  match st with
  | .v (.int _ n) => (h.mapAt m).bind fun p => (p.2.2.findIdx? fun e => decide ((e.1 : Int) = n)).map fun i => h.set p.1 (.map p.2.1 (p.2.2.modify i fun e => (e.1, e.2.1, x)))
  | _ => none
def xDel (h : AH) (sh : Sh) (m k : AV) : Option AH :=
  k.toV.bind fun kv => if keyOk sh kv then (h.mapAt m).bind fun p => (xFind sh kv p.2.2).map fun
    | some i => h.set p.1 (.map p.2.1 (p.2.2.eraseIdx i))
    | none => h
  else none
def xLenM (h : AH) : AV → Option AV
  | .v (.map none) => some (.v (.int .i64 0))
  | m => (h.mapAt m).map fun p => .v (.int .i64 p.2.2.length)
def xBytes : List AV → Option (List UInt8)
  | [] => some []
  | .v (.int .u8 n) :: r => (xBytes r).map (UInt8.ofNat n.toNat :: ·)
  | _ => none
def xStb (h : AH) (x : AV) : Option AV := match x with
  | .v (.string _) => none
  | x => (xRows h 1 x).bind fun p => (xBytes p.2).map fun l => .v (.string ⟨l.toArray⟩)
def xNo : AV → Option Bool
  | .v (.slice none _ _) => some true
  | .sl .. => some false
  | .ro _ n _ => if 0 < n then some false else none
  | _ => none
def xev (cx : Cx) (s : XSt) : XOp → Option (AV × AH)
  | .mov x => some (s.ev cx x, s.h)
  | .pick c a b => match s.ev cx c with
    | .v (.bool t) => some (if t then s.ev cx a else s.ev cx b, s.h)
    | _ => none
  | .alloc z => some (.ptr s.h.length 0 0, s.h ++ [.cells 0 (z.map .v)])
  | .box x => (s.ev cx x).cellsOf.map fun cs => (.ptr s.h.length 0 0, s.h ++ [.cells 0 cs])
  | .build z ps => (xFill (z.map .v) (ps.map fun p => (p.1, p.2.1, s.ev cx p.2.2))).map fun cs => (.agg cs, s.h)
  | .bsl sz len z ps => (xFill (z.map .v) (ps.map fun p => (p.1, p.2.1, s.ev cx p.2.2))).map fun cs => (.sl s.h.length 0 0 len sz, s.h ++ [.cells 0 cs])
  | .ld1 x => (xLd1 s.h (s.ev cx x)).map fun v => (v, s.h)
  | .lda n x => (xLda s.h n (s.ev cx x)).map fun v => (v, s.h)
  | .st n a x => (xSt s.h n (s.ev cx a) (s.ev cx x)).map fun h => (.und, h)
  | .nck x => match s.ev cx x with
    | .ptr .. | .rp _ | .fn .. => some (s.ev cx x, s.h)
    | _ => none
  | .bin op x y => match s.ev cx x, s.ev cx y with
    | .v a, .v b => (xBin op a b).map fun v => (.v v, s.h)
    | _, _ => none
  | .beq eq x y => match s.ev cx x, s.ev cx y with
    | .v (.bool a), .v (.bool b) => some (.v (.bool (if eq then a == b else !(a == b))), s.h)
    | _, _ => none
  | .un op x => match s.ev cx x with
    | .v a => (xUn op a).map fun v => (.v v, s.h)
    | _ => none
  | .cvi k x => match s.ev cx x with
    | .v (.int _ n) => some (.v (.int k (k.wrap n)), s.h)
    | _ => none
  | .cvs x => match s.ev cx x with
    | .v (.string b) => some (.v (.string b), s.h)
    | _ => none
  | .mkf f caps => some (.fn f (caps.map (s.ev cx)), s.h)
  | .sls sz x lo hi => (xSls sz (s.ev cx x) (lo.map (s.ev cx)) (hi.map (s.ev cx))).map fun v => (v, s.h)
  | .slt x lo hi => (xSlt (s.ev cx x) (lo.map (s.ev cx)) (hi.map (s.ev cx))).map fun v => (v, s.h)
  | .sla sz n x lo hi => (xSla sz n (s.ev cx x) (lo.map (s.ev cx)) (hi.map (s.ev cx))).map fun v => (v, s.h)
  | .fad off x => (xFad off (s.ev cx x)).map fun v => (v, s.h)
  | .fld off n x => (xFld off n (s.ev cx x)).map fun v => (v, s.h)
  | .iad sz x i => (xIad sz (s.ev cx x) (s.ev cx i)).map fun v => (v, s.h)
  | .iaa sz n x i => (xIaa sz n (s.ev cx x) (s.ev cx i)).map fun v => (v, s.h)
  | .ixs x i => match s.ev cx x, s.ev cx i with
    | .v (.string b), .v (.int _ i) => if h : 0 ≤ i ∧ i.toNat < b.size then some (.v (.int .u8 (b[i.toNat]'h.2).toNat), s.h) else none
    | _, _ => none
  | .ext i x => match s.ev cx x with
    | .tup cs => (cs[i]?).map fun v => (v, s.h)
    | _ => none
  | .lens x => (xLenS (s.ev cx x)).map fun v => (v, s.h)
  | .lenl x => (xLenL (s.ev cx x)).map fun v => (v, s.h)
  | .lenk n => some (.v (.int .i64 n), s.h)
  | .mx mn x y => (xMx mn (s.ev cx x) (s.ev cx y)).map fun v => (v, s.h)
  | .app sz bytes x y => xApp s.h sz bytes (s.ev cx x) (s.ev cx y)
  | .mks sz bytes z l c => xMks s.h sz bytes z (s.ev cx l) (s.ev cx c)
  | .cpy sz d x => xCpy s.h sz (s.ev cx d) (s.ev cx x)
  | .seq eq sh x y => (xEq sh (s.ev cx x) (s.ev cx y)).map fun b => (.v (.bool (if eq then b else !b)), s.h)
  | .sno eq x => (xNo (s.ev cx x)).map fun b => (.v (.bool (if eq then b else !b)), s.h)
  | .bts x => match s.ev cx x with
    | .v (.string b) => some (.sl s.h.length 0 0 b.size 1, s.h ++ [.froz (b.data.toList.map fun c => .v (.int .u8 c.toNat))])
    | _ => none
  | .stb x => (xStb s.h (s.ev cx x)).map fun v => (v, s.h)
  | .mkm r => match r.map (s.ev cx) with
    | none => some (.mp s.h.length, s.h ++ [.map 0 []])
    | some (.v (.int _ _)) => some (.mp s.h.length, s.h ++ [.map 0 []])
    | _ => none
  | .lku sh z ok m k => (xLku s.h sh z ok (s.ev cx m) (s.ev cx k)).map fun v => (v, s.h)
  | .mup sh m k x => (xMup s.h sh (s.ev cx m) (s.ev cx k) (s.ev cx x)).map fun h => (.und, h)
  | .men sh z m k => xMen s.h sh z (s.ev cx m) (s.ev cx k)
  | .mes m st x => (xMes s.h (s.ev cx m) (s.ev cx st) (s.ev cx x)).map fun h => (.und, h)
  | .lenm x => (xLenM s.h (s.ev cx x)).map fun v => (v, s.h)
  | .del sh m k => (xDel s.h sh (s.ev cx m) (s.ev cx k)).map fun h => (.tup [], h)
def isAggB (P : Program) (t : TypeId) : Option Bool := (P.underlying t).map fun
  | .struct _ | .array _ _ => true
  | _ => false
def xPlaces (P : Program) : List Field → Option (List (Nat × Nat))
  | [] => some []
  | f :: r => match P.info? f.type, xPlaces P r with
    | some i, some l => some ((f.offset, i.size) :: l)
    | _, _ => none
def xParts (pl : List (Nat × Nat)) : List (Nat × Operand) → Option (List (Nat × Nat × XO))
  | [] => some []
  | (i, x) :: r => match pl[i]?, xParts pl r with
    | some p, some l => some ((p.1, p.2, opd x) :: l)
    | _, _ => none
def xElem (P : Program) (e : TypeId) : Option (Nat × Nat × List Value) :=
  (P.info? e).bind fun i => i.zero.bind fun z => if z.cells.size = i.size ∧ 0 < i.size ∧ 0 < i.bytes ∧ z.cells.all (·.oneCell') then some (i.size, i.bytes, z.cells.toList) else none
mutual
def shOf (P : Program) : Nat → TypeId → Option Sh
  | 0, _ => none
  | n + 1, t => match P.underlying t with
    | some .bool => some ⟨false, [0]⟩
    | some (.int _) => some ⟨false, [1]⟩
    | some .string => some ⟨false, [2]⟩
    | some (.struct fs) => if P.stoodInHeld t then none else (shsOf P n fs.toList 0).map fun l => ⟨true, l⟩
    | _ => none
def shsOf (P : Program) : Nat → List Field → Nat → Option (List Nat)
  | 0, _, _ => none
  | _ + 1, [], _ => some []
  | n + 1, f :: r, p => if f.name = "_" ∨ f.offset ≠ p then none else match P.info? f.type, shOf P n f.type with
    | some i, some sh => if sh.ks.length = i.size then (shsOf P n r (p + i.size)).map (sh.ks ++ ·) else none
    | _, _ => none
end
def xMapT (P : Program) (t : TypeId) : Option (Sh × Value) := match P.underlying t with
  | some (.map k e) => match shOf P 40 k, (P.info? e).bind (·.zero) with
    | some sh, some z => some (sh, z)
    | _, _ => none
  | _ => none
def isU8 (P : Program) (e : TypeId) : Bool := match P.underlying e with
  | some (.int .u8) => true
  | _ => false
def xCall (P : Program) (b : Builtin) (ts : List TypeId) (xs : List Operand) : Option XOp :=
  match b, ts, xs with
  | .len, [t], [x] => match P.underlying t with
    | some .string => some (.lens (opd x))
    | some (.slice _) => some (.lenl (opd x))
    | some (.array n _) => some (.lenk n)
    | some (.map _ _) => some (.lenm (opd x))
    | _ => none
  | .delete, t :: _, [m, k] => (xMapT P t).map fun p => .del p.1 (opd m) (opd k)
  | .append, [t, u], [x, y] => match P.underlying t, P.underlying u with
    | some (.slice e), some (.slice _) => (xElem P e).map fun j => .app j.1 j.2.1 (opd x) (opd y)
    | some (.slice e), some .string => (xElem P e).map fun j => .app j.1 j.2.1 (opd x) (opd y)
    | _, _ => none
  | .copy, [t, _], [x, y] => match P.underlying t with
    | some (.slice e) => (xElem P e).map fun j => .cpy j.1 (opd x) (opd y)
    | _ => none
  | .max, _, [x, y] => some (.mx false (opd x) (opd y))
  | .min, _, [x, y] => some (.mx true (opd x) (opd y))
  | _, _, _ => none
def nilOk : Operand → Bool
  | .const (.slice none _ _) => true
  | _ => false
def xop (P : Program) : Op → Option XOp
  | .move x | .assign x => some (.mov (opd x))
  | .pick c a b => some (.pick (opd c) (opd a) (opd b))
  | .alloc t => ((P.info? t).bind (·.zero)).bind fun z => if z.cells.all (·.oneCell') then some (.alloc z.cells.toList) else none
  | .box _ x => some (.box (opd x))
  | .load t x => (isAggB P t).bind fun b => if b then (P.info? t).map fun i => .lda i.size (opd x) else some (.ld1 (opd x))
  | .store t a x => (P.info? t).map fun i => .st i.size (opd a) (opd x)
  | .nilCheck x => some (.nck (opd x))
  | .binOp op t x y _ => match P.underlying t with
    | some (.int _) => some (.bin op (opd x) (opd y))
    | some .string => some (.bin op (opd x) (opd y))
    | some .bool => match op with
      | .eql => some (.beq true (opd x) (opd y))
      | .neq => some (.beq false (opd x) (opd y))
      | _ => none
    | some (.struct _) => if P.eqGuardType P.depth t then none else match op with
      | .eql => (shOf P 40 t).map fun sh => .seq true sh (opd x) (opd y)
      | .neq => (shOf P 40 t).map fun sh => .seq false sh (opd x) (opd y)
      | _ => none
    | some (.slice _) => if nilOk y then (match op with
      | .eql => some (.sno true (opd x))
      | .neq => some (.sno false (opd x))
      | _ => none) else none
    | _ => none
  | .unOp op _ x => some (.un op (opd x))
  | .convert s d x => match P.underlying s, P.underlying d with
    | some (.int _), some (.int k) => some (.cvi k (opd x))
    | some .string, some .string => some (.cvs (opd x))
    | some .string, some (.slice e) => if isU8 P e then some (.bts (opd x)) else none
    | some (.slice e), some .string => if isU8 P e then some (.stb (opd x)) else none
    | _, _ => none
  | .makeMap t none => match P.underlying t with
    | some (.map _ _) => some (.mkm none)
    | _ => none
  | .makeMap t (some r) => match P.underlying t with
    | some (.map _ _) => some (.mkm (some (opd r)))
    | _ => none
  | .lookup t m k ok => (xMapT P t).map fun p => .lku p.1 p.2 ok (opd m) (opd k)
  | .mapUpdate t m k x | .insert t m k x => (xMapT P t).map fun p => .mup p.1 (opd m) (opd k) (opd x)
  | .mapEntry t m k => (xMapT P t).map fun p => .men p.1 p.2 (opd m) (opd k)
  | .entryStore _ m st x => some (.mes (opd m) (opd st) (opd x))
  | .makeFunc (.func f) first captured => if first.isEmpty then some (.mkf f (captured.toList.map opd)) else none
  | .slice t x lo hi none => match P.underlying t with
    | some (.slice e) => (P.info? e).map fun j => .sls j.size (opd x) (lo.map opd) (hi.map opd)
    | some .string => some (.slt (opd x) (lo.map opd) (hi.map opd))
    | some (.array n e) => (P.info? e).map fun j => .sla j.size n (opd x) (lo.map opd) (hi.map opd)
    | _ => none
  | .fieldAddr t x f => match P.underlying t with
    | some (.struct fs) => (fs[f]?).bind fun fd => (P.info? fd.type).bind fun i => if i.size = 0 then none else some (.fad fd.offset (opd x))
    | _ => none
  | .field t x f => match P.underlying t with
    | some (.struct fs) => (fs[f]?).bind fun fd => (isAggB P fd.type).bind fun b => if b then (P.info? fd.type).map fun i => .fld fd.offset (some i.size) (opd x) else some (.fld fd.offset none (opd x))
    | _ => none
  | .indexAddr t x i => match P.underlying t with
    | some (.slice e) => (P.info? e).map fun j => .iad j.size (opd x) (opd i)
    | some (.array n e) => (P.info? e).map fun j => .iaa j.size n (opd x) (opd i)
    | _ => none
  | .index t x i => match P.underlying t with
    | some .string => some (.ixs (opd x) (opd i))
    | _ => none
  | .extract x i => some (.ext i (opd x))
  | .build t parts => match P.underlying t, (P.info? t).bind (·.zero) with
    | some (.struct fs), some z => if z.cells.all (·.oneCell') then (xPlaces P fs.toList).bind fun pl => (xParts pl parts.toList).map fun ps => .build z.cells.toList ps else none
    | _, _ => none
  | .buildSlice t len parts => match P.underlying t with
    | some (.slice e) => (xElem P e).bind fun j => if len * j.1 ≤ 16777216 then some (.bsl j.1 len ((List.replicate len j.2.2).flatten) (parts.toList.map fun p => (p.1 * j.1, j.1, opd p.2))) else none
    | _ => none
  | .makeSlice t l c => match P.underlying t with
    | some (.slice e) => (xElem P e).map fun j => .mks j.1 j.2.1 j.2.2 (opd l) (opd c)
    | _ => none
  | .call c => match c.callee with
    | .builtin b => xCall P b c.argTypes.toList c.args.toList
    | _ => none
  | _ => none
end Go.Eng
namespace Go.Eng
open Go.RowKit
variable {cx : Cx} {φ φ' : Phi} {h h' : AH} {w w' : World} {b : Nat} {n : Nat × Nat}
theorem add_none (b o j : Nat) : (⟨b, o, none⟩ : Addr).add j = ⟨b, o + j, none⟩ := by unfold Addr.add; split <;> simp_all
theorem get_some {id ver : Nat} {cs : List AV} (hg : h.get id ver = some cs) : h[id]? = some (.cells ver cs) := by
  unfold AH.get at hg
  split at hg
  · rename_i v cs' he
    split at hg
    · rename_i hv
      subst hv
      simp at hg
      subst hg
      exact he
    · cases hg
  · cases hg
theorem RepW.cells_at (hw : RepW cx φ h w) {id ver : Nat} {cs : List AV} (hg : h.get id ver = some cs) (hφ : φ id ver = some (b, n)) :
    n = (cs.length, n.2) ∧ ∃ (ccs : Array Value) (T : TypeId), w.heap[b]? = some (.cells ccs T (0, 0)) ∧ ccs.size = n.2 ∧ cs.length ≤ n.2 ∧ (∀ (k : Nat) x v, cs[k]? = some x → ccs[k]? = some v → Rep cx.w0 cx.B φ x v) ∧ ∀ (k : Nat) v, k < cs.length → ccs[k]? = some v → v.oneCell' = true :=
  hw.obj id _ b n (get_some hg) hφ
theorem get_rd {id ver : Nat} {cs : List AV} (hg : h.get id ver = some cs) : h.rd id ver = some cs := by
  unfold AH.rd
  rw [get_some hg]
  simp
theorem RepW.rd_at (hw : RepW cx φ h w) {id ver : Nat} {cs : List AV} (hg : h.rd id ver = some cs) (hφ : φ id ver = some (b, n)) :
    n = (cs.length, n.2) ∧ ∃ (ccs : Array Value) (T : TypeId) (fz : Nat × Nat), w.heap[b]? = some (.cells ccs T fz) ∧ ccs.size = n.2 ∧ cs.length ≤ n.2 ∧ (∀ (k : Nat) x v, cs[k]? = some x → ccs[k]? = some v → Rep cx.w0 cx.B φ x v) ∧ ∀ (k : Nat) v, k < cs.length → ccs[k]? = some v → v.oneCell' = true := by
  unfold AH.rd at hg
  split at hg
  · rename_i v cs' he
    split at hg
    · rename_i hv
      subst hv
      simp at hg
      subst hg
      obtain ⟨h1, ccs, T, h2⟩ := hw.obj id _ b n he hφ
      exact ⟨h1, ccs, T, (0, 0), h2⟩
    · cases hg
  · rename_i cs' he
    split at hg
    · rename_i hv
      subst hv
      simp at hg
      subst hg
      exact hw.obj id _ b n he hφ
    · cases hg
  · cases hg
theorem RepW.cell0 (hw : RepW cx φ h w) {b o : Nat} (hb : b < cx.B) : w.cell? ⟨b, o, none⟩ = cx.w0.cell? ⟨b, o, none⟩ := hw.below.cell (p := ⟨b, o, none⟩) hb
theorem ld1_sound (hw : RepW cx φ h w) {x r : AV} {v : Value} (hx : Rep cx.w0 cx.B φ x v) (he : xLd1 h x = some r) : ∃ (a : Addr) (u : Value), v = .pointer (some a) ∧ w.cell? a = some u ∧ Rep cx.w0 cx.B φ r u := by
  cases hx with
  | ptr id ver off b n hφ =>
    simp only [xLd1, Option.bind_eq_some_iff] at he
    obtain ⟨cs, hg, hk⟩ := he
    obtain ⟨_, ccs, T, fz, h2, h5, h3, h4, _⟩ := hw.rd_at hg hφ
    have hlt : off < ccs.size := by have := (List.getElem?_eq_some_iff.1 hk).1; omega
    exact ⟨_, ccs[off], rfl, by simp [World.cell?, h2, hlt], h4 off r _ hk (Array.getElem?_eq_getElem hlt)⟩
  | rp cs b o c hb hc _ hr =>
    simp only [xLd1] at he
    have hlt := (List.getElem?_eq_some_iff.1 he).1
    exact ⟨_, c 0, rfl, by rw [hw.cell0 hb]; simpa using hc 0 hlt, hr 0 r he⟩
  | _ => cases he
theorem lda_sound (hw : RepW cx φ h w) {x r : AV} {v : Value} {m : Nat} (hx : Rep cx.w0 cx.B φ x v) (he : xLda h m x = some r) :
    ∃ (a : Addr) (us : List Value), v = .pointer (some a) ∧ us.length = m ∧ (∀ j u, us[j]? = some u → w.cell? (a.add j) = some u) ∧ Rep cx.w0 cx.B φ r (.agg us.toArray) := by
  cases hx with
  | ptr id ver off b n hφ =>
    simp only [xLda, Option.bind_eq_some_iff] at he
    obtain ⟨cs, hg, hk⟩ := he
    split at hk
    · rename_i hle
      simp at hk
      subst hk
      obtain ⟨_, ccs, T, fz, h2, h5, h3, h4, _⟩ := hw.rd_at hg hφ
      refine ⟨_, (ccs.toList.drop off).take m, rfl, by simp; omega, ?_, ?_⟩
      · intro j u hu
        rw [List.getElem?_take] at hu
        split at hu
        · rw [List.getElem?_drop] at hu
          rw [add_none]
          simp only [Array.getElem?_toList] at hu
          simp [World.cell?, h2, hu]
        · cases hu
      · refine .agg _ _ (by simp; omega) ?_
        intro k x v hx hv
        rw [List.getElem?_take] at hx
        split at hx
        · rw [List.getElem?_drop] at hx
          rename_i hkm
          simp only [List.getElem?_toArray, List.getElem?_take, hkm, if_true, List.getElem?_drop, Array.getElem?_toList] at hv
          exact h4 _ _ _ hx hv
        · cases hx
    · cases hk
  | rp cs b o c hb hc _ hr =>
    simp only [xLda] at he
    split at he
    · rename_i hle
      simp at he
      subst he
      refine ⟨_, (List.range m).map c, rfl, by simp, ?_, ?_⟩
      · intro j u hu
        have hj : j < m := by have := (List.getElem?_eq_some_iff.1 hu).1; simpa using this
        rw [add_none, hw.cell0 hb, hc j (by omega)]
        simpa [hj] using hu
      · refine .agg _ _ (by simp; omega) ?_
        intro k x v hx hv
        rw [List.getElem?_take] at hx
        split at hx
        · rename_i hkm
          simp [hkm] at hv
          subst hv
          exact hr k x hx
        · cases hx
    · cases he
  | _ => cases he
theorem cells_sound {w0 : World} {B : Nat} {x : AV} {v : Value} {vs : List AV} (hx : Rep w0 B φ x v) (he : x.cellsOf = some vs) :
    v.cells.size = vs.length ∧ (∀ u ∈ v.cells.toList, u.oneCell' = true) ∧ ∀ (k : Nat) y u, vs[k]? = some y → v.cells[k]? = some u → Rep w0 B φ y u := by
  have one : ∀ {y : AV} {u : Value}, Rep w0 B φ y u → u.oneCell' = true → u.cells.size = 1 ∧ (∀ t ∈ u.cells.toList, t.oneCell' = true) ∧ ∀ (k : Nat) z t, [y][k]? = some z → u.cells[k]? = some t → Rep w0 B φ z t := by
    intro y u hy hu
    have hc : u.cells = #[u] := by cases u <;> first | rfl | (simp [Value.oneCell'] at hu)
    rw [hc]
    refine ⟨rfl, by simpa using hu, ?_⟩
    intro k z t hz ht
    cases k with
    | zero => simp at hz ht; subst hz; subst ht; exact hy
    | succ k => simp at hz
  cases hx with
  | un v => cases he
  | tup cs us hl hh => cases he
  | und => cases he
  | agg cs us hl hh =>
    simp only [AV.cellsOf] at he
    split at he
    · rename_i hall
      simp at he
      subst he
      refine ⟨hl.symm, ?_, hh⟩
      intro u hu
      obtain ⟨k, hk, rfl⟩ := List.getElem_of_mem hu
      have hk' : k < us.size := by simpa [Value.cells] using hk
      have hkc : k < cs.length := by omega
      have := (hh k cs[k] us[k] (List.getElem?_eq_getElem hkc) (Array.getElem?_eq_getElem hk')).oneCell (List.all_eq_true.1 hall _ (List.getElem_mem hkc))
      simpa [Value.cells] using this
    · cases he
  | v y =>
    simp only [AV.cellsOf] at he
    split at he
    · rename_i h1
      simp at he
      subst he
      exact one (.v _) h1
    · cases he
  | ptr id ver off b n hφ => simp [AV.cellsOf] at he; subst he; exact one (.ptr _ _ _ _ _ hφ) rfl
  | sl id ver off len sz b n cap hφ h1 h2 h3 h4 => simp [AV.cellsOf] at he; subst he; exact one (.sl _ _ _ _ _ _ _ _ hφ h1 h2 h3 h4) rfl
  | ro sz n f A cap b o c hcap hA hf hc h1 hr => simp [AV.cellsOf] at he; subst he; exact one (.ro _ _ _ _ _ _ _ _ hcap hA hf hc h1 hr) rfl
  | rp cs b o c hb hc h1 hr => simp [AV.cellsOf] at he; subst he; exact one (.rp _ _ _ _ hb hc h1 hr) rfl
  | fn f caps us hl hh => simp [AV.cellsOf] at he; subst he; exact one (.fn _ _ _ hl hh) rfl
  | mp id b n hφ => simp [AV.cellsOf] at he; subst he; exact one (.mp _ _ _ hφ) rfl
theorem rep_setCells {w0 : World} {B : Nat} {cs vs : List AV} {ccs : Array Value} {us : List Value} {off : Nat} (hl : vs.length = us.length) (hle : off + vs.length ≤ cs.length) (hlc : cs.length ≤ ccs.size)
    (h1 : ∀ (k : Nat) x v, cs[k]? = some x → ccs[k]? = some v → Rep w0 B φ x v) (h2 : ∀ (k : Nat) x v, vs[k]? = some x → us[k]? = some v → Rep w0 B φ x v) :
    (setCells cs off vs).length = cs.length ∧ ∀ (k : Nat) x v, (setCells cs off vs)[k]? = some x → ((ccs.toList.take off ++ us ++ ccs.toList.drop (off + us.length)).toArray)[k]? = some v → Rep w0 B φ x v := by
  refine ⟨by simp [setCells]; omega, ?_⟩
  intro k x v hx hv
  simp only [setCells, List.append_assoc] at hx
  simp only [List.append_assoc, List.getElem?_toArray] at hv
  have e1 : (cs.take off).length = off := by simp; omega
  have e2 : (ccs.toList.take off).length = off := by simp; omega
  by_cases hk : k < off
  · rw [List.getElem?_append_left (by omega), List.getElem?_take, if_pos hk] at hx
    rw [List.getElem?_append_left (by omega), List.getElem?_take, if_pos hk, Array.getElem?_toList] at hv
    exact h1 k x v hx hv
  · rw [List.getElem?_append_right (by omega), e1] at hx
    rw [List.getElem?_append_right (by omega), e2] at hv
    by_cases hk2 : k - off < vs.length
    · rw [List.getElem?_append_left hk2] at hx
      rw [List.getElem?_append_left (by omega)] at hv
      exact h2 _ x v hx hv
    · rw [List.getElem?_append_right (by omega), List.getElem?_drop] at hx
      rw [List.getElem?_append_right (by omega), List.getElem?_drop, Array.getElem?_toList] at hv
      have : off + vs.length + (k - off - vs.length) = k := by omega
      rw [this] at hx
      have : off + us.length + (k - off - us.length) = k := by omega
      rw [this] at hv
      exact h1 k x v hx hv
theorem one_setCells {cs vs : List AV} {ccs : Array Value} {us : List Value} {off : Nat} (h6 : ∀ (k : Nat) v, k < cs.length → ccs[k]? = some v → v.oneCell' = true) (hone : ∀ u ∈ us, u.oneCell' = true)
    (hle : off + us.length ≤ cs.length) (hlc : cs.length ≤ ccs.size) (e1 : (setCells cs off vs).length = cs.length) :
    ∀ (k : Nat) v, k < (setCells cs off vs).length → ((ccs.toList.take off ++ us ++ ccs.toList.drop (off + us.length)).toArray)[k]? = some v → v.oneCell' = true := by
  intro k v hk hv
  rw [e1] at hk
  simp only [List.append_assoc, List.getElem?_toArray] at hv
  have e2 : (ccs.toList.take off).length = off := by simp; omega
  by_cases hk1 : k < off
  · rw [List.getElem?_append_left (by omega), List.getElem?_take, if_pos hk1, Array.getElem?_toList] at hv
    exact h6 k v hk hv
  · rw [List.getElem?_append_right (by omega), e2] at hv
    by_cases hk2 : k - off < us.length
    · rw [List.getElem?_append_left (by omega)] at hv
      exact hone v (List.mem_of_getElem? hv)
    · rw [List.getElem?_append_right (by omega), List.getElem?_drop, Array.getElem?_toList] at hv
      have : off + us.length + (k - off - us.length) = k := by omega
      rw [this] at hv
      exact h6 k v hk hv
def Good (cx : Cx) (φ : Phi) (h : AH) (w : World) (r : AV) (h' : AH) (s : Sem Next) : Prop :=
  ∃ nx v w' φ', s.run cx.P w = .ok nx w' ∧ (nx = .value v ∨ (nx = .skip ∧ v = undef)) ∧ Rep cx.w0 cx.B φ' r v ∧ RepW cx φ' h' w' ∧ Step φ h w φ' h' w'
theorem Good.quiet (hw : RepW cx φ h w) {s : Sem Next} {r : AV} {v : Value} (hr : s.run cx.P w = .ok (.value v) w) (hv : Rep cx.w0 cx.B φ r v) : Good cx φ h w r h s :=
  ⟨_, v, w, φ, hr, .inl rfl, hv, hw, Step.refl _ _ _⟩
theorem Good.value (hw : RepW cx φ h w) {s : Sem Value} {r : AV} {v : Value} (hr : s.run cx.P w = .ok v w) (hv : Rep cx.w0 cx.B φ r v) : Good cx φ h w r h (do pure (.value (← s))) :=
  Good.quiet hw (by simp [hr]) hv
theorem run_underlying_of {P : Program} {t : TypeId} {d : TypeDesc} (hu : P.underlying t = some d) (w : World) : (underlying t).run P w = .ok d w := run_underlying hu w
theorem run_info_of {P : Program} {t : TypeId} {i : TypeInfo} (hu : P.info? t = some i) (w : World) : (typeInfo t).run P w = .ok i w := by simp [typeInfo, hu]
theorem run_sizeOf_of {P : Program} {t : TypeId} {i : TypeInfo} (hu : P.info? t = some i) (w : World) : (sizeOf t).run P w = .ok i.size w := by simp [sizeOf, run_info_of hu]
theorem run_isAgg_of {P : Program} {t : TypeId} {c : Bool} (hu : isAggB P t = some c) (w : World) : (isAgg t).run P w = .ok c w := by
  unfold isAggB at hu
  cases he : P.underlying t with
  | none => simp [he] at hu
  | some d =>
    simp [he] at hu
    unfold isAgg
    simp only [Sem.run_bind, run_underlying_of he, Result.andThen_ok]
    subst hu
    cases d <;> rfl
theorem run_zero_of {P : Program} {t : TypeId} {z : Value} (hu : (P.info? t).bind (·.zero) = some z) (w : World) : (zeroValue t).run P w = .ok z w := by
  cases he : P.info? t with
  | none => simp [he] at hu
  | some i =>
    simp [he] at hu
    simp [zeroValue, run_info_of he, hu]
theorem load_sound (hw : RepW cx φ h w) {t : TypeId} {x : AV} {v : Value} (hx : Rep cx.w0 cx.B φ x v) {c : Bool} (ha : isAggB cx.P t = some c) {i : TypeInfo} (hi : c = true → cx.P.info? t = some i) {r : AV}
    (he : (if c = true then xLda h i.size x else xLd1 h x) = some r) : ∃ u, (Instr.loadAt t v).run cx.P w = .ok u w ∧ Rep cx.w0 cx.B φ r u := by
  cases c with
  | true =>
    simp only [if_true] at he
    obtain ⟨a, us, rfl, h1, h2, h3⟩ := lda_sound hw hx he
    refine ⟨_, ?_, h3⟩
    simp only [Instr.loadAt, Instr.sureAddr, loadVar, Sem.run_bind, Sem.run_pure', pure, Sem.run, Result.andThen_ok, run_isAgg_of ha, if_true, run_sizeOf_of (hi rfl)]
    rw [← h1, run_loadCells_list w a us h2]
    simp [Sem.run]
  | false =>
    simp only [Bool.false_eq_true, if_false] at he
    obtain ⟨a, u, rfl, h1, h2⟩ := ld1_sound hw hx he
    refine ⟨_, ?_, h2⟩
    simp [Instr.loadAt, Instr.sureAddr, loadVar, run_isAgg_of ha, h1]
theorem store_sound (hw : RepW cx φ h w) {t : TypeId} {x y : AV} {v u : Value} (hx : Rep cx.w0 cx.B φ x v) (hy : Rep cx.w0 cx.B φ y u) {i : TypeInfo} (hi : cx.P.info? t = some i)
    (he : xSt h i.size x y = some h') : ∃ w', (Instr.storeAt t v u).run cx.P w = .ok () w' ∧ RepW cx φ h' w' ∧ Step φ h w φ h' w' := by
  unfold xSt at he
  split at he
  · rename_i id ver off vs hc
    obtain ⟨hsz, hone, hrep⟩ := cells_sound hy hc
    simp only [Option.bind_eq_some_iff] at he
    obtain ⟨cs, hg, he⟩ := he
    split at he
    · rename_i hle
      simp at he
      subst he
      cases hx with
      | ptr _ _ _ b n hφ =>
        obtain ⟨hn, ccs, T, h2, h5, h3, h4, h6⟩ := hw.cells_at hg hφ
        have hl : (u.cells.toList).length = vs.length := by simpa using hsz
        have hst := run_storeCells_at (P := cx.P) b off T u.cells.toList 0 ccs w h2 (by simp [hsz]; omega) hone
        simp only [Nat.add_zero] at hst
        obtain ⟨e1, e2⟩ := rep_setCells (φ := φ) (cs := cs) (vs := vs) (ccs := ccs) (us := u.cells.toList) (off := off) hl.symm (by omega) (by omega) h4 (fun k y z hk hz => hrep k y z hk (by simpa using hz))
        refine ⟨w.setRow b (ccs.toList.take off ++ u.cells.toList ++ ccs.toList.drop (off + u.cells.toList.length)).toArray, ?_, hw.put (get_some hg) rfl hφ (Puts.setRow h2) ?_⟩
        · simp only [Instr.storeAt, Instr.sureAddr, storeVar, Sem.run_bind, pure, Sem.run, Result.andThen_ok, run_sizeOf_of hi]
          rw [if_neg (by rw [hsz]; omega)]
          exact hst
        · exact ⟨by rw [e1]; exact hn, _, T, setRow_heap w b ccs _ T _ h2, by simp; omega, by rw [e1]; exact h3, e2, one_setCells h6 hone (by omega) (by omega) e1⟩
    · cases he
  · cases he
end Go.Eng
namespace Go.Eng
open Go.RowKit
variable {cx : Cx} {φ φ' : Phi} {h h' : AH} {w w' : World} {b : Nat} {n : Nat × Nat} {s : XSt} {a : Act}
theorem bytes_eq (a b : ByteArray) : (a.toList == b.toList) = decide (a = b) := by
  rw [Bool.eq_iff_iff]
  simp only [beq_iff_eq, decide_eq_true_eq]
  rw [ByteArray.toList_eq, ByteArray.toList_eq]
  constructor
  · intro he
    cases a with | mk x => cases b with | mk y =>
    have : x = y := Array.ext' he
    rw [this]
  · rintro rfl; rfl
theorem bin_sound {P : Program} {op : BinOp} {t : TypeId} {x y z : Value} (he : xBin op x y = some z) (w : World) (p q : Operand) :
    ((do eqGuard op t p q x y; binOp op t x y) : Sem Value).run P w = .ok z w := by
  unfold xBin at he
  split at he
  · rename_i k a k' b
    have hg : (eqGuard op t p q (.int k a) (.int k' b)).run P w = .ok () w := by
      unfold eqGuard
      cases op <;> rfl
    simp only [Sem.run_bind, hg, Result.andThen_ok]
    cases op <;> simp only [Option.ite_none_right_eq_some, Option.some.injEq] at he
    all_goals (obtain ⟨hc, rfl⟩ := he)
    all_goals first
      | (simp [binOp, Op.shift, Op.intArith, Op.intDiv, Op.intBits, Op.intCmp, hc]; done)
      | (have : ¬ b < 0 := by omega
         simp [binOp, Op.shift, this]; done)
      | (subst hc; simp [binOp, Op.intCmp, bne]; done)
      | (subst hc; simp [binOp, Op.intCmp, bne]; rfl)
  · rename_i a b
    have hg : (eqGuard op t p q (.string a) (.string b)).run P w = .ok () w := by
      unfold eqGuard
      cases op <;> rfl
    simp only [Sem.run_bind, hg, Result.andThen_ok]
    cases op <;> simp only [Option.ite_none_right_eq_some, Option.some.injEq, reduceCtorEq] at he
    all_goals first
      | (subst he; simp [binOp, Op.stringOp, bytes_eq]; done)
      | (obtain ⟨hc, rfl⟩ := he
         have : ¬ (((a.size + b.size : Nat) : Int) > IntKind.i64.max) := by omega
         simp only [binOp, Op.stringOp]
         rw [if_neg this]
         rfl)
  · cases he
theorem un_sound {P : Program} {op : UnOp} {x z : Value} (he : xUn op x = some z) (w : World) : (Op.unary op x).run P w = .ok z w := by
  unfold xUn at he
  split at he
  · cases op <;> simp only [Option.some.injEq, reduceCtorEq] at he <;> subst he <;> rfl
  · cases op <;> simp only [Option.some.injEq, reduceCtorEq] at he <;> subst he <;> rfl
  · cases he
theorem beq_sound {P : Program} {eq : Bool} {t : TypeId} {p q : Bool} (hu : P.underlying t = some .bool) (w : World) (x y : Operand) :
    ((do eqGuard (if eq then .eql else .neq) t x y (.bool p) (.bool q); binOp (if eq then .eql else .neq) t (.bool p) (.bool q)) : Sem Value).run P w = .ok (.bool (if eq then p == q else !(p == q))) w := by
  have hg : (eqGuard (if eq then .eql else .neq) t x y (.bool p) (.bool q)).run P w = .ok () w := by cases eq <;> rfl
  simp only [Sem.run_bind, hg, Result.andThen_ok]
  have he : (Op.equal t (.bool p) (.bool q)).run P w = .ok (p == q) w := by
    show (Op.equalIn (9999 + 1) t (.bool p) (.bool q)).run P w = _
    rw [Op.equalIn]
    simp only [Sem.run_bind, run_underlying_of hu, Result.andThen_ok]
    rfl
  cases eq <;> simp [binOp, he]
theorem hi_le {hi : Option AV} {n k : Nat} (he : xHi hi n = some k) : k ≤ n := by
  unfold xHi at he
  split at he
  · simp at he; omega
  · split at he
    · simp at he; omega
    · cases he
  · cases he
def RepOpt (w0 : World) (B : Nat) (φ : Phi) (x : Option AV) (v : Option Value) : Prop := (x = none ∧ v = none) ∨ ∃ y u, x = some y ∧ v = some u ∧ Rep w0 B φ y u
theorem bound_sound {P : Program} {w0 : World} {B : Nat} {kk : IntKind} {i : Int} {u : Value} {m : Nat} {code : BoundsCode} {w : World} (hu : Rep w0 B φ (.v (.int kk i)) u) (h0 : 0 ≤ i) (hm : i ≤ m) :
    (Instr.sliceBound u m code).run P w = .ok i.toNat w := by
  cases hu
  simp [Instr.sliceBound, asIntOf, h0, hm]
theorem lo_le {lo : Option AV} {h k : Nat} (he : xLo lo h = some k) : k ≤ h := by
  unfold xLo at he
  split at he
  · simp at he; omega
  · split at he
    · simp at he; omega
    · cases he
  · cases he
theorem bounds_sound {P : Program} {w0 : World} {B : Nat} {lo hi : Option AV} {vl vh : Option Value} {len cap k l : Nat} {isSl : Bool} (w : World)
    (hvl : RepOpt w0 B φ lo vl) (hvh : RepOpt w0 B φ hi vh) (hh : xHi hi len = some k) (hl : xLo lo k = some l) (hm : len ≤ cap) :
    (Instr.sliceBounds isSl len cap vl vh none).run P w = .ok (l, k, cap) w ∧ l ≤ k ∧ k ≤ len := by
  refine ⟨?_, lo_le hl, hi_le hh⟩
  have h1 : ∀ u code, vh = some u → (Instr.sliceBound u cap code).run P w = .ok k w := by
    intro u code hu
    rcases hvh with ⟨rfl, rfl⟩ | ⟨y, u', rfl, rfl, hr⟩
    · cases hu
    · cases hu
      unfold xHi at hh
      split at hh
      · contradiction
      · rename_i he
        split at hh
        · rename_i hc
          cases he
          simp at hh
          subst hh
          exact bound_sound hr hc.1 (by omega)
        · cases hh
      · cases hh
  have h2 : ∀ u code, vl = some u → (Instr.sliceBound u k code).run P w = .ok l w := by
    intro u code hu
    rcases hvl with ⟨rfl, rfl⟩ | ⟨y, u', rfl, rfl, hr⟩
    · cases hu
    · cases hu
      unfold xLo at hl
      split at hl
      · contradiction
      · rename_i he
        split at hl
        · rename_i hc
          cases he
          simp at hl
          subst hl
          exact bound_sound hr hc.1 hc.2
        · cases hl
      · cases hl
  have h3 : vh = none → k = len := by
    rintro rfl
    rcases hvh with ⟨rfl, _⟩ | ⟨y, u', _, h, _⟩
    · simpa [xHi] using hh.symm
    · cases h
  have h4 : vl = none → l = 0 := by
    rintro rfl
    rcases hvl with ⟨rfl, _⟩ | ⟨y, u', _, h, _⟩
    · simpa [xLo] using hl.symm
    · cases h
  cases vh with
  | none =>
    have := h3 rfl
    cases vl with
    | none => simp [Instr.sliceBounds, h3, h4]
    | some ul => subst this; simp [Instr.sliceBounds, h2 ul _ rfl]
  | some uh =>
    cases vl with
    | none => simp [Instr.sliceBounds, h1 uh _ rfl, h4]
    | some ul => simp [Instr.sliceBounds, h1 uh _ rfl, h2 ul _ rfl]
end Go.Eng
namespace Go.Eng
open Go.RowKit
variable {cx : Cx} {φ φ' : Phi} {h h' : AH} {w w' : World} {b : Nat} {n : Nat × Nat} {s : XSt} {a : Act}
theorem repO_new {w0 : World} {B : Nat} {cx : Cx} {cs : List AV} {us : Array Value} {T : TypeId} {b : Nat} {w' : World} (hb : w'.heap[b]? = some (.cells us T (0, 0))) (hl : cs.length ≤ us.size)
    (hr : ∀ (k : Nat) x v, cs[k]? = some x → us[k]? = some v → Rep cx.w0 cx.B φ x v) (h1 : ∀ (k : Nat) v, k < cs.length → us[k]? = some v → v.oneCell' = true) : ∀ φ', Ext φ φ' → RepO cx φ' w' b (cs.length, us.size) (.cells 0 cs) :=
  fun φ' he => ⟨rfl, us, T, hb, rfl, hl, fun k x v hx hv => (hr k x v hx hv).ext he, h1⟩
theorem Good.newObj (hw : RepW cx φ h w) {cs : List AV} {us : Array Value} {T : TypeId} {s : Sem Next} (hl : cs.length ≤ us.size) (hr : ∀ (k : Nat) x v, cs[k]? = some x → us[k]? = some v → Rep cx.w0 cx.B φ x v)
    (h1' : ∀ (k : Nat) v, k < cs.length → us[k]? = some v → v.oneCell' = true) {v : Value} {r : AV} {w' : World} (ha : Adds w (.cells us T (0, 0)) w') (hrun : s.run cx.P w = .ok (.value v) w')
    (hv : ∀ φ' : Phi, φ' h.length 0 = some (w.heap.size, cs.length, us.size) → Rep cx.w0 cx.B φ' r v) : Good cx φ h w r (h ++ [.cells 0 cs]) s := by
  obtain ⟨h1, h2⟩ := hw.new hw.hB ha (.cells 0 cs) rfl (cs.length, us.size) (repO_new (w0 := cx.w0) (B := cx.B) ha.new hl hr h1')
  exact ⟨_, v, w', _, hrun, .inl rfl, hv _ (newPhi_self _ _ _ _ _), h1, h2⟩
theorem run_newRow (P : Program) (t : TypeId) (cs : Array Value) (w : World) : (newRow t cs).run P w = .ok ⟨w.heap.size, 0, none⟩ (w.alloc (.cells cs t)) := by
  simp [newRow]
theorem repOpt_ev (hs : RepSt cx φ s a w) (x : Option Operand) : RepOpt cx.w0 cx.B φ ((x.map opd).map (s.ev cx)) (x.map a.eval) := by
  cases x with
  | none => exact .inl ⟨rfl, rfl⟩
  | some x => exact .inr ⟨_, _, rfl, rfl, hs.ev x⟩
theorem sls_sound (hw : RepW cx φ h w) {t e : TypeId} {j : TypeInfo} (hu : cx.P.underlying t = some (.slice e)) (hj : cx.P.info? e = some j) {x r : AV} {v : Value} {lo hi : Option AV} {vl vh : Option Value}
    (hx : Rep cx.w0 cx.B φ x v) (hl : RepOpt cx.w0 cx.B φ lo vl) (hh : RepOpt cx.w0 cx.B φ hi vh) (he : xSls j.size x lo hi = some r) : ∃ u, (Instr.sliceAt t v vl vh none).run cx.P w = .ok u w ∧ Rep cx.w0 cx.B φ r u := by
  have hun : (Instr.sliceAt t v vl vh none).run cx.P w = (Instr.slice t v vl vh none).run cx.P w := by
    simp [Instr.sliceAt, run_underlying_of hu]
  rw [hun]
  cases hx with
  | sl id ver off len sz b n cap hφ h1 h2 h3 h4 =>
    simp only [xSls] at he
    split at he
    · rename_i hsz
      subst hsz
      simp only [Option.bind_eq_some_iff] at he
      obtain ⟨k, hk, l, hlo, he⟩ := he
      obtain ⟨hb, hlk, hkl⟩ := bounds_sound (P := cx.P) (isSl := true) (cap := cap) w hl hh hk hlo h3
      have hrun : (Instr.slice t (.slice (some ⟨b, off, none⟩) len cap) vl vh none).run cx.P w = .ok (.slice (if cap = l then some ⟨b, off, none⟩ else some ⟨b, off + l * j.size, none⟩) (k - l) (cap - l)) w := by
        simp [Instr.slice, run_underlying_of hu, hb, run_sizeOf_of hj, add_none]
      rw [hrun]
      split at he
      · rename_i hc
        simp at he
        subst he
        refine ⟨_, rfl, ?_⟩
        have hA : (if cap = l then some (⟨b, off, none⟩ : Addr) else some ⟨b, off + l * j.size, none⟩) = some ⟨b, off + l * j.size, none⟩ := by
          by_cases hcl : cap = l
          · rcases hc with hc | hc
            · omega
            · subst hc; simp
          · rw [if_neg hcl]
        rw [hA]
        have e1 : l * j.size + (k - l) * j.size = k * j.size := by rw [← Nat.add_mul]; congr 1; omega
        have e2 : l * j.size + (cap - l) * j.size = cap * j.size := by rw [← Nat.add_mul]; congr 1; omega
        have e3 : k * j.size ≤ len * j.size := Nat.mul_le_mul_right _ hkl
        exact .sl _ _ _ _ _ _ _ _ hφ (by omega) (by omega) (by omega) (by omega)
      · rename_i hc
        simp at he
        subst he
        have : k - l = 0 := by omega
        rw [this]
        exact ⟨_, rfl, .ro _ 0 _ _ _ 0 0 (fun _ _ => undef) (Nat.zero_le _) (fun h => by omega) (fun i h => by omega) (fun i k h => by omega) (fun i k h => by omega) (fun i k x h => by omega)⟩
    · cases he
  | ro sz n f A cap b o c hcap hA hf hc hc1 hr =>
    simp only [xSls] at he
    split at he
    · rename_i hsz
      subst hsz
      simp only [Option.bind_eq_some_iff] at he
      obtain ⟨k, hk, l, hlo, he⟩ := he
      obtain ⟨hb, hlk, hkl⟩ := bounds_sound (P := cx.P) (isSl := true) (cap := cap) w hl hh hk hlo hcap
      simp at he
      subst he
      have hrun : (Instr.slice t (.slice A n cap) vl vh none).run cx.P w = .ok (.slice (if cap = l then A else A.map (·.add (l * j.size))) (k - l) (cap - l)) w := by
        simp [Instr.slice, run_underlying_of hu, hb, run_sizeOf_of hj]
      rw [hrun]
      refine ⟨_, rfl, .ro _ _ _ _ _ b (o + l * j.size) (fun i k => c (l + i) k) (by omega) ?_ ?_ ?_ ?_ ?_⟩
      · intro hp
        obtain ⟨hA1, hA2⟩ := hA (by omega)
        subst hA1
        rw [if_neg (by omega)]
        exact ⟨by simp [add_none], hA2⟩
      · intro i hi
        exact hf _ (by omega)
      · intro i k hi hk
        have := hc (l + i) k (by omega) hk
        rw [Nat.add_mul] at this
        rw [Nat.add_assoc o]
        exact this
      · intro i k hi hk
        exact hc1 _ _ (by omega) hk
      · intro i k x hi hx
        exact hr _ _ _ (by omega) hx
    · cases he
  | _ => cases he
theorem slt_sound {t : TypeId} (hu : cx.P.underlying t = some .string) {x r : AV} {v : Value} {lo hi : Option AV} {vl vh : Option Value} (w : World)
    (hx : Rep cx.w0 cx.B φ x v) (hl : RepOpt cx.w0 cx.B φ lo vl) (hh : RepOpt cx.w0 cx.B φ hi vh) (he : xSlt x lo hi = some r) : ∃ u, (Instr.sliceAt t v vl vh none).run cx.P w = .ok u w ∧ Rep cx.w0 cx.B φ r u := by
  have hun : (Instr.sliceAt t v vl vh none).run cx.P w = (Instr.slice t v vl vh none).run cx.P w := by
    simp [Instr.sliceAt, run_underlying_of hu]
  rw [hun]
  unfold xSlt at he
  split at he
  · cases hx
    rename_i s
    simp only [Option.bind_eq_some_iff] at he
    obtain ⟨k, hk, l, hlo, he⟩ := he
    obtain ⟨hb, hlk, hkl⟩ := bounds_sound (P := cx.P) (isSl := false) (cap := s.size) w hl hh hk hlo (Nat.le_refl _)
    simp at he
    subst he
    exact ⟨_, by simp [Instr.slice, run_underlying_of hu, hb], .v _⟩
  · cases he
theorem sla_sound (hw : RepW cx φ h w) {t e : TypeId} {m : Nat} {j : TypeInfo} (hu : cx.P.underlying t = some (.array m e)) (hj : cx.P.info? e = some j) {x r : AV} {v : Value} {lo hi : Option AV} {vl vh : Option Value}
    (hx : Rep cx.w0 cx.B φ x v) (hl : RepOpt cx.w0 cx.B φ lo vl) (hh : RepOpt cx.w0 cx.B φ hi vh) (he : xSla j.size m x lo hi = some r) : ∃ u, (Instr.sliceAt t v vl vh none).run cx.P w = .ok u w ∧ Rep cx.w0 cx.B φ r u := by
  unfold xSla at he
  split at he
  · rename_i cs
    split at he
    · rename_i hlen
      simp at he
      subst he
      rcases hl with ⟨_, rfl⟩ | ⟨y, u, h, _⟩
      · rcases hh with ⟨_, rfl⟩ | ⟨y, u, h, _⟩
        · cases hx with
          | rp _ b o c hb hc hc1 hr =>
            have hrun : (Instr.sliceAt t (.pointer (some ⟨b, o, none⟩)) none none none).run cx.P w = .ok (.slice (some ⟨b, o, none⟩) m m) w := by
              by_cases hm : m = 0
              · subst hm
                simp [Instr.sliceAt, run_underlying_of hu, Instr.sureAddr, Instr.sliceBounds, run_sizeOf_of hj]
              · simp [Instr.sliceAt, run_underlying_of hu, Instr.sureAddr, Instr.sliceBounds, run_sizeOf_of hj, add_none, hm]
            rw [hrun]
            have hle : ∀ i k, i < m → k < j.size → i * j.size + k < cs.length := by
              intro i k hi hk
              rw [hlen]
              calc i * j.size + k < i * j.size + j.size := by omega
                _ = (i + 1) * j.size := by rw [Nat.add_mul]; omega
                _ ≤ m * j.size := Nat.mul_le_mul_right _ (by omega)
            refine ⟨_, rfl, .ro _ _ _ _ _ b o (fun i k => c (i * j.size + k)) (Nat.le_refl _) (fun _ => ⟨rfl, hb⟩) ?_ ?_ ?_ ?_⟩
            · intro i hi
              simp only [List.length_take, List.length_drop]
              by_cases hz : j.size = 0
              · omega
              · have := hle i (j.size - 1) hi (by omega)
                omega
            · intro i k hi hk
              rw [Nat.add_assoc]
              exact hc _ (hle i k hi hk)
            · intro i k hi hk
              exact hc1 _ (hle i k hi hk)
            · intro i k x hi hx
              rw [List.getElem?_take] at hx
              split at hx
              · rw [List.getElem?_drop] at hx
                exact hr _ _ hx
              · cases hx
        · cases h
      · cases h
    · cases he
  · cases he
theorem iad_sound {t e : TypeId} {j : TypeInfo} (hu : cx.P.underlying t = some (.slice e)) (hj : cx.P.info? e = some j) {x i r : AV} {v u : Value} (w : World)
    (hx : Rep cx.w0 cx.B φ x v) (hi : Rep cx.w0 cx.B φ i u) (he : xIad j.size x i = some r) : ∃ z, (Instr.indexAt t v u).run cx.P w = .ok z w ∧ Rep cx.w0 cx.B φ r z := by
  unfold xIad at he
  split at he
  · rename_i id ver off len sz' kk i
    split at he
    · rename_i hc
      simp at he
      subst he
      cases hi
      cases hx with
      | sl _ _ _ _ _ b n cap hφ h1 h2 h3 h4 =>
        refine ⟨.pointer (some ⟨b, off + i.toNat * j.size, none⟩), ?_, .ptr _ _ _ _ _ hφ⟩
        have : 0 ≤ i ∧ i < (len : Int) := hc.2
        simp [Instr.indexAt, asIntOf, run_underlying_of hu, this, run_sizeOf_of hj, add_none]
    · cases he
  · rename_i sz' m f kk i
    split at he
    · rename_i hc
      obtain ⟨rfl, h1, h2⟩ := hc
      simp at he
      subst he
      cases hi
      cases hx with
      | ro _ _ _ A cap b o c hcap hA hf hcc hc1 hr =>
        obtain ⟨rfl, hb⟩ := hA (by omega)
        have hlt : i.toNat < m := by omega
        refine ⟨.pointer (some ⟨b, o + i.toNat * j.size, none⟩), ?_, .rp _ _ _ (c i.toNat) hb ?_ ?_ ?_⟩
        · simp [Instr.indexAt, asIntOf, run_underlying_of hu, h1, h2, run_sizeOf_of hj, add_none]
        · intro k hk
          exact hcc _ _ hlt (by rw [← hf _ hlt]; exact hk)
        · intro k hk
          exact hc1 _ _ hlt (by rw [← hf _ hlt]; exact hk)
        · intro k x hx
          exact hr _ _ _ hlt hx
    · cases he
  · cases he
theorem iaa_sound {t e : TypeId} {m : Nat} {j : TypeInfo} (hu : cx.P.underlying t = some (.array m e)) (hj : cx.P.info? e = some j) {x i r : AV} {v u : Value} (w : World)
    (hx : Rep cx.w0 cx.B φ x v) (hi : Rep cx.w0 cx.B φ i u) (he : xIaa j.size m x i = some r) : ∃ z, (Instr.indexAt t v u).run cx.P w = .ok z w ∧ Rep cx.w0 cx.B φ r z := by
  unfold xIaa at he
  split at he
  · rename_i id ver off kk i
    split at he
    · rename_i hc
      simp at he
      subst he
      cases hi
      cases hx with
      | ptr _ _ _ b n hφ =>
        refine ⟨.pointer (some ⟨b, off + i.toNat * j.size, none⟩), ?_, .ptr _ _ _ _ _ hφ⟩
        simp [Instr.indexAt, asIntOf, run_underlying_of hu, Instr.sureAddr, hc.1, hc.2, run_sizeOf_of hj, add_none]
    · cases he
  · rename_i cs kk i
    split at he
    · rename_i hc
      simp at he
      subst he
      cases hi
      cases hx with
      | rp _ b o c hb hcc hc1 hr =>
        refine ⟨.pointer (some ⟨b, o + i.toNat * j.size, none⟩), ?_, .rp _ _ _ (fun k => c (i.toNat * j.size + k)) hb ?_ ?_ ?_⟩
        · simp [Instr.indexAt, asIntOf, run_underlying_of hu, Instr.sureAddr, hc.1, hc.2, run_sizeOf_of hj, add_none]
        · intro k hk
          rw [Nat.add_assoc]
          exact hcc _ (by simp at hk; omega)
        · intro k hk
          exact hc1 _ (by simp at hk; omega)
        · intro k x hx
          rw [List.getElem?_drop] at hx
          exact hr _ _ hx
    · cases he
  · cases he
theorem fad_sound {t : TypeId} {fs : Array Field} {fd : Field} {f : Nat} {i : TypeInfo} (hu : cx.P.underlying t = some (.struct fs)) (hf : fs[f]? = some fd) (hi : cx.P.info? fd.type = some i) (hz : i.size ≠ 0)
    {x r : AV} {v : Value} (w : World) (hx : Rep cx.w0 cx.B φ x v) (he : xFad fd.offset x = some r) : ∃ z, (Instr.fieldAt t v f).run cx.P w = .ok z w ∧ Rep cx.w0 cx.B φ r z := by
  unfold xFad at he
  split at he
  · rename_i id ver off
    simp at he
    subst he
    cases hx with
    | ptr _ _ _ b n hφ =>
      refine ⟨.pointer (some ⟨b, off + fd.offset, none⟩), ?_, .ptr _ _ _ _ _ hφ⟩
      simp [Instr.fieldAt, run_underlying_of hu, hf, Instr.sureAddr, fieldPlace, run_sizeOf_of hi, hz, add_none]
  · simp at he
    subst he
    cases hx with
    | rp cs b o c hb hcc hc1 hr =>
      refine ⟨.pointer (some ⟨b, o + fd.offset, none⟩), ?_, .rp _ _ _ (fun k => c (fd.offset + k)) hb ?_ ?_ ?_⟩
      · simp [Instr.fieldAt, run_underlying_of hu, hf, Instr.sureAddr, fieldPlace, run_sizeOf_of hi, hz, add_none]
      · intro k hk
        rw [Nat.add_assoc]
        exact hcc _ (by simp at hk; omega)
      · intro k hk
        exact hc1 _ (by simp at hk; omega)
      · intro k x hx
        rw [List.getElem?_drop] at hx
        exact hr _ _ hx
  · cases he
theorem fld_sound {t : TypeId} {fs : Array Field} {fd : Field} {f : Nat} {c : Bool} (hu : cx.P.underlying t = some (.struct fs)) (hf : fs[f]? = some fd) (ha : isAggB cx.P fd.type = some c) {i : TypeInfo} (hi : c = true → cx.P.info? fd.type = some i)
    {x r : AV} {v : Value} (w : World) (hx : Rep cx.w0 cx.B φ x v) (he : xFld fd.offset (if c = true then some i.size else none) x = some r) : ∃ z, (Instr.field t v f).run cx.P w = .ok z w ∧ Rep cx.w0 cx.B φ r z := by
  unfold xFld at he
  split at he
  · cases hx with
    | agg cs vs hl hr =>
      cases c with
      | false =>
        simp only [Bool.false_eq_true, if_false] at he
        have hlt : fd.offset < vs.size := by have := (List.getElem?_eq_some_iff.1 he).1; omega
        refine ⟨vs[fd.offset], ?_, hr _ _ _ he (Array.getElem?_eq_getElem hlt)⟩
        simp [Instr.field, run_underlying_of hu, hf, asAgg, part, run_isAgg_of ha, hlt]
      | true =>
        simp only [if_true] at he
        split at he
        · rename_i hle
          simp at he
          subst he
          refine ⟨.agg (vs.extract fd.offset (fd.offset + i.size)), ?_, .agg _ _ (by simp; omega) ?_⟩
          · simp [Instr.field, run_underlying_of hu, hf, asAgg, part, run_isAgg_of ha, run_sizeOf_of (hi rfl)]
          · intro k x v hx hv
            rw [List.getElem?_take] at hx
            split at hx
            · rw [List.getElem?_drop] at hx
              rw [Array.getElem?_extract] at hv
              split at hv
              · exact hr _ _ _ hx hv
              · cases hv
            · cases hx
        · cases he
  · cases he
theorem lenS_sound {x r : AV} {v : Value} (hx : Rep cx.w0 cx.B φ x v) (he : xLenS x = some r) : ∃ s, v = .string s ∧ r = .v (.int .i64 s.size) := by
  unfold xLenS at he
  split at he
  · cases hx; simp at he; exact ⟨_, rfl, he.symm⟩
  · cases he
theorem lenL_sound {x r : AV} {v : Value} (hx : Rep cx.w0 cx.B φ x v) (he : xLenL x = some r) : ∃ A n c, v = .slice A n c ∧ r = .v (.int .i64 n) := by
  unfold xLenL at he
  split at he
  · cases hx; simp at he; exact ⟨_, _, _, rfl, he.symm⟩
  · cases hx; simp at he; exact ⟨_, _, _, rfl, he.symm⟩
  · cases hx; simp at he; exact ⟨_, _, _, rfl, he.symm⟩
  · cases he
end Go.Eng
namespace Go.Eng
open Go.RowKit
variable {cx : Cx} {φ φ' : Phi} {h h' : AH} {w w' : World} {b : Nat} {n : Nat × Nat} {s : XSt} {a : Act}
theorem foldSet (off : Nat) : ∀ (l : List Value) (k : Nat) (cells : Array Value), off + k + l.length ≤ cells.size →
    (l.zipIdx k).foldl (fun cs p => cs.setIfInBounds (off + p.2) p.1) cells = (cells.toList.take (off + k) ++ l ++ cells.toList.drop (off + k + l.length)).toArray
  | [], k, cells, _ => by simp
  | v :: r, k, cells, hl => by
    simp only [List.length_cons] at hl
    rw [List.zipIdx_cons, List.foldl_cons]
    simp only
    rw [foldSet off r (k + 1) _ (by simp; omega)]
    have e := list_seg_step cells.toList (off + k) v r (by simp; omega)
    simp only [Array.toList_setIfInBounds, List.length_cons]
    rw [← e]
    simp [Nat.add_assoc]
theorem splice_size {ccs : Array Value} {us : List Value} {off : Nat} (h : off + us.length ≤ ccs.size) : ((ccs.toList.take off ++ us ++ ccs.toList.drop (off + us.length)).toArray).size = ccs.size := by
  simp only [List.size_toArray, List.length_append, List.length_take, List.length_drop, Array.length_toList]
  omega
theorem fill_sound {w0 : World} {B : Nat} {place : Nat → Option (Nat × Nat)} : ∀ (ps : List (Nat × Value)) (xs : List (Nat × Nat × AV)) (cs cs' : List AV) (ccs : Array Value),
    ps.length = xs.length → (∀ (k : Nat) p x, ps[k]? = some p → xs[k]? = some x → place p.1 = some (x.1, x.2.1) ∧ Rep w0 B φ x.2.2 p.2) → xFill cs xs = some cs' → cs.length = ccs.size →
    (∀ (k : Nat) x v, cs[k]? = some x → ccs[k]? = some v → Rep w0 B φ x v) → (∀ (k : Nat) v, k < cs.length → ccs[k]? = some v → v.oneCell' = true) →
    ∃ ccs', Instr.fill place ccs ps = some ccs' ∧ ccs'.size = ccs.size ∧ cs'.length = cs.length ∧ (∀ (k : Nat) x v, cs'[k]? = some x → ccs'[k]? = some v → Rep w0 B φ x v) ∧ ∀ (k : Nat) v, k < cs'.length → ccs'[k]? = some v → v.oneCell' = true
  | [], [], cs, cs', ccs, _, _, he, hl, h1, h2 => by
    simp only [xFill, Option.some.injEq] at he
    subst he
    exact ⟨ccs, rfl, rfl, rfl, h1, h2⟩
  | [], _ :: _, _, _, _, hlen, _, _, _, _, _ => by simp at hlen
  | _ :: _, [], _, _, _, hlen, _, _, _, _, _ => by simp at hlen
  | (i, v) :: ps, (off, sz, x) :: xs, cs, cs', ccs, hlen, hp, he, hl, h1, h2 => by
    obtain ⟨hp1, hp2⟩ := hp 0 _ _ rfl rfl
    simp only [xFill] at he
    split at he
    · rename_i vs hc
      split at he
      · rename_i hle
        obtain ⟨hsz, hone, hrep⟩ := cells_sound hp2 hc
        have hu : v.cells.toList.length = vs.length := by simpa using hsz
        have hu2 : v.cells.toList.length = v.cells.size := by simp
        obtain ⟨e1, e2⟩ := rep_setCells (φ := φ) (cs := cs) (vs := vs) (ccs := ccs) (us := v.cells.toList) (off := off) hu.symm (by omega) (by omega) h1 (fun k y z hk hz => hrep k y z hk (by simpa using hz))
        have e3 := one_setCells (cs := cs) (vs := vs) (ccs := ccs) (us := v.cells.toList) (off := off) h2 hone (by omega) (by omega) e1
        obtain ⟨ccs', f1, f2, f3, f4, f5⟩ := fill_sound ps xs (setCells cs off vs) cs' (ccs.toList.take off ++ v.cells.toList ++ ccs.toList.drop (off + v.cells.toList.length)).toArray (by simpa using hlen)
          (fun k p y hk hy => hp (k + 1) p y hk hy) he (by rw [e1, splice_size (by omega)]; exact hl) e2 e3
        refine ⟨ccs', ?_, ?_, by rw [f3, e1], f4, f5⟩
        · simp only [Instr.fill, hp1]
          rw [if_neg (by simp only [ne_eq, Bool.or_eq_true, decide_eq_true_eq]; omega)]
          have := foldSet off v.cells.toList 0 ccs (by omega)
          simp only [Nat.add_zero] at this
          rw [← this] at f1
          rw [← f1]
          congr 1
          rw [← Array.foldl_toList, Array.toList_zipIdx]
        · rw [f2, splice_size (by omega)]
      · cases he
    · cases he
theorem run_places {P : Program} : ∀ (fs : List Field) (pl : List (Nat × Nat)), xPlaces P fs = some pl → ∀ w, (fs.mapM fun f => do pure (f.offset, ← sizeOf f.type) : Sem (List (Nat × Nat))).run P w = .ok pl w
  | [], pl, he, w => by simp only [xPlaces, Option.some.injEq] at he; subst he; rfl
  | f :: r, pl, he, w => by
    simp only [xPlaces] at he
    split at he
    · rename_i i l hi hl
      simp at he
      subst he
      rw [List.mapM_cons]
      have ih := run_places r l hl w
      simp only [Sem.run_bind, run_sizeOf_of hi, Result.andThen_ok, pure, Sem.run] at ih ⊢
      rw [ih]
      rfl
    · cases he
theorem flat_get {α : Type} (l : List α) : ∀ (n k : Nat), ((List.replicate n l).flatten)[k]? = if k < n * l.length then l[k % l.length]? else none
  | 0, k => by simp
  | n + 1, k => by
    rw [List.replicate_succ, List.flatten_cons, List.getElem?_append]
    split
    · rename_i hk
      rw [if_pos (by rw [Nat.add_mul]; omega), Nat.mod_eq_of_lt hk]
    · rename_i hk
      rw [flat_get l n]
      have : k - l.length < n * l.length ↔ k < (n + 1) * l.length := by rw [Nat.add_mul]; omega
      simp only [this]
      split
      · have : (k - l.length) % l.length = k % l.length := by
          have h1 : k = (k - l.length) + l.length := by omega
          conv => rhs; rw [h1, Nat.add_mod_right]
        rw [this]
      · rfl
theorem elem_some {P : Program} {e : TypeId} {j : Nat × Nat × List Value} (he : xElem P e = some j) : ∃ i z, P.info? e = some i ∧ i.zero = some z ∧ z.cells.size = i.size ∧ 0 < i.size ∧ 0 < i.bytes ∧ (∀ v ∈ z.cells.toList, v.oneCell' = true) ∧ j = (i.size, i.bytes, z.cells.toList) := by
  unfold xElem at he
  cases hi : P.info? e with
  | none => simp [hi] at he
  | some i =>
    cases hz : i.zero with
    | none => simp [hi, hz] at he
    | some z =>
      simp [hi, hz] at he
      obtain ⟨⟨h1, h2, h3, h4⟩, h5⟩ := he
      refine ⟨i, z, rfl, hz, h1, h2, h3, ?_, h5.symm⟩
      intro v hv
      obtain ⟨k, hk, rfl⟩ := List.getElem_of_mem hv
      simpa using h4 k (by simpa using hk)
theorem zeros_get {z : Array Value} {sz m : Nat} (hz : z.size = sz) (hs : 0 < sz) (k : Nat) (hk : k < m * sz) : ((Array.range (m * sz)).map (fun i => z[i % z.size]!))[k]? = (((List.replicate m z.toList).flatten))[k]? := by
  rw [flat_get]
  simp only [Array.length_toList, hz]
  rw [if_pos hk]
  have hlt : k % sz < z.size := by rw [hz]; exact Nat.mod_lt _ hs
  simp only [Array.getElem?_map, Array.getElem?_range, hk, if_true, Option.map_some, hz]
  rw [getElem!_pos z _ hlt, Array.getElem?_toList, Array.getElem?_eq_getElem hlt]
theorem bsl_sound (hw : RepW cx φ h w) {t e : TypeId} {j : Nat × Nat × List Value} (hu : cx.P.underlying t = some (.slice e)) (hj : xElem cx.P e = some j) {len : Nat} (hlen : len * j.1 ≤ 16777216)
    {ps : List (Nat × Value)} {xs : List (Nat × AV)} (hl : ps.length = xs.length) (hp : ∀ (k : Nat) p x, ps[k]? = some p → xs[k]? = some x → p.1 = x.1 ∧ Rep cx.w0 cx.B φ x.2 p.2) {cs : List AV}
    (he : xFill (((List.replicate len j.2.2).flatten).map .v) (xs.map fun x => (x.1 * j.1, j.1, x.2)) = some cs) :
    Good cx φ h w (.sl h.length 0 0 len j.1) (h ++ [.cells 0 cs]) (do pure (.value (← Instr.buildSlice t len ps.toArray))) := by
  obtain ⟨i, z, hi, hz, hzs, hs, hb, hz1, rfl⟩ := elem_some hj
  simp only at he hlen ⊢
  obtain ⟨zr, hzr⟩ : ∃ zr : Array Value, zr = (Array.range (len * i.size)).map (fun k => z.cells[k % z.cells.size]!) := ⟨_, rfl⟩
  have hzr1 : zr.size = len * i.size := by simp [hzr]
  have hfl : ((List.replicate len z.cells.toList).flatten).length = len * i.size := by simp [hzs]
  have hget : ∀ (k : Nat) x v, (((List.replicate len z.cells.toList).flatten).map AV.v)[k]? = some x → zr[k]? = some v → x = .v v ∧ v ∈ z.cells.toList := by
    intro k x v hx hv
    have hk : k < len * i.size := by have := (Array.getElem?_eq_some_iff.1 hv).1; omega
    rw [hzr, zeros_get hzs hs k hk] at hv
    rw [List.getElem?_map, hv] at hx
    simp at hx
    rw [flat_get, if_pos (by simp [hzs]; exact hk)] at hv
    exact ⟨hx.symm, List.mem_of_getElem? hv⟩
  obtain ⟨ccs, f1, f2, f3, f4, f5⟩ := fill_sound (w0 := cx.w0) (B := cx.B) (φ := φ) (place := fun k => some (k * i.size, i.size)) ps (xs.map fun x => (x.1 * i.size, i.size, x.2)) _ cs zr (by simpa using hl)
    (by
      intro k p x hk hx
      rw [List.getElem?_map] at hx
      cases hy : xs[k]? with
      | none => simp [hy] at hx
      | some y =>
        simp [hy] at hx
        subst hx
        obtain ⟨q1, q2⟩ := hp k p y hk hy
        exact ⟨by simp [q1], q2⟩) he (by rw [List.length_map, hfl, hzr1])
    (fun k x v hx hv => by obtain ⟨rfl, _⟩ := hget k x v hx hv; exact .v _)
    (fun k v hk hv => by
      have hk' : k < (((List.replicate len z.cells.toList).flatten).map AV.v).length := hk
      exact hz1 _ (hget k _ v (List.getElem?_eq_getElem hk') hv).2)
  have hlen2 : cs.length = len * i.size := by rw [f3, List.length_map, hfl]
  refine Good.newObj hw (cs := cs) (us := ccs) (T := e) (by omega) f4 f5 (v := .slice (some ⟨w.heap.size, 0, none⟩) len len) (w' := w.alloc (.cells ccs e)) (Adds.alloc _ _) ?_ ?_
  · have hzz : (zeroValue e).run cx.P w = .ok z w := run_zero_of (by simp [hi, hz]) w
    simp only [Sem.run_bind, Instr.buildSlice, run_underlying_of hu, Result.andThen_ok, run_sizeOf_of hi]
    rw [if_neg (by omega)]
    by_cases h0 : len * i.size = 0
    · have hrr : (Array.range (len * i.size)).map (fun k => (#[] : Array Value)[k % (#[] : Array Value).size]!) = zr := by rw [hzr, h0]; simp
      rw [if_pos h0]
      simp only [Sem.run_bind, Result.andThen_ok, pure, Sem.run, hrr, f1, run_newRow]
    · rw [if_neg h0]
      simp only [Sem.run_bind, Result.andThen_ok, pure, Sem.run, hzz, ← hzr, f1, run_newRow]
  · intro φ' hφ
    exact .sl _ _ _ _ _ _ _ _ hφ (by simp [hlen2]) (by simp [hlen2]) (Nat.le_refl _) (by simp; omega)
theorem flatMap_get {α : Type} {f : Nat → List α} {sz : Nat} : ∀ (n : Nat), (∀ i, i < n → (f i).length = sz) → ((List.range n).flatMap f).length = n * sz ∧ ∀ k, k < n * sz → ((List.range n).flatMap f)[k]? = (f (k / sz))[k % sz]?
  | 0, _ => ⟨by simp, fun k hk => by simp at hk⟩
  | n + 1, hf => by
    obtain ⟨h1, h2⟩ := flatMap_get n (fun i hi => hf i (by omega))
    rw [List.range_succ, List.flatMap_append]
    have e1 : (List.flatMap f [n]) = f n := by simp
    rw [e1]
    refine ⟨by rw [List.length_append, h1, hf n (by omega), Nat.add_mul]; omega, ?_⟩
    intro k hk
    rw [Nat.add_mul] at hk
    rw [List.getElem?_append]
    split
    · rename_i hlt
      exact h2 k (by omega)
    · rename_i hlt
      rw [h1] at hlt ⊢
      have hs : 0 < sz := by omega
      have hd : k / sz = n := by
        apply Nat.div_eq_of_lt_le
        · omega
        · rw [Nat.add_mul]; omega
      have hm : k % sz = k - n * sz := by
        have := Nat.div_add_mod k sz
        rw [hd, Nat.mul_comm] at this
        omega
      rw [hm, hd]
theorem rows_sound (hw : RepW cx φ h w) {sz m : Nat} {x : AV} {v : Value} {cells : List AV} (hs : 0 < sz) (hx : Rep cx.w0 cx.B φ x v) (he : xRows h sz x = some (m, cells)) :
    cells.length = m * sz ∧ (Builtin.lenOf v).run cx.P w = .ok m w ∧ ∀ k, k ≤ m → ∃ us : Array Value, (Builtin.firstCells sz k v).run cx.P w = .ok us w ∧ us.size = k * sz ∧ (∀ u ∈ us.toList, u.oneCell' = true) ∧
      ∀ (j : Nat) y u, cells[j]? = some y → us[j]? = some u → Rep cx.w0 cx.B φ y u := by
  cases hx with
  | sl id ver off len sz' b n cap hφ h1 h2 h3 h4 =>
    simp only [xRows] at he
    split at he
    · rename_i hsz
      subst hsz
      simp only [Option.bind_eq_some_iff] at he
      obtain ⟨cs, hg, he⟩ := he
      split at he
      · rename_i hle
        simp at he
        obtain ⟨rfl, rfl⟩ := he
        obtain ⟨hn, ccs, T, fz, q2, q5, q3, q4, q6⟩ := hw.rd_at hg hφ
        refine ⟨by simp; omega, rfl, ?_⟩
        intro k hk
        have hks : k * sz' ≤ len * sz' := Nat.mul_le_mul_right _ hk
        refine ⟨((ccs.toList.drop off).take (k * sz')).toArray, ?_, by simp; omega, ?_, ?_⟩
        · have := run_loadCells_list (P := cx.P) w ⟨b, off, none⟩ ((ccs.toList.drop off).take (k * sz')) (by
            intro j u hu
            rw [List.getElem?_take] at hu
            split at hu
            · rw [List.getElem?_drop, Array.getElem?_toList] at hu
              rw [add_none]
              simp [World.cell?, q2, hu]
            · cases hu)
          have hl : ((ccs.toList.drop off).take (k * sz')).length = k * sz' := by simp; omega
          rw [hl] at this
          simpa [Builtin.firstCells] using this
        · intro u hu
          obtain ⟨j, hj, rfl⟩ := List.getElem_of_mem hu
          have hj' : j < k * sz' := by simp at hj; omega
          have : (ccs.toList.drop off).take (k * sz') = ((ccs.toList.drop off).take (k * sz')) := rfl
          have e : ccs[off + j]? = some ((((ccs.toList.drop off).take (k * sz')).toArray.toList)[j]) := by
            rw [← Array.getElem?_toList]
            have := List.getElem?_eq_getElem hj
            simp only [List.getElem?_take, hj', if_true, List.getElem?_drop] at this
            exact this
          exact q6 (off + j) _ (by omega) e
        · intro j y u hy hu
          rw [List.getElem?_take] at hy
          split at hy
          · rw [List.getElem?_drop] at hy
            simp only [List.getElem?_toArray, List.getElem?_take] at hu
            split at hu
            · rw [List.getElem?_drop, Array.getElem?_toList] at hu
              exact q4 _ _ _ hy hu
            · cases hu
          · cases hy
      · cases he
    · cases he
  | ro sz' n f A cap b o c hcap hA hf hc hc1 hr =>
    simp only [xRows] at he
    split at he
    · rename_i hsz
      subst hsz
      simp at he
      obtain ⟨rfl, rfl⟩ := he
      obtain ⟨f1, f2⟩ := flatMap_get n hf
      refine ⟨f1, rfl, ?_⟩
      intro k hk
      have hks : k * sz' ≤ n * sz' := Nat.mul_le_mul_right _ hk
      have hdm : ∀ j, j < k * sz' → j / sz' < n ∧ j % sz' < sz' ∧ j / sz' * sz' + j % sz' = j := by
        intro j hj
        refine ⟨?_, Nat.mod_lt _ hs, by rw [Nat.mul_comm]; exact Nat.div_add_mod _ _⟩
        exact Nat.div_lt_of_lt_mul (by rw [Nat.mul_comm]; omega)
      by_cases hk0 : k = 0
      · subst hk0
        refine ⟨#[], ?_, by simp, by simp, by simp⟩
        cases A with
        | none => simp [Builtin.firstCells]
        | some A => simp [Builtin.firstCells, loadCells, loadCellsFrom]
      · obtain ⟨rfl, hb⟩ := hA (by omega)
        refine ⟨((List.range (k * sz')).map fun j => c (j / sz') (j % sz')).toArray, ?_, by simp, ?_, ?_⟩
        · simp only [Builtin.firstCells]
          refine run_loadCells w _ _ _ ?_
          intro j hj
          obtain ⟨d1, d2, d3⟩ := hdm j hj
          rw [add_none, hw.cell0 hb]
          have := hc (j / sz') (j % sz') d1 d2
          rw [Nat.add_assoc, d3] at this
          exact this
        · intro u hu
          simp at hu
          obtain ⟨j, hj, rfl⟩ := hu
          obtain ⟨d1, d2, d3⟩ := hdm j hj
          exact hc1 _ _ d1 d2
        · intro j y u hy hu
          have hj : j < k * sz' := by have := (Array.getElem?_eq_some_iff.1 hu).1; simpa using this
          obtain ⟨d1, d2, d3⟩ := hdm j hj
          rw [f2 j (by omega)] at hy
          simp [hj] at hu
          subst hu
          exact hr _ _ _ d1 hy
    · cases he
  | v y =>
    unfold xRows at he
    split at he
    · rename_i h; cases h
    · rename_i h; cases h
    · rename_i h
      cases h
      simp at he
      obtain ⟨rfl, rfl⟩ := he
      refine ⟨by simp, rfl, ?_⟩
      intro k hk
      have : k = 0 := by omega
      subst this
      exact ⟨#[], by simp [Builtin.firstCells], by simp, by simp, by simp⟩
    · rename_i bs h
      cases h
      split at he
      · rename_i h1
        subst h1
        simp at he
        obtain ⟨rfl, rfl⟩ := he
        refine ⟨by simp, rfl, ?_⟩
        intro k hk
        refine ⟨(bs.extract 0 k).data.map fun b => .int .u8 b.toNat, rfl, by simp; omega, ?_, ?_⟩
        · intro u hu
          rw [Array.toList_map, List.mem_map] at hu
          obtain ⟨c, _, rfl⟩ := hu
          rfl
        · intro j z u hz hu
          simp only [Array.getElem?_map, ByteArray.data_extract, Array.getElem?_extract] at hu
          split at hu
          · simp only [List.getElem?_map, Array.getElem?_toList] at hz
            simp only [Nat.zero_add] at hu
            cases hb : bs.data[j]? with
            | none => simp [hb] at hz
            | some c =>
              simp [hb] at hz hu
              subst hz; subst hu
              exact .v _
          · simp at hu
      · cases he
    · cases he
  | _ => cases he
end Go.Eng
namespace Go.Eng
open Go.RowKit
variable {cx : Cx} {φ φ' : Phi} {h h' : AH} {w w' : World} {b : Nat} {n : Nat × Nat} {s : XSt} {a : Act}
theorem drewAdds (w : World) (obj : Obj) : Adds w obj (w.drew.alloc obj) := ⟨rfl, rfl, rfl, rfl, Nat.le_succ _⟩
theorem zeroCells_size (z : Array Value) (k : Nat) : (Builtin.zeroCells z k).size = k * z.size := by simp [Builtin.zeroCells]
theorem run_cap (P : Program) (need cap : Nat) (e : TypeId) (w : World) : ∃ c, need ≤ c ∧ (choose (.appendCap need cap e)).run P w = .ok c w.drew := by
  refine ⟨(Question.appendCap need cap e).cut (w.tape w.drawn (.appendCap need cap e)), ?_, ?_⟩
  · simp only [Question.cut]; omega
  · rw [run_choose_drew]; rfl
theorem RepW.drew (hw : RepW cx φ h w) : RepW cx φ h w.drew :=
  ⟨hw.below.drew, fun id o b n ho hφ => (hw.obj id o b n ho hφ).mono (Ext.refl _) rfl, hw.inj, hw.dom, hw.hi⟩
theorem run_append_room' {P : Program} {t u e ty : TypeId} {i : TypeInfo} (hu : P.underlying t = some (.slice e)) (hu2 : (∃ e', P.underlying u = some (.slice e')) ∨ P.underlying u = some .string) (hi : P.info? e = some i)
    {base : Option Addr} {sLen sCap m : Nat} {z : Value} {us : Array Value} {w : World} (hlen : (Builtin.lenOf z).run P w = .ok m w) (hus : (Builtin.firstCells i.size m z).run P w = .ok us w) (hle : sLen + m ≤ sCap) :
    (Builtin.append_ #[t, u] ty #[.slice base sLen sCap, z]).run P w = (match base with | some a => (storeCells (a.add (sLen * i.size)) us.toList).run P w | none => .ok () w).andThen fun _ w' => .ok (.slice base (sLen + m) sCap) w' := by
  rcases hu2 with ⟨e', hu2⟩ | hu2
  all_goals
    simp only [Builtin.append_, List.getElem?_toArray, List.getElem?_cons_zero, List.getElem?_cons_succ, Sem.run_bind, run_underlying_of hu, run_underlying_of hu2, Result.andThen_ok, run_sizeOf_of hi, pure, Sem.run, Bool.false_eq_true, if_false, hlen]
    rw [if_pos hle]
    simp only [Sem.run_bind, Bool.not_false, if_true, hus, Result.andThen_ok]
    cases base with
    | none => simp [Sem.run]
    | some a => simp only [Sem.run_bind, Sem.run]
theorem run_append_grow' {P : Program} {t u e ty : TypeId} {i : TypeInfo} {zz : Value} (hu : P.underlying t = some (.slice e)) (hu2 : (∃ e', P.underlying u = some (.slice e')) ∨ P.underlying u = some .string) (hi : P.info? e = some i)
    (hz : i.zero = some zz) (hb : 0 < i.bytes) {base : Option Addr} {sLen sCap m : Nat} {z : Value} {old us : Array Value} {w : World} (hlen : (Builtin.lenOf z).run P w = .ok m w)
    (hold : (Builtin.firstCells i.size sLen (.slice base sLen sCap)).run P w.drew = .ok old w.drew) (hus : (Builtin.firstCells i.size m z).run P w.drew = .ok us w.drew) (hlt : sCap < sLen + m) (hbd : (sLen + m) * i.bytes ≤ 140737488355328) :
    ∃ c, sLen + m ≤ c ∧ (Builtin.append_ #[t, u] ty #[.slice base sLen sCap, z]).run P w = .ok (.slice (some ⟨w.heap.size, 0, none⟩) (sLen + m) c) (w.drew.alloc (.cells (old ++ us ++ Builtin.zeroCells zz.cells (c - (sLen + m))) e)) := by
  obtain ⟨c, hc, hrun⟩ := run_cap P (sLen + m) sCap e w
  have hfit := growslice_fits hlt hbd
  have hzr : (zeroValue e).run P w.drew = .ok zz w.drew := run_zero_of (by simp [hi, hz]) _
  refine ⟨c, hc, ?_⟩
  have hroom : (askRoom (c * i.bytes)).run P w.drew = .ok () w.drew := by
    unfold askRoom
    split <;> rfl
  rcases hu2 with ⟨e', hu2⟩ | hu2
  all_goals
    simp only [Builtin.append_, List.getElem?_toArray, List.getElem?_cons_zero, List.getElem?_cons_succ, Sem.run_bind, run_underlying_of hu, run_underlying_of hu2, Result.andThen_ok, run_sizeOf_of hi, pure, Sem.run, Bool.false_eq_true, if_false, hlen]
    rw [if_neg (by omega)]
    simp only [Sem.run_bind, Result.andThen_ok, run_info_of hi]
    rw [if_neg (by simp; omega)]
    simp only [Sem.run_bind, Result.andThen_ok, run_info_of hi]
    rw [if_neg (by omega)]
    simp only [Sem.run_bind, hrun, Result.andThen_ok, run_info_of hi, hroom, hold, Bool.not_false, if_true, hus, hzr, run_newRow, Sem.run]
    rfl
theorem append_sound (hw : RepW cx φ h w) {t u e ty : TypeId} {j : Nat × Nat × List Value} (hu : cx.P.underlying t = some (.slice e)) (hu2 : (∃ e', cx.P.underlying u = some (.slice e')) ∨ cx.P.underlying u = some .string) (hj : xElem cx.P e = some j)
    {x y r : AV} {v z : Value} (hx : Rep cx.w0 cx.B φ x v) (hy : Rep cx.w0 cx.B φ y z) (he : xApp h j.1 j.2.1 x y = some (r, h')) :
    ∃ q w' φ', (Builtin.append_ #[t, u] ty #[v, z]).run cx.P w = .ok q w' ∧ Rep cx.w0 cx.B φ' r q ∧ RepW cx φ' h' w' ∧ Step φ h w φ' h' w' := by
  obtain ⟨i, zz, hi, hz, hzs, hs, hb, hz1, rfl⟩ := elem_some hj
  simp only at he
  unfold xApp at he
  split at he
  · cases he
  · rename_i m cells hrows
    obtain ⟨hcl, hlen, hfirst⟩ := rows_sound hw hs hy hrows
    obtain ⟨us, hus, husz, hus1, husr⟩ := hfirst m (Nat.le_refl _)
    obtain ⟨us2, hus2, hus2z, hus21, hus2r⟩ := (rows_sound hw.drew hs hy hrows).2.2 m (Nat.le_refl _)
    split at he
    ·
      cases hx
      split at he
      · rename_i h0
        subst h0
        simp at he
        obtain ⟨rfl, rfl⟩ := he
        refine ⟨.slice none 0 0, w, φ, ?_, .v _, hw, Step.refl _ _ _⟩
        rw [run_append_room' hu hu2 hi hlen hus (by omega)]
        rfl
      · rename_i h0
        split at he
        · rename_i hbd
          simp at he
          obtain ⟨rfl, rfl⟩ := he
          obtain ⟨c, hc, hrun⟩ := run_append_grow' (ty := ty) (base := none) (sLen := 0) (sCap := 0) (old := #[]) hu hu2 hi hz hb hlen (by simp [Builtin.firstCells]) hus2 (by omega) (by simpa using hbd)
          simp only [Nat.zero_add, Array.empty_append] at hrun hc
          obtain ⟨cur, hcur⟩ : ∃ cur, cur = us2 ++ Builtin.zeroCells zz.cells (c - m) := ⟨_, rfl⟩
          rw [← hcur] at hrun
          have hsz : cur.size = c * i.size := by
            rw [hcur, Array.size_append, zeroCells_size, hus2z, hzs, ← Nat.add_mul]; congr 1; omega
          have hget : ∀ (k : Nat) v, k < cells.length → cur[k]? = some v → us2[k]? = some v := by
            intro k v hk hv
            rw [hcur, Array.getElem?_append_left (by omega)] at hv
            exact hv
          have hmc : m * i.size ≤ c * i.size := Nat.mul_le_mul_right _ hc
          obtain ⟨g1, g2⟩ := hw.new hw.hB (drewAdds w (.cells cur e)) (.cells 0 cells) rfl (cells.length, cur.size)
            (repO_new (w0 := cx.w0) (B := cx.B) (φ := φ) (drewAdds w (.cells cur e)).new (by omega) (fun k y v hy hv => hus2r k y v hy (hget k v (List.getElem?_eq_some_iff.1 hy).1 hv))
              (fun k v hk hv => hus21 v (Array.mem_toList_iff.2 (Array.mem_of_getElem? (hget k v hk hv)))))
          refine ⟨_, _, _, hrun, .sl _ _ _ _ _ _ _ _ (newPhi_self _ _ _ _ _) ?_ ?_ hc ?_, g1, g2⟩
          · simp; omega
          · simp; omega
          · simp; omega
        · cases he
    ·
      rename_i id ver off len sz'
      split at he
      · rename_i hsz'
        subst hsz'
        simp only [Option.bind_eq_some_iff] at he
        obtain ⟨cs, hg, he⟩ := he
        cases hx with
        | sl _ _ _ _ _ b n cap hφ p1 p2 p3 p4 =>
          obtain ⟨hn, ccs, T, q2, q5, q3, q4, q6⟩ := hw.cells_at hg hφ
          have hn1 : n.1 = cs.length := by rw [hn]
          split at he
          · rename_i h0
            subst h0
            simp at he
            obtain ⟨rfl, rfl⟩ := he
            refine ⟨.slice (some ⟨b, off, none⟩) len cap, w, φ, ?_, .sl _ _ _ _ _ _ _ _ hφ p1 p2 p3 p4, hw, Step.refl _ _ _⟩
            rw [run_append_room' hu hu2 hi hlen hus (by omega)]
            have : us.toList = [] := List.eq_nil_of_length_eq_zero (by simpa using husz)
            simp [this, storeCells]
          · rename_i h0
            have hstore : off + (len + m) * i.size ≤ n.2 → (storeCells ((⟨b, off, none⟩ : Addr).add (len * i.size)) us.toList).run cx.P w =
                .ok () (w.setRow b (ccs.toList.take (off + len * i.size) ++ us.toList ++ ccs.toList.drop (off + len * i.size + us.toList.length)).toArray) := by
              intro hle
              rw [Nat.add_mul] at hle
              have := run_storeCells_at (P := cx.P) b (off + len * i.size) T us.toList 0 ccs w q2 (by simp; omega) hus1
              simp only [Nat.add_zero] at this
              rw [add_none]
              exact this
            split at he
            · rename_i hle
              simp at he
              obtain ⟨rfl, rfl⟩ := he
              have hcap : len + m ≤ cap := by
                have : (len + m) * i.size ≤ cap * i.size := by omega
                exact Nat.le_of_mul_le_mul_right this hs
              have hle' := hle
              rw [Nat.add_mul] at hle'
              obtain ⟨e1, e2⟩ := rep_setCells (φ := φ) (w0 := cx.w0) (B := cx.B) (cs := cs) (vs := cells) (ccs := ccs) (us := us.toList) (off := off + len * i.size) (by simp; omega) (by omega) (by omega) q4 (fun k y v hy hv => husr k y v hy (by simpa using hv))
              have e3 := one_setCells (cs := cs) (vs := cells) (ccs := ccs) (us := us.toList) (off := off + len * i.size) q6 hus1 (by simp; omega) (by omega) e1
              obtain ⟨g1, g2⟩ := hw.put (n := n) (get_some hg) (o' := .cells ver (setCells cs (off + len * i.size) cells)) rfl hφ (Puts.setRow q2 (cs := (ccs.toList.take (off + len * i.size) ++ us.toList ++ ccs.toList.drop (off + len * i.size + us.toList.length)).toArray))
                ⟨by rw [e1]; exact hn, _, T, setRow_heap w b ccs _ T _ q2, by rw [splice_size (by simp; omega)]; exact q5, by rw [e1]; exact q3, e2, e3⟩
              refine ⟨.slice (some ⟨b, off, none⟩) (len + m) cap, _, φ, ?_, .sl _ _ _ _ _ _ _ _ hφ (by omega) p2 hcap p4, g1, g2⟩
              rw [run_append_room' hu hu2 hi hlen hus hcap]
              simp only [hstore (by omega), Result.andThen_ok]
            · rename_i hle
              split at he
              · rename_i hc3
                obtain ⟨rfl, hc4, hbd⟩ := hc3
                simp at he
                obtain ⟨rfl, rfl⟩ := he
                simp only [Nat.zero_add] at *
                have hnew : (cs.take (len * i.size) ++ cells).length = (len + m) * i.size := by
                  rw [List.length_append, List.length_take, hcl, Nat.add_mul]; omega
                by_cases hroom : len + m ≤ cap
                ·
                  have hfit : (len + m) * i.size ≤ n.2 := Nat.le_trans (Nat.mul_le_mul_right _ hroom) p4
                  have hfit' := hfit
                  rw [Nat.add_mul] at hfit'
                  have hul : us.toList.length = m * i.size := by simpa using husz
                  obtain ⟨cur, hcur⟩ : ∃ cur, cur = (ccs.toList.take (len * i.size) ++ us.toList ++ ccs.toList.drop (len * i.size + us.toList.length)).toArray := ⟨_, rfl⟩
                  have hcs : cur.size = ccs.size := by rw [hcur]; exact splice_size (by omega)
                  have hpt : ∀ (k : Nat) y v, (cs.take (len * i.size) ++ cells)[k]? = some y → cur[k]? = some v → Rep cx.w0 cx.B φ y v ∧ v.oneCell' = true := by
                    intro k y v hy hv
                    rw [hcur] at hv
                    simp only [List.append_assoc, List.getElem?_toArray] at hv
                    have l1 : (ccs.toList.take (len * i.size)).length = len * i.size := by simp; omega
                    have l2 : (cs.take (len * i.size)).length = len * i.size := by simp; omega
                    by_cases hk : k < len * i.size
                    · rw [List.getElem?_append_left (by omega), List.getElem?_take, if_pos hk] at hy
                      rw [List.getElem?_append_left (by omega), List.getElem?_take, if_pos hk, Array.getElem?_toList] at hv
                      exact ⟨q4 k y v hy hv, q6 k v (by omega) hv⟩
                    · rw [List.getElem?_append_right (by omega), l2] at hy
                      have hk2 := (List.getElem?_eq_some_iff.1 hy).1
                      rw [List.getElem?_append_right (by omega), l1, List.getElem?_append_left (by omega)] at hv
                      exact ⟨husr _ y v hy (by simpa using hv), hus1 v (List.mem_of_getElem? hv)⟩
                  have hp := Puts.setRow q2 (cs := cur)
                  obtain ⟨g1, g2⟩ := hw.grow hw.hB (w' := w.setRow b cur) (get_some hg) hφ (b' := b) (n' := ((len + m) * i.size, n.2)) (cs' := cs.take (len * i.size) ++ cells) (.inl rfl) (by rw [hp.size]; exact (hw.hi _ _ _ _ hφ).2) (by rw [hp.size]; omega) rfl rfl rfl (Nat.le_refl _) (fun k _ hk => hp.other k hk)
                    (fun φ' he' => ⟨by rw [hnew], cur, T, hp.at_, by rw [hcs]; exact q5, by rw [hnew]; exact hfit, fun k y v hy hv => (hpt k y v hy hv).1.ext he',
                      fun k v hk hv => (hpt k _ v (List.getElem?_eq_getElem hk) hv).2⟩)
                  refine ⟨.slice (some ⟨b, 0, none⟩) (len + m) cap, _, _, ?_, .sl _ _ _ _ _ _ _ _ (newPhi_self _ _ _ _ _) (by simp) ?_ hroom (by simpa using p4), g1, g2⟩
                  · rw [run_append_room' hu hu2 hi hlen hus hroom]
                    simp only [hstore hfit, Result.andThen_ok, hcur]
                  · simpa using Nat.mul_le_mul_right i.size hroom
                ·
                  have hrow2 : xRows h i.size (.sl id ver 0 len i.size) = some (len, cs.take (len * i.size)) := by
                    simp [xRows, get_rd hg]; omega
                  obtain ⟨r1, r2, r3⟩ := rows_sound hw.drew hs (.sl _ _ _ _ _ _ _ _ hφ (by simpa using p1) (by simpa using p2) p3 (by simpa using p4)) hrow2
                  obtain ⟨old, hold, holdz, hold1, holdr⟩ := r3 len (Nat.le_refl _)
                  obtain ⟨c, hc, hrun⟩ := run_append_grow' (ty := ty) hu hu2 hi hz hb hlen hold hus2 (by omega) hbd
                  obtain ⟨cur, hcur⟩ : ∃ cur, cur = old ++ us2 ++ Builtin.zeroCells zz.cells (c - (len + m)) := ⟨_, rfl⟩
                  rw [← hcur] at hrun
                  have hmc : (len + m) * i.size ≤ c * i.size := Nat.mul_le_mul_right _ hc
                  have hsz : cur.size = c * i.size := by
                    rw [hcur, Array.size_append, Array.size_append, zeroCells_size, hus2z, holdz, hzs, ← Nat.add_mul, ← Nat.add_mul]; congr 1; omega
                  have hpt : ∀ (k : Nat) y v, (cs.take (len * i.size) ++ cells)[k]? = some y → cur[k]? = some v → Rep cx.w0 cx.B φ y v ∧ v.oneCell' = true := by
                    intro k y v hy hv
                    have hk0 := (List.getElem?_eq_some_iff.1 hy).1
                    rw [hnew, Nat.add_mul] at hk0
                    rw [hcur, Array.getElem?_append_left (by simp; omega)] at hv
                    have l2 : (cs.take (len * i.size)).length = len * i.size := by simp; omega
                    by_cases hk : k < len * i.size
                    · rw [List.getElem?_append_left (by omega)] at hy
                      rw [Array.getElem?_append_left (by omega)] at hv
                      exact ⟨holdr k y v hy hv, hold1 v (Array.mem_toList_iff.2 (Array.mem_of_getElem? hv))⟩
                    · rw [List.getElem?_append_right (by omega), l2] at hy
                      rw [Array.getElem?_append_right (by omega), holdz] at hv
                      exact ⟨hus2r _ y v hy hv, hus21 v (Array.mem_toList_iff.2 (Array.mem_of_getElem? hv))⟩
                  have ha := drewAdds w (.cells cur e)
                  obtain ⟨g1, g2⟩ := hw.grow hw.hB (w' := w.drew.alloc (.cells cur e)) (get_some hg) hφ (b' := w.heap.size) (n' := ((len + m) * i.size, cur.size)) (cs' := cs.take (len * i.size) ++ cells) (.inr (Nat.le_refl _)) (by rw [ha.size]; omega) (by rw [ha.size]; omega) rfl rfl rfl (Nat.le_succ _) (fun k hk _ => ha.old hk)
                    (fun φ' he' => ⟨by rw [hnew], cur, e, ha.new, rfl, by rw [hnew]; omega, fun k y v hy hv => (hpt k y v hy hv).1.ext he',
                      fun k v hk hv => (hpt k _ v (List.getElem?_eq_getElem hk) hv).2⟩)
                  exact ⟨_, _, _, hrun, .sl _ _ _ _ _ _ _ _ (newPhi_self _ _ _ _ _) (by simp) (by simpa using hmc) hc (by simp [hsz]), g1, g2⟩
              · cases he
      · cases he
    · cases he
end Go.Eng
namespace Go.Eng
open Go.RowKit
variable {cx : Cx} {φ φ' : Phi} {h h' : AH} {w w' : World} {b : Nat} {n : Nat × Nat} {s : XSt} {a : Act}
theorem make_sound (hw : RepW cx φ h w) {t e : TypeId} {j : Nat × Nat × List Value} (hu : cx.P.underlying t = some (.slice e)) (hj : xElem cx.P e = some j)
    {x y r : AV} {v z : Value} (hx : Rep cx.w0 cx.B φ x v) (hy : Rep cx.w0 cx.B φ y z) (he : xMks h j.1 j.2.1 j.2.2 x y = some (r, h')) : Good cx φ h w r h' (do pure (.value (← Instr.makeSlice t v z))) := by
  obtain ⟨i, zz, hi, hz, hzs, hs, hb, hz1, rfl⟩ := elem_some hj
  simp only at he
  unfold xMks at he
  split at he
  · rename_i kl l kc c
    split at he
    · rename_i hc
      obtain ⟨c1, c2, c3, c4⟩ := hc
      simp at he
      obtain ⟨rfl, rfl⟩ := he
      cases hx
      cases hy
      have hzr : (zeroValue e).run cx.P w = .ok zz w := run_zero_of (by simp [hi, hz]) w
      have wl : IntKind.i64.wrap l = l := by rw [IntKind.wrap_i64]; omega
      have wc : IntKind.i64.wrap c = c := by rw [IntKind.wrap_i64]; omega
      obtain ⟨cur, hcur⟩ : ∃ cur : Array Value, cur = (Array.range (c.toNat * i.size)).map (fun k => zz.cells[k % zz.cells.size]!) := ⟨_, rfl⟩
      have hsz : cur.size = c.toNat * i.size := by simp [hcur]
      have hl : ((List.replicate c.toNat (zz.cells.toList.map AV.v)).flatten).length = c.toNat * i.size := by simp [hzs]
      have hget : ∀ (k : Nat) y v, ((List.replicate c.toNat (zz.cells.toList.map AV.v)).flatten)[k]? = some y → cur[k]? = some v → y = .v v ∧ v ∈ zz.cells.toList := by
        intro k y v hy hv
        have hk : k < c.toNat * i.size := by have := (Array.getElem?_eq_some_iff.1 hv).1; omega
        rw [hcur, zeros_get hzs hs k hk, flat_get] at hv
        rw [flat_get] at hy
        split at hy
        · rename_i h1
          rw [if_pos (by simpa using h1)] at hv
          simp only [List.length_map, List.getElem?_map] at hy
          rw [hv] at hy
          simp at hy
          exact ⟨hy.symm, List.mem_of_getElem? hv⟩
        · cases hy
      refine Good.newObj hw (us := cur) (T := e) (by omega) (fun k y v hy hv => ?_) (fun k v hk hv => ?_) (v := .slice (some ⟨w.heap.size, 0, none⟩) l.toNat c.toNat) (w' := w.alloc (.cells cur e)) (Adds.alloc _ _) ?_ ?_
      · obtain ⟨rfl, _⟩ := hget k y v hy hv
        exact .v _
      · exact hz1 _ (hget k _ v (List.getElem?_eq_getElem hk) hv).2
      · have hbi : (i.bytes : Int) * c ≤ 281474976710656 := by rw [Int.mul_comm]; exact c3
        have htc : (decide (c < 0) || decide ((i.bytes : Int) * c > 2 ^ 48)) = false := by simp; omega
        have hroom : (askRoom (c.toNat * i.bytes)).run cx.P w = .ok () w := by unfold askRoom; split <;> rfl
        simp only [Sem.run_bind, Instr.makeSlice, run_underlying_of hu, Result.andThen_ok, asInt, asIntOf, run_info_of hi, pure, Sem.run, wl, wc, htc, Bool.false_or]
        rw [if_neg (by simp; omega)]
        simp only [Sem.run_bind, hroom, Result.andThen_ok, run_sizeOf_of hi]
        by_cases h0 : c.toNat * i.size = 0
        · have hrr : (Array.range (c.toNat * i.size)).map (fun k => (#[] : Array Value)[k % (#[] : Array Value).size]!) = cur := by rw [hcur, h0]; simp
          rw [if_pos h0]
          simp only [Sem.run_bind, Result.andThen_ok, pure, Sem.run, hrr, run_newRow]
        · rw [if_neg h0]
          simp only [Sem.run_bind, Result.andThen_ok, pure, Sem.run, hzr, ← hcur, run_newRow]
      · intro φ' hφ
        have hlc : l.toNat * i.size ≤ c.toNat * i.size := Nat.mul_le_mul_right _ (by omega)
        exact .sl _ _ _ _ _ _ _ _ hφ (by simp only [hl]; omega) (by simp only [hl]; omega) (by omega) (by simp only [hsz]; omega)
    · cases he
  · cases he
theorem copy_sound (hw : RepW cx φ h w) {t u e ty : TypeId} {j : Nat × Nat × List Value} (hu : cx.P.underlying t = some (.slice e)) (hj : xElem cx.P e = some j)
    {x y r : AV} {v z : Value} (hx : Rep cx.w0 cx.B φ x v) (hy : Rep cx.w0 cx.B φ y z) (he : xCpy h j.1 x y = some (r, h')) :
    ∃ q w', (Builtin.copy_ #[t, u] ty #[v, z]).run cx.P w = .ok q w' ∧ Rep cx.w0 cx.B φ r q ∧ RepW cx φ h' w' ∧ Step φ h w φ h' w' := by
  obtain ⟨i, zz, hi, hz, hzs, hs, hb, hz1, rfl⟩ := elem_some hj
  simp only at he
  unfold xCpy at he
  split at he
  · cases he
  · rename_i m cells hrows
    obtain ⟨hcl, hlen, hfirst⟩ := rows_sound hw hs hy hrows
    split at he
    · cases hx
      simp at he
      obtain ⟨rfl, rfl⟩ := he
      obtain ⟨us, hus, _⟩ := hfirst 0 (Nat.zero_le _)
      refine ⟨.int .i64 0, w, ?_, .v _, hw, Step.refl _ _ _⟩
      simp [Builtin.copy_, run_underlying_of hu, hlen, run_sizeOf_of hi, hus, goInt]
    · rename_i id ver off len sz'
      split at he
      · rename_i hsz'
        subst hsz'
        simp only [Option.bind_eq_some_iff] at he
        obtain ⟨cs, hg, he⟩ := he
        split at he
        · rename_i hle
          simp at he
          obtain ⟨rfl, rfl⟩ := he
          cases hx with
          | sl _ _ _ _ _ b n cap hφ p1 p2 p3 p4 =>
            obtain ⟨hn, ccs, T, q2, q5, q3, q4, q6⟩ := hw.cells_at hg hφ
            have hn1 : n.1 = cs.length := by rw [hn]
            obtain ⟨us, hus, husz, hus1, husr⟩ := hfirst (min m len) (Nat.min_le_left _ _)
            have hmm : min m len * i.size ≤ m * i.size := Nat.mul_le_mul_right _ (Nat.min_le_left _ _)
            have hul : us.toList.length = min m len * i.size := by simpa using husz
            have hvl : (cells.take (min m len * i.size)).length = min m len * i.size := by simp; omega
            obtain ⟨e1, e2⟩ := rep_setCells (φ := φ) (w0 := cx.w0) (B := cx.B) (cs := cs) (vs := cells.take (min m len * i.size)) (ccs := ccs) (us := us.toList) (off := off) (by omega) (by omega) (by omega) q4
              (fun k y v hy hv => by
                rw [List.getElem?_take] at hy
                split at hy
                · exact husr k y v hy (by simpa using hv)
                · cases hy)
            have e3 := one_setCells (cs := cs) (vs := cells.take (min m len * i.size)) (ccs := ccs) (us := us.toList) (off := off) q6 hus1 (by omega) (by omega) e1
            obtain ⟨g1, g2⟩ := hw.put (n := n) (get_some hg) (o' := .cells ver (setCells cs off (cells.take (min m len * i.size)))) rfl hφ (Puts.setRow q2 (cs := (ccs.toList.take off ++ us.toList ++ ccs.toList.drop (off + us.toList.length)).toArray))
              ⟨by rw [e1]; exact hn, _, T, setRow_heap w b ccs _ T _ q2, by rw [splice_size (by omega)]; exact q5, by rw [e1]; exact q3, e2, e3⟩
            refine ⟨.int .i64 (min m len : Nat), _, ?_, .v _, g1, g2⟩
            have hst := run_storeCells_at (P := cx.P) b off T us.toList 0 ccs w q2 (by omega) hus1
            simp only [Nat.add_zero] at hst
            have hus' : (Builtin.firstCells i.size (Nat.min m len) z).run cx.P w = .ok us w := hus
            simp only [Builtin.copy_, List.getElem?_toArray, List.getElem?_cons_zero, List.getElem?_cons_succ, Sem.run_bind, run_underlying_of hu, Result.andThen_ok, hlen, run_sizeOf_of hi, hus', hst, pure, Sem.run, goInt]
        · cases he
      · cases he
    · cases he
theorem build_sound (hw : RepW cx φ h w) {t : TypeId} {fs : Array Field} {z : Value} {pl : List (Nat × Nat)} (hu : cx.P.underlying t = some (.struct fs)) (hz : (cx.P.info? t).bind (·.zero) = some z) (hpl : xPlaces cx.P fs.toList = some pl)
    (hz1 : ∀ v ∈ z.cells.toList, v.oneCell' = true) {ps : List (Nat × Value)} {xs : List (Nat × Nat × AV)} (hl : ps.length = xs.length) (hp : ∀ (k : Nat) p x, ps[k]? = some p → xs[k]? = some x → pl[p.1]? = some (x.1, x.2.1) ∧ Rep cx.w0 cx.B φ x.2.2 p.2)
    {cs : List AV} (he : xFill (z.cells.toList.map .v) xs = some cs) : ∃ u, (Instr.build t ps.toArray).run cx.P w = .ok u w ∧ Rep cx.w0 cx.B φ (.agg cs) u := by
  have hvv : ∀ (k : Nat) x v, (z.cells.toList.map AV.v)[k]? = some x → z.cells[k]? = some v → x = .v v := by
    intro k x v hx hv
    rw [List.getElem?_map, Array.getElem?_toList, hv] at hx
    simpa using hx.symm
  obtain ⟨ccs, f1, f2, f3, f4, f5⟩ := fill_sound (w0 := cx.w0) (B := cx.B) (φ := φ) (place := fun k => pl.toArray[k]?) ps xs _ cs z.cells hl (fun k p x hk hx => by
      obtain ⟨q1, q2⟩ := hp k p x hk hx
      exact ⟨by simpa using q1, q2⟩) he (by simp)
    (fun k x v hx hv => by rw [hvv k x v hx hv]; exact .v _) (fun k v _ hv => hz1 v (Array.mem_toList_iff.2 (Array.mem_of_getElem? hv)))
  refine ⟨.agg ccs, ?_, .agg _ _ (by rw [f3, f2]; simp) f4⟩
  have hm : (fs.mapM (fun f => do pure (f.offset, ← sizeOf f.type) : Field → Sem (Nat × Nat))).run cx.P w = .ok pl.toArray w := by
    rw [Array.mapM_eq_mapM_toList]
    rw [Sem.run_map, run_places fs.toList pl hpl w]
    rfl
  have hzr : (zeroValue t).run cx.P w = .ok z w := run_zero_of hz w
  simp only [Instr.build, Sem.run_bind, hzr, Result.andThen_ok, run_underlying_of hu, pure, Sem.run] at hm ⊢
  simp only [hm, Result.andThen_ok, f1, Sem.run]
theorem parts_sound (hs : RepSt cx φ s a w) {pl : List (Nat × Nat)} : ∀ (ps : List (Nat × Operand)) (l : List (Nat × Nat × XO)), xParts pl ps = some l →
    (ps.map fun p => (p.1, a.eval p.2)).length = (l.map fun p => (p.1, p.2.1, s.ev cx p.2.2)).length ∧ ∀ (k : Nat) p x, (ps.map fun p => (p.1, a.eval p.2))[k]? = some p → (l.map fun p => (p.1, p.2.1, s.ev cx p.2.2))[k]? = some x → pl[p.1]? = some (x.1, x.2.1) ∧ Rep cx.w0 cx.B φ x.2.2 p.2
  | [], l, he => by
    simp only [xParts, Option.some.injEq] at he
    subst he
    exact ⟨rfl, fun k p x h => by simp at h⟩
  | (i, x) :: r, l, he => by
    simp only [xParts] at he
    split at he
    · rename_i p l' hp hl
      simp at he
      subst he
      obtain ⟨h1, h2⟩ := parts_sound hs r l' hl
      refine ⟨by simpa using h1, ?_⟩
      intro k q y hq hy
      cases k with
      | zero =>
        simp at hq hy
        subst hq; subst hy
        exact ⟨hp, hs.ev x⟩
      | succ k => exact h2 k q y (by simpa using hq) (by simpa using hy)
    · cases he
theorem Good.of {s : Sem Value} {r : AV} (hh : ∃ v w' φ', s.run cx.P w = .ok v w' ∧ Rep cx.w0 cx.B φ' r v ∧ RepW cx φ' h' w' ∧ Step φ h w φ' h' w') : Good cx φ h w r h' (do pure (.value (← s))) := by
  obtain ⟨v, w', φ', h1, h2, h3, h4⟩ := hh
  exact ⟨_, v, w', φ', by simp [h1], .inl rfl, h2, h3, h4⟩
theorem Good.of1 (hw : RepW cx φ h w) {s : Sem Value} {r : AV} (hh : ∃ v, s.run cx.P w = .ok v w ∧ Rep cx.w0 cx.B φ r v) : Good cx φ h w r h (do pure (.value (← s))) := by
  obtain ⟨v, h1, h2⟩ := hh
  exact Good.value hw h1 h2
end Go.Eng
namespace Go.Eng
open Go.RowKit
variable {cx : Cx} {φ φ' : Phi} {h h' : AH} {w w' : World} {b : Nat} {n : Nat × Nat}
theorem rep_v' {w0 : World} {B : Nat} {u v : Value} (h : Rep w0 B φ (.v u) v) : v = u := by cases h; rfl
theorem shOf_agg {P : Program} {n : Nat} {t : TypeId} {sh : Sh} (h : shOf P n t = some sh) : isAggB P t = some sh.agg ∧ (sh.agg = false → sh.ks.length = 1) := by
  cases n with
  | zero => simp [shOf] at h
  | succ n =>
    simp only [shOf] at h
    unfold isAggB
    split at h
    · rename_i hu; simp at h; subst h; simp [hu]
    · rename_i hu; simp at h; subst h; simp [hu]
    · rename_i hu; simp at h; subst h; simp [hu]
    · rename_i hu
      split at h
      · cases h
      · simp only [Option.map_eq_some_iff] at h
        obtain ⟨l, _, rfl⟩ := h
        simp [hu]
    · cases h
theorem xEqs_cons {k : Nat} {ks : List Nat} {l m : List AV} {r : Bool} (h : xEqs (k :: ks) l m = some r) :
    ∃ a b xs ys p q, l = .v a :: xs ∧ m = .v b :: ys ∧ sameOne k a b = some p ∧ xEqs ks xs ys = some q ∧ r = (p && q) := by
  cases l with
  | nil => simp [xEqs] at h
  | cons x xs =>
    cases m with
    | nil => cases x <;> simp [xEqs] at h
    | cons y ys =>
      cases x
      case v a =>
        cases y
        case v b =>
          simp only [xEqs] at h
          split at h
          · rename_i p q h1 h2
            simp at h
            exact ⟨a, b, xs, ys, p, q, rfl, rfl, h1, h2, h.symm⟩
          · cases h
        all_goals (simp [xEqs] at h)
      all_goals (simp [xEqs] at h)
theorem xEqs_nil {l m : List AV} {r : Bool} (h : xEqs [] l m = some r) : l = [] ∧ m = [] ∧ r = true := by
  cases l <;> cases m <;> simp [xEqs] at h ⊢
  exact h
theorem xEqs_len : ∀ {ks : List Nat} {xs ys : List AV} {r : Bool}, xEqs ks xs ys = some r → xs.length = ks.length ∧ ys.length = ks.length
  | [], xs, ys, r, h => by
    obtain ⟨rfl, rfl, _⟩ := xEqs_nil h
    exact ⟨rfl, rfl⟩
  | k :: ks, l, m, r, h => by
    obtain ⟨a, b, xs, ys, p, q, rfl, rfl, h1, h2, rfl⟩ := xEqs_cons h
    obtain ⟨h3, h4⟩ := xEqs_len h2
    simp [h3, h4]
theorem xEqs_app : ∀ {l1 l2 : List Nat} {xs ys : List AV} {r : Bool}, xEqs (l1 ++ l2) xs ys = some r →
    ∃ r1 r2, xEqs l1 (xs.take l1.length) (ys.take l1.length) = some r1 ∧ xEqs l2 (xs.drop l1.length) (ys.drop l1.length) = some r2 ∧ r = (r1 && r2)
  | [], l2, xs, ys, r, h => ⟨true, r, by simp [xEqs], by simpa using h, by simp⟩
  | k :: l1, l2, xs, ys, r, h => by
    obtain ⟨a, b, xs, ys, p, q, rfl, rfl, h1, h2, rfl⟩ := xEqs_cons (by simpa using h)
    obtain ⟨r1, r2, h3, h4, rfl⟩ := xEqs_app h2
    refine ⟨p && r1, r2, ?_, by simpa using h4, by simp [Bool.and_assoc]⟩
    simp only [List.length_cons, List.take_succ_cons, xEqs, h1, h3]
theorem part_sound {P : Program} {n : Nat} {t : TypeId} {sh : Sh} {i : TypeInfo} (hsh : shOf P n t = some sh) (hi : P.info? t = some i) (hl : sh.ks.length = i.size) {w0 : World} {B : Nat} {cs : List AV} {vs : Array Value} (hcs : cs.length = vs.size)
    (hr : ∀ (k : Nat) x v, cs[k]? = some x → vs[k]? = some v → Rep w0 B φ x v) {off : Nat} (hoff : off + sh.ks.length ≤ cs.length) (w : World) :
    ∃ u y, (part t vs off).run P w = .ok u w ∧ Rep w0 B φ y u ∧ (sh.agg = true → y = .agg ((cs.drop off).take sh.ks.length)) ∧ (sh.agg = false → (cs.drop off).take sh.ks.length = [y]) := by
  obtain ⟨h1, h2⟩ := shOf_agg hsh
  cases ha : sh.agg with
  | true =>
    rw [ha] at h1
    refine ⟨.agg (vs.extract off (off + i.size)), .agg ((cs.drop off).take sh.ks.length), ?_, ?_, fun _ => rfl, fun h => by cases h⟩
    · simp only [part, Sem.run_bind, run_isAgg_of h1, Result.andThen_ok, if_true, run_sizeOf_of hi]
      simp
    · refine .agg _ _ (by simp; omega) ?_
      intro k x v hx hv
      rw [List.getElem?_take] at hx
      split at hx
      · rw [List.getElem?_drop] at hx
        rename_i hk
        rw [Array.getElem?_extract] at hv
        split at hv
        · exact hr _ x v hx hv
        · cases hv
      · cases hx
  | false =>
    rw [ha] at h1
    have h3 := h2 ha
    have hlt : off < cs.length := by omega
    refine ⟨vs[off]'(by omega), cs[off], ?_, hr off _ _ (List.getElem?_eq_getElem hlt) (Array.getElem?_eq_getElem (by omega)), (fun h => by cases h), fun _ => ?_⟩
    · simp only [part, Sem.run_bind, run_isAgg_of h1, Result.andThen_ok]
      rw [Array.getElem?_eq_getElem (by omega)]
      simp
    · rw [h3, List.drop_eq_getElem_cons hlt]
      rfl
theorem beq_dec (a b : Int) : (a == b) = decide (a = b) := by
  by_cases h : a = b
  · subst h; simp
  · simp [h]
theorem beq_decB (a b : ByteArray) : (a == b) = decide (a = b) := by
  rw [Bool.eq_iff_iff, MapKept.bytes_beq]
  simp
theorem xEq_agg {l : List Nat} {x y : AV} {r : Bool} (h : xEq ⟨true, l⟩ x y = some r) : ∃ xs ys, x = .agg xs ∧ y = .agg ys ∧ xEqs l xs ys = some r := by
  cases x <;> cases y <;> simp [xEq] at h
  exact ⟨_, _, rfl, rfl, h⟩
theorem one_sound {P : Program} {t : TypeId} {k : Nat} {d : TypeDesc} (hu : P.underlying t = some d) (hk : (d = .bool ∧ k = 0) ∨ (∃ q, d = .int q ∧ k = 1) ∨ (d = .string ∧ k = 2)) {a c : Value} {r : Bool} (he : sameOne k a c = some r) (m : Nat) (w : World) :
    (Op.equalIn (m + 1) t a c).run P w = .ok r w ∧ Instr.sameNow d a c = some r ∧ (r = true → a = c) ∧ ∀ e, (Instr.checkKey e (m + 1) t a).run P w = .ok () w := by
  rcases hk with ⟨rfl, rfl⟩ | ⟨q, rfl, rfl⟩ | ⟨rfl, rfl⟩
  · unfold sameOne at he
    split at he <;> simp_all [Op.equalIn, run_underlying_of, Instr.sameNow, Instr.checkKey]
    subst he
    simp
  · unfold sameOne at he
    split at he <;> simp_all [Op.equalIn, run_underlying_of, Instr.sameNow, Instr.checkKey]
    obtain ⟨rfl, rfl⟩ := he
    simp [beq_dec]
  · unfold sameOne at he
    split at he <;> simp_all [Op.equalIn, run_underlying_of, Instr.sameNow, Instr.checkKey]
    subst he
    simp [beq_decB]
theorem eq_sound {P : Program} {w0 : World} {B : Nat} : ∀ (n : Nat) (t : TypeId) (sh : Sh), shOf P n t = some sh → ∀ (m : Nat) (x y : AV) (v u : Value) (r : Bool) (w : World), n ≤ m → Rep w0 B φ x v → Rep w0 B φ y u → xEq sh x y = some r →
    (Op.equalIn (m + 1) t v u).run P w = .ok r w
  | 0, t, sh, h, _, _, _, _, _, _, _, _, _, _, _ => by simp [shOf] at h
  | n + 1, t, sh, h, m, x, y, v, u, r, w, hm, hx, hy, he => by
    have fin : ∀ k d, P.underlying t = some d → ((d = .bool ∧ k = 0) ∨ (∃ q, d = .int q ∧ k = 1) ∨ (d = .string ∧ k = 2)) → xEqs [k] [x] [y] = some r → (Op.equalIn (m + 1) t v u).run P w = .ok r w := by
      intro k d hu hk he
      obtain ⟨a, b, xs, ys, p, q, e1, e2, h1, h2, rfl⟩ := xEqs_cons he
      simp at e1 e2
      obtain ⟨rfl, rfl⟩ := e1
      obtain ⟨rfl, rfl⟩ := e2
      obtain ⟨_, _, rfl⟩ := xEqs_nil h2
      rw [rep_v' hx, rep_v' hy, Bool.and_true]
      exact (one_sound hu hk h1 m w).1
    simp only [shOf] at h
    split at h
    · rename_i hu; simp at h; subst h; exact fin 0 _ hu (.inl ⟨rfl, rfl⟩) he
    · rename_i q hu; simp at h; subst h; exact fin 1 _ hu (.inr (.inl ⟨q, rfl, rfl⟩)) he
    · rename_i hu; simp at h; subst h; exact fin 2 _ hu (.inr (.inr ⟨rfl, rfl⟩)) he
    · rename_i fs hu
      split at h
      · cases h
      · rename_i hst
        simp only [Option.map_eq_some_iff] at h
        obtain ⟨l, hl, rfl⟩ := h
        obtain ⟨xs, ys, rfl, rfl, he⟩ := xEq_agg he
        · cases hx with
          | agg _ vs hlx hrx =>
            cases hy with
            | agg _ us hly hry =>
              have hf : P.fieldsOf t = fs := by simp [Program.fieldsOf, hu]
              rw [run_equalIn_struct (P := P) w m t vs us (by rw [hf]; exact hu) (by simpa using hst), hf]
              have key : ∀ (n' : Nat), n' ≤ n → ∀ (fl : List Field) (p : Nat) (l : List Nat) (r : Bool), p ≤ xs.length → p ≤ ys.length → shsOf P n' fl p = some l → xEqs l (xs.drop p) (ys.drop p) = some r → (Op.eqFields m vs us fl).run P w = .ok r w := by
                intro n'
                induction n' with
                | zero => intro _ fl p l r _ _ hs; simp [shsOf] at hs
                | succ n' ih =>
                  intro hn' fl p l r hpx hpy hs hq
                  cases fl with
                  | nil =>
                    simp [shsOf] at hs
                    subst hs
                    obtain ⟨_, _, rfl⟩ := xEqs_nil hq
                    simp [Op.eqFields]
                  | cons f fl =>
                    simp only [shsOf] at hs
                    split at hs
                    · cases hs
                    · rename_i hnm
                      rw [not_or, Decidable.not_not] at hnm
                      split at hs
                      · rename_i i sh hi hsh
                        split at hs
                        · rename_i hlen
                          simp only [Option.map_eq_some_iff] at hs
                          obtain ⟨l2, hl2, rfl⟩ := hs
                          have hlens := xEqs_len hq
                          simp at hlens
                          obtain ⟨r1, r2, g1, g2, rfl⟩ := xEqs_app hq
                          have g1l := xEqs_len g1
                          simp only [List.length_take, List.length_drop] at g1l
                          obtain ⟨a, ya, p1, p2, p3, p4⟩ := part_sound hsh hi hlen hlx hrx (off := f.offset) (by omega) w
                          obtain ⟨b, yb, q1, q2, q3, q4⟩ := part_sound hsh hi hlen hly hry (off := f.offset) (by omega) w
                          rw [hnm.2] at p3 p4 q3 q4
                          have hsub : xEq sh ya yb = some r1 := by
                            unfold xEq
                            cases ha : sh.agg with
                            | true => rw [p3 ha, q3 ha]; exact g1
                            | false =>
                              simp only
                              rw [← p4 ha, ← q4 ha]
                              exact g1
                          have hm1 : ∃ m1, m = m1 + 1 := ⟨m - 1, by omega⟩
                          obtain ⟨m1, rfl⟩ := hm1
                          have e1 := eq_sound n' f.type sh hsh m1 ya yb a b r1 w (by omega) p2 q2 hsub
                          have e2 := ih (by omega) fl (p + i.size) l2 r2 (by omega) (by omega) hl2 (by rw [← hlen, ← List.drop_drop, ← List.drop_drop]; exact g2)
                          rw [Op.eqFields]
                          simp only [ne_eq, hnm.1, not_false_eq_true, if_true, Sem.run_bind, p1, q1, e1, Result.andThen_ok]
                          cases r1
                          · simp
                          · simpa using e2
                        · cases hs
                      · cases hs
              exact key n (Nat.le_refl _) fs.toList 0 l r (by omega) (by omega) hl he
    · cases h
termination_by n => n
def chkFields (em : Bool) (m : Nat) (vs : Array Value) : List Field → Sem Unit
  | [] => pure ()
  | f :: r => do
    if f.name ≠ "_" then Instr.checkKey em m f.type (← part f.type vs f.offset)
    chkFields em m vs r
theorem run_check_struct {P : Program} {t : TypeId} {fs : Array Field} (hu : P.underlying t = some (.struct fs)) (em : Bool) (m : Nat) (vs : Array Value) (w : World) :
    (Instr.checkKey em (m + 1) t (.agg vs)).run P w = (chkFields em m vs fs.toList).run P w := by
  unfold Instr.checkKey
  simp only [Sem.run_bind, run_underlying_of hu, Result.andThen_ok]
  rw [← Array.forIn_toList]
  generalize fs.toList = l
  induction l generalizing w with
  | nil => simp [chkFields]
  | cons f l ih =>
    simp only [List.forIn_cons, chkFields, Sem.run_bind]
    by_cases hn : f.name = "_"
    · simp only [hn, ne_eq, not_true_eq_false, if_false]
      have := ih w
      simpa using this
    · simp only [hn, ne_eq, not_false_eq_true, if_true, Sem.run_bind]
      cases (part f.type vs f.offset).run P w with
      | ok a w1 =>
        simp only [Result.andThen_ok]
        cases (Instr.checkKey em m f.type a).run P w1 with
        | ok u w2 =>
          have := ih w2
          simpa using this
        | halt x w2 => simp [Result.andThen]
      | halt x w1 => simp [Result.andThen]
theorem check_sound {P : Program} {w0 : World} {B : Nat} : ∀ (n : Nat) (t : TypeId) (sh : Sh), shOf P n t = some sh → ∀ (em : Bool) (m : Nat) (x : AV) (v : Value) (r : Bool) (w : World), n ≤ m → Rep w0 B φ x v → xEq sh x x = some r →
    (Instr.checkKey em (m + 1) t v).run P w = .ok () w
  | 0, t, sh, h, _, _, _, _, _, _, _, _, _ => by simp [shOf] at h
  | n + 1, t, sh, h, em, m, x, v, r, w, hm, hx, he => by
    have fin : ∀ k d, P.underlying t = some d → ((d = .bool ∧ k = 0) ∨ (∃ q, d = .int q ∧ k = 1) ∨ (d = .string ∧ k = 2)) → xEqs [k] [x] [x] = some r → (Instr.checkKey em (m + 1) t v).run P w = .ok () w := by
      intro k d hu hk he
      obtain ⟨a, b, xs, ys, p, q, e1, e2, h1, h2, rfl⟩ := xEqs_cons he
      simp at e1 e2
      obtain ⟨rfl, rfl⟩ := e1
      rw [rep_v' hx]
      exact (one_sound hu hk h1 m w).2.2.2 em
    simp only [shOf] at h
    split at h
    · rename_i hu; simp at h; subst h; exact fin 0 _ hu (.inl ⟨rfl, rfl⟩) he
    · rename_i q hu; simp at h; subst h; exact fin 1 _ hu (.inr (.inl ⟨q, rfl, rfl⟩)) he
    · rename_i hu; simp at h; subst h; exact fin 2 _ hu (.inr (.inr ⟨rfl, rfl⟩)) he
    · rename_i fs hu
      split at h
      · cases h
      · simp only [Option.map_eq_some_iff] at h
        obtain ⟨l, hl, rfl⟩ := h
        obtain ⟨xs, ys, rfl, e1, he⟩ := xEq_agg he
        cases e1
        cases hx with
        | agg _ vs hlx hrx =>
          rw [run_check_struct hu]
          have key : ∀ (n' : Nat), n' ≤ n → ∀ (fl : List Field) (p : Nat) (l : List Nat) (r : Bool), p ≤ xs.length → shsOf P n' fl p = some l → xEqs l (xs.drop p) (xs.drop p) = some r → (chkFields em m vs fl).run P w = .ok () w := by
            intro n'
            induction n' with
            | zero => intro _ fl p l r _ hs; simp [shsOf] at hs
            | succ n' ih =>
              intro hn' fl p l r hpx hs hq
              cases fl with
              | nil => simp [chkFields]
              | cons f fl =>
                simp only [shsOf] at hs
                split at hs
                · cases hs
                · rename_i hnm
                  rw [not_or, Decidable.not_not] at hnm
                  split at hs
                  · rename_i i sh hi hsh
                    split at hs
                    · rename_i hlen
                      simp only [Option.map_eq_some_iff] at hs
                      obtain ⟨l2, hl2, rfl⟩ := hs
                      have hlens := xEqs_len hq
                      simp at hlens
                      obtain ⟨r1, r2, g1, g2, rfl⟩ := xEqs_app hq
                      have g1l := xEqs_len g1
                      simp only [List.length_take, List.length_drop] at g1l
                      obtain ⟨a, ya, p1, p2, p3, p4⟩ := part_sound hsh hi hlen hlx hrx (off := f.offset) (by omega) w
                      rw [hnm.2] at p3 p4
                      have hsub : xEq sh ya ya = some r1 := by
                        unfold xEq
                        cases ha : sh.agg with
                        | true => rw [p3 ha]; exact g1
                        | false =>
                          simp only
                          rw [← p4 ha]
                          exact g1
                      have hm1 : ∃ m1, m = m1 + 1 := ⟨m - 1, by omega⟩
                      obtain ⟨m1, rfl⟩ := hm1
                      have e1 := check_sound n' f.type sh hsh em m1 ya a r1 w (by omega) p2 hsub
                      have e2 := ih (by omega) fl (p + i.size) l2 r2 (by omega) hl2 (by rw [← hlen, ← List.drop_drop]; exact g2)
                      simp only [chkFields, ne_eq, hnm.1, not_false_eq_true, if_true, Sem.run_bind, p1, e1, Result.andThen_ok]
                      exact e2
                    · cases hs
                  · cases hs
          exact key n (Nat.le_refl _) fs.toList 0 l r (by omega) hl he
    · cases h
termination_by n => n
theorem find_sound {P : Program} {t : TypeId} {sh : Sh} (h : shOf P 40 t = some sh) (kv : Value) {w0 : World} {B : Nat} {φ : Phi} : ∀ (en : List MapEntry) (es : List (Nat × Value × AV)) (r : Option Nat) (w : World), en.length = es.length →
    (∀ (i : Nat) e x, en[i]? = some e → es[i]? = some x → e.born = x.1 ∧ e.key = x.2.1 ∧ Rep w0 B φ x.2.2 e.val) → xFind sh kv es = some r →
    (Instr.findKey t kv en).run P w = .ok (r.bind fun i => en[i]?.map fun e => (i, e.val)) w := by
  intro en es r w hl hr hf
  have ask : ∀ (en : List MapEntry) (es : List (Nat × Value × AV)) (r : Option Nat) (i : Nat), en.length = es.length →
      (∀ (i : Nat) e x, en[i]? = some e → es[i]? = some x → e.born = x.1 ∧ e.key = x.2.1 ∧ Rep w0 B φ x.2.2 e.val) → xFind sh kv es = some r →
      (Instr.findAsking t kv en i).run P w = .ok (r.bind fun j => en[j]?.map fun e => (i + j, e.val)) w := by
    intro en
    induction en with
    | nil =>
      intro es r i hl hr hf
      cases es with
      | nil => simp [xFind] at hf; subst hf; simp [Instr.findAsking]
      | cons => simp at hl
    | cons e en ih =>
      intro es r i hl hr hf
      cases es with
      | nil => simp at hl
      | cons x es =>
        obtain ⟨_, hk, _⟩ := hr 0 e x rfl rfl
        unfold xFind at hf
        split at hf
        · rename_i he
          simp at hf; subst hf
          have := eq_sound 40 t sh h 9999 _ _ _ _ true w (by omega) (rep_ofV (w0 := w0) (B := B) (φ := φ) kv) (rep_ofV x.2.1) he
          rw [← hk] at this
          simp [Instr.findAsking, Op.equal, Op.maxDepth, this]
        · rename_i he
          simp only [Option.map_eq_some_iff] at hf
          obtain ⟨r', hf, rfl⟩ := hf
          have := eq_sound 40 t sh h 9999 _ _ _ _ false w (by omega) (rep_ofV (w0 := w0) (B := B) (φ := φ) kv) (rep_ofV x.2.1) he
          rw [← hk] at this
          simp [Instr.findAsking, Op.equal, Op.maxDepth, this]
          rw [ih es r' (i + 1) (by simpa using hl) (fun j e' x' h1 h2 => hr (j + 1) e' x' (by simpa using h1) (by simpa using h2)) hf]
          cases r' with
          | none => simp
          | some j => simp; rw [show i + 1 + j = i + (j + 1) by omega]
        · cases hf
  have now : ∀ (d : TypeDesc) (k : Nat), P.underlying t = some d → ((d = .bool ∧ k = 0) ∨ (∃ q, d = .int q ∧ k = 1) ∨ (d = .string ∧ k = 2)) → sh = ⟨false, [k]⟩ → ∀ (en : List MapEntry) (es : List (Nat × Value × AV)) (r : Option Nat) (i : Nat), en.length = es.length →
      (∀ (i : Nat) e x, en[i]? = some e → es[i]? = some x → e.born = x.1 ∧ e.key = x.2.1 ∧ Rep w0 B φ x.2.2 e.val) → xFind sh kv es = some r →
      Instr.findNow d kv en i = some (r.bind fun j => en[j]?.map fun e => (i + j, e.val)) := by
    intro d k hu hk hsh en
    subst hsh
    induction en with
    | nil =>
      intro es r i hl hr hf
      cases es with
      | nil => simp [xFind] at hf; subst hf; simp [Instr.findNow]
      | cons => simp at hl
    | cons e en ih =>
      intro es r i hl hr hf
      cases es with
      | nil => simp at hl
      | cons x es =>
        obtain ⟨_, hkey, _⟩ := hr 0 e x rfl rfl
        have one : ∀ q, xEq ⟨false, [k]⟩ (ofV kv) (ofV x.2.1) = some q → Instr.sameNow d kv e.key = some q := by
          intro q hq
          have hq' : xEqs [k] [ofV kv] [ofV x.2.1] = some q := by
            unfold xEq at hq
            exact hq
          obtain ⟨a, b, xs, ys, p, q', e1, e2, h1, h2, rfl⟩ := xEqs_cons hq'
          obtain ⟨rfl, rfl, rfl⟩ := xEqs_nil h2
          simp at e1 e2
          have v1 : ∀ {y z : Value}, ofV y = .v z → y = z := by
            intro y z hyz
            unfold ofV at hyz
            split at hyz
            · cases hyz
            · simpa using hyz
          rw [v1 e1, hkey, v1 e2, Bool.and_true]
          exact (one_sound hu hk h1 0 w).2.1
        unfold xFind at hf
        split at hf
        · rename_i he
          simp at hf; subst hf
          simp [Instr.findNow, one _ he]
        · rename_i he
          simp only [Option.map_eq_some_iff] at hf
          obtain ⟨r', hf, rfl⟩ := hf
          simp only [Instr.findNow, one _ he]
          rw [ih es r' (i + 1) (by simpa using hl) (fun j e' x' h1 h2 => hr (j + 1) e' x' (by simpa using h1) (by simpa using h2)) hf]
          cases r' with
          | none => simp
          | some j => simp; rw [show i + 1 + j = i + (j + 1) by omega]
        · cases hf
  have hcase := h
  simp only [shOf] at hcase
  split at hcase
  · rename_i hu; simp at hcase; have := now _ 0 hu (.inl ⟨rfl, rfl⟩) hcase.symm en es r 0 hl hr hf; simpa using MapKept.run_findKey hu this
  · rename_i q hu; simp at hcase; have := now _ 1 hu (.inr (.inl ⟨q, rfl, rfl⟩)) hcase.symm en es r 0 hl hr hf; simpa using MapKept.run_findKey hu this
  · rename_i hu; simp at hcase; have := now _ 2 hu (.inr (.inr ⟨rfl, rfl⟩)) hcase.symm en es r 0 hl hr hf; simpa using MapKept.run_findKey hu this
  · rename_i fs hu
    rw [run_findKey_eq w (by rw [hu])]
    simpa using ask en es r 0 hl hr hf
  · cases hcase
theorem vals_sound {w0 : World} {B : Nat} : ∀ (cs : List AV) (l : List Value) (vs : List Value), vals cs = some l → cs.length = vs.length → (∀ (k : Nat) x v, cs[k]? = some x → vs[k]? = some v → Rep w0 B φ x v) → vs = l
  | [], l, vs, h, hl, _ => by
    simp [vals] at h
    subst h
    exact List.eq_nil_of_length_eq_zero hl.symm
  | x :: cs, l, vs, h, hl, hr => by
    cases vs with
    | nil => simp at hl
    | cons v vs =>
      cases x <;> simp only [vals] at h <;> (try (cases h; done))
      rename_i y
      split at h
      · simp only [Option.map_eq_some_iff] at h
        obtain ⟨l', h', rfl⟩ := h
        rw [vals_sound cs l' vs h' (by simpa using hl) (fun k x v h1 h2 => hr (k + 1) x v (by simpa using h1) (by simpa using h2)), rep_v' (hr 0 _ _ rfl rfl)]
      · cases h
theorem toV_sound {w0 : World} {B : Nat} {x : AV} {v kv : Value} (hx : Rep w0 B φ x v) (h : x.toV = some kv) : v = kv := by
  cases hx with
  | v y => simpa [AV.toV] using h
  | agg cs vs hl hr =>
    simp only [AV.toV, Option.map_eq_some_iff] at h
    obtain ⟨l, h1, rfl⟩ := h
    have := vals_sound cs l vs.toList h1 (by simpa using hl) (fun k x v h1 h2 => hr k x v h1 (by simpa using h2))
    rw [← this]
  | _ => cases h
theorem mapAt_sound (hw : RepW cx φ h w) {m : AV} {vm : Value} (hm : Rep cx.w0 cx.B φ m vm) {id c : Nat} {es : List (Nat × Value × AV)} (he : h.mapAt m = some (id, c, es)) :
    ∃ b n en, vm = .map (some b) ∧ h[id]? = some (.map c es) ∧ φ id 0 = some (b, n) ∧ w.heap[b]? = some (.map en c) ∧ en.size = es.length ∧ ∀ (i : Nat) e x, en[i]? = some e → es[i]? = some x → e.born = x.1 ∧ e.key = x.2.1 ∧ Rep cx.w0 cx.B φ x.2.2 e.val := by
  cases hm with
  | mp id' b n hφ =>
    simp only [AH.mapAt] at he
    split at he
    · rename_i c' es' ho
      simp at he
      obtain ⟨rfl, rfl, rfl⟩ := he
      obtain ⟨en, h1, h2, h3⟩ := hw.obj _ _ b n ho hφ
      exact ⟨b, n, en, rfl, ho, hφ, h1, h2, h3⟩
    · cases he
  | _ => cases he
theorem keyOk_check {P : Program} {t : TypeId} {sh : Sh} (h : shOf P 40 t = some sh) {kv : Value} (hk : keyOk sh kv = true) (em : Bool) (w : World) : (Instr.checkKey em 10000 t kv).run P w = .ok () w := by
  unfold keyOk at hk
  obtain ⟨r, hr⟩ := Option.isSome_iff_exists.1 hk
  exact check_sound (w0 := w) (B := 0) (φ := fun _ _ => none) 40 t sh h em 9999 _ _ r w (by omega) (rep_ofV kv) hr
theorem xMapT_some {P : Program} {t : TypeId} {sh : Sh} {z : Value} (h : xMapT P t = some (sh, z)) : ∃ k e, P.underlying t = some (.map k e) ∧ shOf P 40 k = some sh ∧ (P.info? e).bind (·.zero) = some z := by
  unfold xMapT at h
  split at h
  · rename_i k e hu
    split at h
    · rename_i h1 h2
      simp at h
      obtain ⟨rfl, rfl⟩ := h
      exact ⟨k, e, hu, h1, h2⟩
    · cases h
  · cases h
theorem lku_sound (hw : RepW cx φ h w) {t : TypeId} {sh : Sh} {z : Value} (hT : xMapT cx.P t = some (sh, z)) {ok : Bool} {m k r : AV} {vm vk : Value} (hm : Rep cx.w0 cx.B φ m vm) (hk : Rep cx.w0 cx.B φ k vk) (he : xLku h sh z ok m k = some r) :
    ∃ u, (Instr.lookup t vm vk ok).run cx.P w = .ok u w ∧ Rep cx.w0 cx.B φ r u := by
  obtain ⟨kt, et, hu, hsh, hz⟩ := xMapT_some hT
  simp only [xLku, Option.map_eq_some_iff] at he
  obtain ⟨⟨x, o⟩, he, hr⟩ := he
  simp only [xLk, Option.bind_eq_some_iff] at he
  obtain ⟨kv, hkv, he⟩ := he
  split at he
  · rename_i hok
    simp only [Option.bind_eq_some_iff, Option.map_eq_some_iff] at he
    obtain ⟨⟨id, c, es⟩, hat, fi, hfi, hx⟩ := he
    obtain ⟨b, n, en, rfl, ho, hφ, hb, hsz, hen⟩ := mapAt_sound hw hm hat
    have := toV_sound hk hkv
    subst this
    have hchk := keyOk_check hsh hok en.isEmpty w
    have hfind := find_sound hsh vk en.toList es fi w (by simpa using hsz) (fun i e x h1 h2 => hen i e x (by simpa using h1) h2) hfi
    have hget : (getObj b).run cx.P w = .ok (.map en c) w := MapKept.run_getObj_map hb
    have main : ∃ v, Rep cx.w0 cx.B φ x v ∧ (Instr.lookup t (.map (some b)) vk ok).run cx.P w = .ok (if ok then .tuple #[v, .bool o] else v) w := by
      have hzr : (zeroValue et).run cx.P w = .ok z w := run_zero_of hz w
      have none_ : (fi.bind fun i => en.toList[i]?.map fun e => (i, e.val)) = none → (x, o) = (ofV z, false) → ∃ v, Rep cx.w0 cx.B φ x v ∧ (Instr.lookup t (.map (some b)) vk ok).run cx.P w = .ok (if ok then .tuple #[v, .bool o] else v) w := by
        intro h1 h2
        rw [h1] at hfind
        simp at h2
        obtain ⟨rfl, rfl⟩ := h2
        refine ⟨z, rep_ofV z, ?_⟩
        simp [Instr.lookup, run_underlying_of hu, hget, hchk, hfind, hzr]
      cases fi with
      | none => exact none_ rfl (by simpa using hx.symm)
      | some i =>
        simp only at hx
        split at hx
        · rename_i e hei
          have hlt : i < en.size := by have := (List.getElem?_eq_some_iff.1 hei).1; omega
          obtain ⟨_, _, h3⟩ := hen i _ e (Array.getElem?_eq_getElem hlt) hei
          simp at hx
          obtain ⟨rfl, rfl⟩ := hx
          refine ⟨en[i].val, h3, ?_⟩
          have hfind' : (Instr.findKey kt vk en.toList).run cx.P w = .ok (some (i, en[i].val)) w := by rw [hfind]; simp [hlt]
          simp [Instr.lookup, run_underlying_of hu, hget, hchk, hfind']
        · rename_i hei
          refine none_ ?_ hx.symm
          simp at hei
          simp
          omega
    obtain ⟨v, hv, hrun⟩ := main
    refine ⟨_, hrun, ?_⟩
    subst hr
    cases ok with
    | false => simpa using hv
    | true =>
      refine .tup _ _ (by simp) ?_
      intro k y u hy hu
      match k with
      | 0 => simp at hy hu; subst hy; subst hu; exact hv
      | 1 => simp at hy hu; subst hy; subst hu; exact .v _
      | k + 2 => simp at hy
  · cases he
theorem Puts.setObj {o o' : Obj} (hb : w.heap[b]? = some o) : Puts w b o' { w with heap := w.heap.setIfInBounds b o' } := by
  have hlt : b < w.heap.size := (Array.getElem?_eq_some_iff.1 hb).1
  exact ⟨by simp, by simp [hlt], fun k hk => by simp [Ne.symm hk], rfl, rfl, rfl, Nat.le_refl _⟩
theorem sameOne_true {k : Nat} {a c : Value} (h : sameOne k a c = some true) : a = c ∧ Instr.sameBits 9999 a a = true ∧ Instr.sameBits 10000 a a = true := by
  unfold sameOne at h
  split at h
  · simp at h; subst h; simp [Instr.sameBits]
  · split at h
    · simp at h
      rename_i h1
      subst h1; subst h; simp [Instr.sameBits]
    · cases h
  · simp at h; subst h; simp [Instr.sameBits, (MapKept.bytes_beq _ _).2 rfl]
  · cases h
theorem and_true_of {p q : Bool} (h : true = (p && q)) : p = true ∧ q = true := by cases p <;> cases q <;> simp_all
theorem xEqs_true : ∀ {ks : List Nat} {xs ys : List AV}, xEqs ks xs ys = some true → xs = ys ∧ ∃ l : List Value, xs = l.map .v ∧ (∀ a ∈ l, Instr.sameBits 9999 a a = true)
  | [], xs, ys, h => by
    obtain ⟨rfl, rfl, _⟩ := xEqs_nil h
    exact ⟨rfl, [], rfl, by simp⟩
  | k :: ks, l, m, h => by
    obtain ⟨a, b, xs, ys, p, q, rfl, rfl, h1, h2, h3⟩ := xEqs_cons h
    obtain ⟨rfl, rfl⟩ := and_true_of h3
    obtain ⟨rfl, l, rfl, h4⟩ := xEqs_true h2
    obtain ⟨rfl, h5, _⟩ := sameOne_true h1
    exact ⟨rfl, a :: l, rfl, by
      intro x hx
      rcases List.mem_cons.1 hx with rfl | hx
      · exact h5
      · exact h4 _ hx⟩
theorem map_v_inj : ∀ {l m : List Value}, l.map AV.v = m.map AV.v → l = m
  | [], [], _ => rfl
  | [], _ :: _, h => by simp at h
  | _ :: _, [], h => by simp at h
  | a :: l, b :: m, h => by
    simp only [List.map_cons, List.cons.injEq, AV.v.injEq] at h
    rw [h.1, map_v_inj h.2]
theorem zip_all (f : Value → Value → Bool) : ∀ (l : List Value), (∀ a ∈ l, f a a = true) → (l.zip l).all (fun (x, y) => f x y) = true
  | [], _ => rfl
  | a :: l, h => by simp [h a (by simp), zip_all f l (fun x hx => h x (by simp [hx]))]
theorem key_same {sh : Sh} {kv key : Value} (h : xEq sh (ofV kv) (ofV key) = some true) : key = kv ∧ Instr.sameBits 10000 kv kv = true := by
  unfold xEq at h
  split at h
  · rename_i xs ys _ e1 e2
    have v2 : ∀ {y : Value} {l : List AV}, ofV y = .agg l → ∃ cs, y = .agg cs ∧ l = cs.toList.map .v := by
      intro y l hyl
      unfold ofV at hyl
      split at hyl
      · exact ⟨_, rfl, by simpa using hyl.symm⟩
      · cases hyl
    obtain ⟨c1, rfl, rfl⟩ := v2 e1
    obtain ⟨c2, rfl, rfl⟩ := v2 e2
    obtain ⟨h1, l, h2, h3⟩ := xEqs_true h
    have e3 := map_v_inj h1
    have e4 := map_v_inj h2
    have : c1 = c2 := by rw [← Array.toList_inj, e3]
    subst this
    refine ⟨rfl, ?_⟩
    rw [← e4] at h3
    unfold Instr.sameBits
    rw [zip_all (Instr.sameBits 9999) _ h3]
    simp
  · have hks : ∃ k ks, sh.ks = k :: ks := by
      cases hk : sh.ks with
      | nil => rw [hk] at h; have := xEqs_nil h; simp at this
      | cons k ks => exact ⟨k, ks, rfl⟩
    obtain ⟨k, ks, hk⟩ := hks
    rw [hk] at h
    obtain ⟨a, b, xs, ys, p, q, e1, e2, h1, h2, h3⟩ := xEqs_cons h
    obtain ⟨rfl, rfl⟩ := and_true_of h3
    simp at e1 e2
    have v1 : ∀ {y z : Value}, ofV y = .v z → y = z := by
      intro y z hyz
      unfold ofV at hyz
      split at hyz
      · cases hyz
      · simpa using hyz
    obtain ⟨rfl, _, h5⟩ := sameOne_true h1
    rw [v1 e1.1, v1 e2.1]
    exact ⟨rfl, h5⟩
  · cases h
theorem xFind_at {sh : Sh} {kv : Value} : ∀ {es : List (Nat × Value × AV)} {i : Nat}, xFind sh kv es = some (some i) → ∃ e, es[i]? = some e ∧ xEq sh (ofV kv) (ofV e.2.1) = some true
  | [], i, h => by simp [xFind] at h
  | e :: es, i, h => by
    unfold xFind at h
    split at h
    · rename_i he
      simp at h; subst h
      exact ⟨e, rfl, he⟩
    · simp only [Option.map_eq_some_iff] at h
      obtain ⟨o, h1, h2⟩ := h
      obtain ⟨j, rfl, rfl⟩ := h2
      obtain ⟨e', h3, h4⟩ := xFind_at h1
      exact ⟨e', by simpa using h3, h4⟩
    · cases h
theorem run_stays {P : Program} {kv : Value} (h : Instr.sameBits 10000 kv kv = true) (w : World) : (Instr.keyThatStays kv kv).run P w = .ok kv w := by
  unfold Instr.keyThatStays
  rw [if_pos h]
  rfl
theorem map_put (hw : RepW cx φ h w) {id c b : Nat} {n : Nat × Nat} {es : List (Nat × Value × AV)} {en : Array MapEntry} (ho : h[id]? = some (.map c es)) (hφ : φ id 0 = some (b, n)) (hb : w.heap[b]? = some (.map en c))
    {c' : Nat} {es' : List (Nat × Value × AV)} {en' : Array MapEntry} (hsz : en'.size = es'.length) (hen : ∀ (i : Nat) e x, en'[i]? = some e → es'[i]? = some x → e.born = x.1 ∧ e.key = x.2.1 ∧ Rep cx.w0 cx.B φ x.2.2 e.val) :
    ∃ w', (setObj b (.map en' c')).run cx.P w = .ok () w' ∧ RepW cx φ (h.set id (.map c' es')) w' ∧ Step φ h w φ (h.set id (.map c' es')) w' := by
  refine ⟨_, MapKept.run_setObj_map _ hb, ?_⟩
  exact hw.put ho rfl hφ (Puts.setObj hb) ⟨en', by
    have hlt : b < w.heap.size := (Array.getElem?_eq_some_iff.1 hb).1
    simp [hlt], hsz, hen⟩
theorem modify_at {α : Type} {f g : α → α} {en : Array α} {i j : Nat} {e : α} (h : (en.modify i f)[j]? = some e) : ∃ e0, en[j]? = some e0 ∧ e = if i = j then f e0 else e0 := by
  rw [Array.getElem?_modify] at h
  split at h
  · rename_i hij
    simp only [Option.map_eq_some_iff] at h
    obtain ⟨e0, h1, rfl⟩ := h
    exact ⟨e0, h1, by simp [hij]⟩
  · rename_i hij
    exact ⟨e, h, by simp [hij]⟩
theorem modify_atL {α : Type} {f : α → α} {l : List α} {i j : Nat} {e : α} (h : (l.modify i f)[j]? = some e) : ∃ e0, l[j]? = some e0 ∧ e = if i = j then f e0 else e0 := by
  rw [List.getElem?_modify] at h
  cases hl : l[j]? with
  | none => rw [hl] at h; simp at h
  | some e0 =>
    rw [hl] at h
    refine ⟨e0, rfl, ?_⟩
    split <;> simp_all
theorem mup_sound (hw : RepW cx φ h w) {t : TypeId} {sh : Sh} {z : Value} (hT : xMapT cx.P t = some (sh, z)) {m k x : AV} {vm vk vx : Value} (hm : Rep cx.w0 cx.B φ m vm) (hk : Rep cx.w0 cx.B φ k vk) (hx : Rep cx.w0 cx.B φ x vx) (he : xMup h sh m k x = some h') :
    ∃ w', (Instr.mapUpdate t vm vk vx).run cx.P w = .ok () w' ∧ RepW cx φ h' w' ∧ Step φ h w φ h' w' := by
  obtain ⟨kt, et, hu, hsh, hz⟩ := xMapT_some hT
  simp only [xMup, Option.bind_eq_some_iff] at he
  obtain ⟨kv, hkv, he⟩ := he
  split at he
  · rename_i hok
    simp only [Option.bind_eq_some_iff, Option.map_eq_some_iff] at he
    obtain ⟨⟨id, c, es⟩, hat, fi, hfi, he⟩ := he
    obtain ⟨b, n, en, rfl, ho, hφ, hb, hsz, hen⟩ := mapAt_sound hw hm hat
    have := toV_sound hk hkv
    subst this
    have hchk := keyOk_check hsh hok false w
    have hfind := find_sound hsh vk en.toList es fi w (by simpa using hsz) (fun i e x h1 h2 => hen i e x (by simpa using h1) h2) hfi
    have hget : (getObj b).run cx.P w = .ok (.map en c) w := MapKept.run_getObj_map hb
    cases fi with
    | none =>
      simp only at he
      subst he
      obtain ⟨w', h1, h2, h3⟩ := map_put hw ho hφ hb (c' := c + 1) (es' := es ++ [(c, vk, x)]) (en' := en.push { key := vk, val := vx, born := c }) (by simp [hsz]) (by
        intro i e y h1 h2
        rw [Array.getElem?_push] at h1
        rw [List.getElem?_append] at h2
        split at h1
        · rename_i hi
          simp at h1; subst h1
          rw [if_neg (by omega), show i - es.length = 0 by omega] at h2
          simp at h2; subst h2
          exact ⟨rfl, rfl, hx⟩
        · rename_i hi
          split at h2
          · exact hen i e y h1 h2
          · have := (Array.getElem?_eq_some_iff.1 h1).1
            omega)
      refine ⟨w', ?_, h2, h3⟩
      simp only [Option.bind_none] at hfind
      simp [Instr.mapUpdate, run_underlying_of hu, hget, hchk, hfind, h1]
    | some i =>
      simp only at he
      subst he
      obtain ⟨e, hei, heq⟩ := xFind_at hfi
      have hlt : i < en.size := by have := (List.getElem?_eq_some_iff.1 hei).1; simp only at this; omega
      obtain ⟨hk1, hk2⟩ := key_same heq
      obtain ⟨q1, q2, q3⟩ := hen i _ e (Array.getElem?_eq_getElem hlt) hei
      obtain ⟨w', h1, h2, h3⟩ := map_put hw ho hφ hb (c' := c) (es' := es.modify i fun e => (e.1, vk, x)) (en' := en.modify i fun e => { e with key := vk, val := vx }) (by simp [hsz]) (by
        intro j e y h1 h2
        obtain ⟨e0, g1, rfl⟩ := modify_at (g := fun e => e) h1
        obtain ⟨y0, g2, rfl⟩ := modify_atL h2
        obtain ⟨p1, p2, p3⟩ := hen j e0 y0 g1 g2
        split
        · exact ⟨p1, rfl, hx⟩
        · exact ⟨p1, p2, p3⟩)
      refine ⟨w', ?_, h2, h3⟩
      have hfind' : (Instr.findKey kt vk en.toList).run cx.P w = .ok (some (i, en[i].val)) w := by rw [hfind]; simp [hlt]
      have hkey : en[i].key = vk := by rw [q2, hk1]
      simp [Instr.mapUpdate, run_underlying_of hu, hget, hchk, hfind', hlt, hkey, run_stays hk2, h1]
  · cases he
theorem men_sound (hw : RepW cx φ h w) {t : TypeId} {sh : Sh} {z : Value} (hT : xMapT cx.P t = some (sh, z)) {m k r : AV} {vm vk : Value} (hm : Rep cx.w0 cx.B φ m vm) (hk : Rep cx.w0 cx.B φ k vk) (he : xMen h sh z m k = some (r, h')) :
    ∃ u w', (Instr.mapEntry t vm vk).run cx.P w = .ok u w' ∧ Rep cx.w0 cx.B φ r u ∧ RepW cx φ h' w' ∧ Step φ h w φ h' w' := by
  obtain ⟨kt, et, hu, hsh, hz⟩ := xMapT_some hT
  simp only [xMen, Option.bind_eq_some_iff] at he
  obtain ⟨kv, hkv, he⟩ := he
  split at he
  · rename_i hok
    simp only [Option.bind_eq_some_iff] at he
    obtain ⟨⟨id, c, es⟩, hat, fi, hfi, he⟩ := he
    obtain ⟨b, n, en, rfl, ho, hφ, hb, hsz, hen⟩ := mapAt_sound hw hm hat
    have := toV_sound hk hkv
    subst this
    have hchk := keyOk_check hsh hok false w
    have hfind := find_sound hsh vk en.toList es fi w (by simpa using hsz) (fun i e x h1 h2 => hen i e x (by simpa using h1) h2) hfi
    have hget : (getObj b).run cx.P w = .ok (.map en c) w := MapKept.run_getObj_map hb
    have pair : ∀ {x : AV} {v : Value} (q : Nat), Rep cx.w0 cx.B φ x v → Rep cx.w0 cx.B φ (.tup [x, .v (.int .i64 q)]) (.tuple #[v, goInt q]) := by
      intro x v q hx
      refine .tup _ _ (by simp) ?_
      intro k y u hy hu
      match k with
      | 0 => simp at hy hu; subst hy; subst hu; exact hx
      | 1 => simp at hy hu; subst hy; subst hu; exact .v _
      | k + 2 => simp at hy
    cases fi with
    | none =>
      simp at he
      obtain ⟨rfl, rfl⟩ := he
      have hzr : (zeroValue et).run cx.P w = .ok z w := run_zero_of hz w
      obtain ⟨w', h1, h2, h3⟩ := map_put hw ho hφ hb (c' := c + 1) (es' := es ++ [(c, vk, ofV z)]) (en' := en.push { key := vk, val := z, born := c }) (by simp [hsz]) (by
        intro i e y h1 h2
        rw [Array.getElem?_push] at h1
        rw [List.getElem?_append] at h2
        split at h1
        · rename_i hi
          simp at h1; subst h1
          rw [if_neg (by omega), show i - es.length = 0 by omega] at h2
          simp at h2; subst h2
          exact ⟨rfl, rfl, rep_ofV z⟩
        · rename_i hi
          split at h2
          · exact hen i e y h1 h2
          · have := (Array.getElem?_eq_some_iff.1 h1).1
            omega)
      refine ⟨_, w', ?_, pair c (rep_ofV z), h2, h3⟩
      simp only [Option.bind_none] at hfind
      simp [Instr.mapEntry, run_underlying_of hu, hget, hchk, hfind, hzr, h1]
    | some i =>
      simp only [Option.map_eq_some_iff, Prod.mk.injEq] at he
      obtain ⟨e, hei, rfl, rfl⟩ := he
      obtain ⟨e', hei', heq⟩ := xFind_at hfi
      have hlt : i < en.size := by have := (List.getElem?_eq_some_iff.1 hei).1; omega
      rw [hei] at hei'
      simp at hei'
      subst hei'
      obtain ⟨hk1, hk2⟩ := key_same heq
      obtain ⟨q1, q2, q3⟩ := hen i _ e (Array.getElem?_eq_getElem hlt) hei
      obtain ⟨w', h1, h2, h3⟩ := map_put hw ho hφ hb (c' := c) (es' := es.modify i fun e => (e.1, vk, e.2.2)) (en' := en.modify i fun e => { e with key := vk }) (by simp [hsz]) (by
        intro j e y h1 h2
        obtain ⟨e0, g1, rfl⟩ := modify_at (g := fun e => e) h1
        obtain ⟨y0, g2, rfl⟩ := modify_atL h2
        obtain ⟨p1, p2, p3⟩ := hen j e0 y0 g1 g2
        split
        · exact ⟨p1, rfl, p3⟩
        · exact ⟨p1, p2, p3⟩)
      refine ⟨.tuple #[en[i].val, goInt e.1], w', ?_, pair e.1 q3, h2, h3⟩
      have hfind' : (Instr.findKey kt vk en.toList).run cx.P w = .ok (some (i, en[i].val)) w := by rw [hfind]; simp [hlt]
      have hkey : en[i].key = vk := by rw [q2, hk1]
      simp [Instr.mapEntry, run_underlying_of hu, hget, hchk, hfind', hlt, hkey, run_stays hk2, h1, q1]
  · cases he
theorem findIdx_same {f : MapEntry → Bool} {g : (Nat × Value × AV) → Bool} : ∀ {en : List MapEntry} {es : List (Nat × Value × AV)}, en.length = es.length → (∀ (i : Nat) e x, en[i]? = some e → es[i]? = some x → f e = g x) → en.findIdx? f = es.findIdx? g
  | [], [], _, _ => rfl
  | [], _ :: _, h, _ => by simp at h
  | _ :: _, [], h, _ => by simp at h
  | e :: en, x :: es, h, hh => by
    have h0 := hh 0 e x rfl rfl
    have ih := findIdx_same (en := en) (es := es) (by simpa using h) (fun i e x h1 h2 => hh (i + 1) e x (by simpa using h1) (by simpa using h2))
    simp only [List.findIdx?_cons, h0, ih]
theorem mes_sound (hw : RepW cx φ h w) {t : TypeId} {m st x : AV} {vm vs vx : Value} (hm : Rep cx.w0 cx.B φ m vm) (hs : Rep cx.w0 cx.B φ st vs) (hx : Rep cx.w0 cx.B φ x vx) (he : xMes h m st x = some h') :
    ∃ w', (Instr.entryStore t vm vs vx).run cx.P w = .ok () w' ∧ RepW cx φ h' w' ∧ Step φ h w φ h' w' := by
  unfold xMes at he
  split at he
  · rename_i q p
    simp only [Option.bind_eq_some_iff, Option.map_eq_some_iff] at he
    obtain ⟨⟨id, c, es⟩, hat, i, hi, he⟩ := he
    obtain ⟨b, n, en, rfl, ho, hφ, hb, hsz, hen⟩ := mapAt_sound hw hm hat
    rw [rep_v' hs]
    simp only at he hi
    subst he
    have hget : (getObj b).run cx.P w = .ok (.map en c) w := MapKept.run_getObj_map hb
    have hidx : en.findIdx? (fun e => (e.born : Int) == p) = some i := by
      rw [show en.findIdx? (fun e => (e.born : Int) == p) = en.toList.findIdx? (fun e => (e.born : Int) == p) by cases en; simp, findIdx_same (f := fun e => (e.born : Int) == p) (g := fun e => decide ((e.1 : Int) = p)) (es := es) (by simpa using hsz) (fun j e y h1 h2 => by
        rw [(hen j e y (by simpa using h1) h2).1, beq_dec])]
      exact hi
    obtain ⟨w', h1, h2, h3⟩ := map_put hw ho hφ hb (c' := c) (es' := es.modify i fun e => (e.1, e.2.1, x)) (en' := en.modify i fun e => { e with val := vx }) (by simp [hsz]) (by
      intro j e y h1 h2
      obtain ⟨e0, g1, rfl⟩ := modify_at (g := fun e => e) h1
      obtain ⟨y0, g2, rfl⟩ := modify_atL h2
      obtain ⟨p1, p2, p3⟩ := hen j e0 y0 g1 g2
      split
      · exact ⟨p1, p2, hx⟩
      · exact ⟨p1, p2, p3⟩)
    refine ⟨w', ?_, h2, h3⟩
    simp [Instr.entryStore, hget, asInt, asIntOf, hidx, h1]
  · cases he
theorem del_sound (hw : RepW cx φ h w) {t ty : TypeId} {argT : Array TypeId} (ha : argT[0]? = some t) {sh : Sh} {z : Value} (hT : xMapT cx.P t = some (sh, z)) {m k : AV} {vm vk : Value} (hm : Rep cx.w0 cx.B φ m vm) (hk : Rep cx.w0 cx.B φ k vk) (he : xDel h sh m k = some h') :
    ∃ w', (Builtin.delete_ argT ty #[vm, vk]).run cx.P w = .ok (.tuple #[]) w' ∧ RepW cx φ h' w' ∧ Step φ h w φ h' w' := by
  obtain ⟨kt, et, hu, hsh, hz⟩ := xMapT_some hT
  simp only [xDel, Option.bind_eq_some_iff] at he
  obtain ⟨kv, hkv, he⟩ := he
  split at he
  · rename_i hok
    simp only [Option.bind_eq_some_iff, Option.map_eq_some_iff] at he
    obtain ⟨⟨id, c, es⟩, hat, fi, hfi, he⟩ := he
    obtain ⟨b, n, en, rfl, ho, hφ, hb, hsz, hen⟩ := mapAt_sound hw hm hat
    have := toV_sound hk hkv
    subst this
    have hchk := keyOk_check hsh hok en.isEmpty w
    have hfind := find_sound hsh vk en.toList es fi w (by simpa using hsz) (fun i e x h1 h2 => hen i e x (by simpa using h1) h2) hfi
    have hget : (getObj b).run cx.P w = .ok (.map en c) w := MapKept.run_getObj_map hb
    cases fi with
    | none =>
      simp only at he
      subst he
      obtain ⟨w', h1, h2, h3⟩ := map_put hw ho hφ hb (c' := c) (es' := es) (en' := en) hsz hen
      rw [show h.set id (.map c es) = h from List.ext_getElem? fun j => by
        by_cases hj : id = j
        · subst hj
          rw [List.getElem?_set_self (List.getElem?_eq_some_iff.1 ho).1, ho]
        · rw [List.getElem?_set_ne hj]] at h2 h3
      refine ⟨w', ?_, h2, h3⟩
      simp only [Option.bind_none] at hfind
      simp [Builtin.delete_, ha, run_underlying_of hu, hget, hchk, hfind, h1]
    | some i =>
      simp only at he
      subst he
      obtain ⟨e, hei, heq⟩ := xFind_at hfi
      have hlt : i < en.size := by have := (List.getElem?_eq_some_iff.1 hei).1; simp only at this; omega
      obtain ⟨w', h1, h2, h3⟩ := map_put hw ho hφ hb (c' := c) (es' := es.eraseIdx i) (en' := en.eraseIdxIfInBounds i) (by
          simp only [Array.eraseIdxIfInBounds, hlt, dif_pos, Array.size_eraseIdx, List.length_eraseIdx]
          rw [if_pos (by omega), hsz]) (by
        intro j e y h1 h2
        simp only [Array.eraseIdxIfInBounds, hlt, dif_pos] at h1
        rw [Array.getElem?_eraseIdx] at h1
        rw [List.getElem?_eraseIdx] at h2
        split at h1
        · rename_i hj
          rw [if_pos hj] at h2
          exact hen _ e y h1 h2
        · rename_i hj
          rw [if_neg hj] at h2
          exact hen _ e y h1 h2)
      refine ⟨w', ?_, h2, h3⟩
      have hfind' : (Instr.findKey kt vk en.toList).run cx.P w = .ok (some (i, en[i].val)) w := by rw [hfind]; simp [hlt]
      simp [Builtin.delete_, ha, run_underlying_of hu, hget, hchk, hfind', h1]
  · cases he
theorem lenm_sound (hw : RepW cx φ h w) {t k e ty : TypeId} (hu : cx.P.underlying t = some (.map k e)) {x r : AV} {v : Value} (hx : Rep cx.w0 cx.B φ x v) (he : xLenM h x = some r) :
    ∃ u, (Builtin.len_ #[t] ty #[v]).run cx.P w = .ok u w ∧ Rep cx.w0 cx.B φ r u := by
  unfold xLenM at he
  split at he
  · simp at he
    subst he
    rw [rep_v' hx]
    exact ⟨_, by simp [Builtin.len_, run_underlying_of hu, goInt], .v _⟩
  · simp only [Option.map_eq_some_iff] at he
    obtain ⟨⟨id, c, es⟩, hat, rfl⟩ := he
    obtain ⟨b, n, en, rfl, ho, hφ, hb, hsz, hen⟩ := mapAt_sound hw hx hat
    have hget : (getObj b).run cx.P w = .ok (.map en c) w := MapKept.run_getObj_map hb
    exact ⟨_, by simp [Builtin.len_, run_underlying_of hu, hget, goInt, hsz], .v _⟩
theorem mkm_sound (hw : RepW cx φ h w) {t k e : TypeId} (hu : cx.P.underlying t = some (.map k e)) (r : Option Value) (hr : ∀ v, r = some v → ∃ q n, v = .int q n) :
    ∃ u w' φ', (Instr.makeMap t r).run cx.P w = .ok u w' ∧ Rep cx.w0 cx.B φ' (.mp h.length) u ∧ RepW cx φ' (h ++ [.map 0 []]) w' ∧ Step φ h w φ' (h ++ [.map 0 []]) w' := by
  have ha := Adds.alloc w (.map #[] 0)
  obtain ⟨g1, g2⟩ := hw.new hw.hB ha (.map 0 []) rfl (0, 0) (fun φ' _ => ⟨#[], ha.new, rfl, fun i e x h1 => by simp at h1⟩)
  refine ⟨.map (some w.heap.size), w.alloc (.map #[] 0), _, ?_, .mp _ _ _ (newPhi_self _ _ _ _ _), g1, g2⟩
  have hnew : (newObj (.map #[] 0)).run cx.P w = .ok w.heap.size (w.alloc (.map #[] 0)) := rfl
  cases r with
  | none => simp [Instr.makeMap, hnew]
  | some v =>
    obtain ⟨q, n, rfl⟩ := hr v rfl
    simp [Instr.makeMap, run_underlying_of hu, asInt, asIntOf, hnew]
theorem seq_sound {t : TypeId} {sh : Sh} (hsh : shOf cx.P 40 t = some sh) (hg : cx.P.eqGuardType cx.P.depth t = false) (hagg : sh.agg = true) (eq : Bool) {x y : AV} {v u : Value} {r : Bool} (w : World) (p q : Operand) (hx : Rep cx.w0 cx.B φ x v) (hy : Rep cx.w0 cx.B φ y u) (he : xEq sh x y = some r) :
    (do eqGuard (if eq then .eql else .neq) t p q v u; binOp (if eq then .eql else .neq) t v u : Sem Value).run cx.P w = .ok (.bool (if eq then r else !r)) w := by
  have heq := eq_sound 40 t sh hsh 9999 x y v u r w (by omega) hx hy he
  obtain ⟨xs, ys, rfl, rfl, _⟩ := xEq_agg (l := sh.ks) (x := x) (y := y) (r := r) (by rw [← he]; cases sh; simp at hagg; subst hagg; rfl)
  cases hx with
  | agg _ vs hlx hrx =>
    cases hy with
    | agg _ us hly hry =>
      have hg' : ∀ op, (eqGuard op t p q (.agg vs) (.agg us)).run cx.P w = .ok () w := fun op => run_eqGuard_agg w op t p q vs us hg
      cases eq with
      | true => simp [hg', run_eql_struct, heq]
      | false => simp [hg', run_neq_struct, heq]
theorem bts_sound (hw : RepW cx φ h w) {src d e : TypeId} (h1 : cx.P.underlying src = some .string) (h2 : cx.P.underlying d = some (.slice e)) (h3 : isU8 cx.P e = true) (bs : ByteArray) :
    ∃ u w' φ', (convert src d (.string bs)).run cx.P w = .ok u w' ∧ Rep cx.w0 cx.B φ' (.sl h.length 0 0 bs.size 1) u ∧ RepW cx φ' (h ++ [.froz (bs.data.toList.map fun c => .v (.int .u8 c.toNat))]) w' ∧ Step φ h w φ' (h ++ [.froz (bs.data.toList.map fun c => .v (.int .u8 c.toNat))]) w' := by
  have hu : cx.P.underlying e = some (.int .u8) := by
    unfold isU8 at h3
    split at h3
    · assumption
    · cases h3
  obtain ⟨c, hc, hcap⟩ := run_cap cx.P bs.size 0 e w
  have hcells : ∃ cells : Array Value, cells = (bs.data.map fun b => Value.int .u8 b.toNat) ++ Array.replicate (c - bs.size) (.int .u8 0) := ⟨_, rfl⟩
  obtain ⟨cells, hce⟩ := hcells
  have hbsz : bs.data.size = bs.size := rfl
  have hcs : cells.size = c := by rw [hce]; simp [hbsz]; omega
  have hobj : ∃ w', (convert src d (.string bs)).run cx.P w = .ok (.slice (some ⟨w.heap.size, 0, none⟩) bs.size c) w' ∧ Adds w (.cells cells e (cells.size, cells.size + 1)) w' := by
    refine ⟨(w.drew.alloc (.cells cells e)).freeze { block := w.heap.size, off := cells.size } 1, ?_, ?_⟩
    · have hsh : (shape w.heap.size).run cx.P (w.drew.alloc (.cells cells e)) = .ok (some (e, cells.size)) (w.drew.alloc (.cells cells e)) := by
        simp only [shape, Sem.run]
        have : (w.drew.alloc (.cells cells e)).heap[w.heap.size]? = some (.cells cells e) := (drewAdds w (.cells cells e)).new
        simp only [World.shape?]
        rw [this]
      simp only [convert, Sem.run_bind, run_underlying_of h1, run_underlying_of h2, run_underlying_of hu, Result.andThen_ok, Conv.stringToBytes, hcap, ← hce, run_newRow, markStringish, freeze, Sem.run, pure]
      have hsz : w.drew.heap.size = w.heap.size := rfl
      simp only [hsz, hsh, Result.andThen_ok, Sem.run_bind, Sem.run, freeze]
    · refine ⟨?_, rfl, rfl, rfl, Nat.le_succ _⟩
      have hh : (w.drew.alloc (.cells cells e)).heap = w.heap.push (.cells cells e) := rfl
      simp only [World.freeze, Nat.one_ne_zero, if_false, hh]
      apply Array.ext_getElem?
      intro i
      rw [Array.getElem?_modify, Array.getElem?_push, Array.getElem?_push]
      by_cases hi : i = w.heap.size
      · subst hi
        simp
      · rw [if_neg (by omega), if_neg hi, if_neg hi]
  obtain ⟨w', hrun, ha⟩ := hobj
  have hl : (bs.data.toList.map fun c => AV.v (.int .u8 c.toNat)).length = bs.size := by simp [hbsz]
  have hget : ∀ (k : Nat) x v, (bs.data.toList.map fun c => AV.v (.int .u8 c.toNat))[k]? = some x → cells[k]? = some v → x = .v v ∧ v.oneCell' = true := by
    intro k x v hx hv
    have hk : k < bs.data.size := by have := (List.getElem?_eq_some_iff.1 hx).1; simpa using this
    rw [hce, Array.getElem?_append_left (by simpa using hk)] at hv
    simp at hx hv
    obtain ⟨a, ha1, rfl⟩ := hx
    obtain ⟨a', ha2, rfl⟩ := hv
    rw [ha1] at ha2
    cases ha2
    exact ⟨rfl, rfl⟩
  obtain ⟨g1, g2⟩ := hw.new hw.hB ha (.froz (bs.data.toList.map fun c => AV.v (.int .u8 c.toNat))) rfl (bs.size, cells.size)
    (fun φ' _ => ⟨by rw [hl], cells, e, _, ha.new, rfl, by rw [hl]; omega, fun k x v hx hv => by rw [(hget k x v hx hv).1]; exact .v _, fun k v hk hv => by
      obtain ⟨x, hx⟩ : ∃ x, (bs.data.toList.map fun c => AV.v (.int .u8 c.toNat))[k]? = some x := ⟨_, List.getElem?_eq_getElem hk⟩
      exact (hget k x v hx hv).2⟩)
  exact ⟨_, w', _, hrun, .sl _ _ _ _ _ _ _ _ (newPhi_self _ _ _ _ _) (by simp) (by simp; omega) hc (by simp; omega), g1, g2⟩
theorem xBytes_sound {w0 : World} {B : Nat} : ∀ (cs : List AV) (l : List UInt8) (vs : List Value), xBytes cs = some l → cs.length = vs.length → (∀ (k : Nat) x v, cs[k]? = some x → vs[k]? = some v → Rep w0 B φ x v) →
    ∃ ns : List Int, vs = ns.map (.int .u8 ·) ∧ l = ns.map fun n => UInt8.ofNat n.toNat
  | [], l, vs, h, hl, _ => by
    simp [xBytes] at h
    subst h
    exact ⟨[], by simpa using List.eq_nil_of_length_eq_zero hl.symm, rfl⟩
  | x :: cs, l, vs, h, hl, hr => by
    cases vs with
    | nil => simp at hl
    | cons v vs =>
      unfold xBytes at h
      split at h
      · rename_i heq; cases heq
      · rename_i n r heq
        simp only [Option.map_eq_some_iff] at h
        obtain ⟨l', h', rfl⟩ := h
        cases heq
        obtain ⟨ns, rfl, rfl⟩ := xBytes_sound cs l' vs h' (by simpa using hl) (fun k x v h1 h2 => hr (k + 1) x v (by simpa using h1) (by simpa using h2))
        exact ⟨n :: ns, by rw [rep_v' (hr 0 _ _ rfl rfl)]; rfl, rfl⟩
      · cases h
theorem run_pushes {P : Program} {w : World} {f : Value → ByteArray → Sem (ForInStep ByteArray)} (hf : ∀ n s, f (.int .u8 n) s = pure (.yield (s.push (UInt8.ofNat n.toNat)))) : ∀ (ns : List Int) (a : Array UInt8),
    (forIn (m := Sem) (ns.map (Value.int .u8 ·)) (⟨a⟩ : ByteArray) f).run P w = .ok ⟨a ++ (ns.map fun n => UInt8.ofNat n.toNat).toArray⟩ w
  | [], a => by simp
  | n :: ns, a => by
    have ih := run_pushes (P := P) (w := w) hf ns (a.push (UInt8.ofNat n.toNat))
    simp only [List.map_cons, List.forIn_cons, hf, Sem.run_bind, Sem.run_pure, Result.andThen_ok]
    have : (⟨a⟩ : ByteArray).push (UInt8.ofNat n.toNat) = ⟨a.push (UInt8.ofNat n.toNat)⟩ := rfl
    rw [this, ih]
    congr 2
    simp
theorem stb_sound (hw : RepW cx φ h w) {src d e : TypeId} (h1 : cx.P.underlying src = some (.slice e)) (h2 : cx.P.underlying d = some .string) (h3 : isU8 cx.P e = true) {x r : AV} {v : Value} (hx : Rep cx.w0 cx.B φ x v) (he : xStb h x = some r) :
    ∃ u, (convert src d v).run cx.P w = .ok u w ∧ Rep cx.w0 cx.B φ r u := by
  have hu : cx.P.underlying e = some (.int .u8) := by
    unfold isU8 at h3
    split at h3
    · assumption
    · cases h3
  unfold xStb at he
  split at he
  · cases he
  · rename_i hns
    simp only [Option.bind_eq_some_iff, Option.map_eq_some_iff] at he
    obtain ⟨⟨m, cells⟩, hrows, l, hl, rfl⟩ := he
    obtain ⟨q1, q2, q3⟩ := rows_sound hw (by omega) hx hrows
    obtain ⟨us, q4, q5, _, q6⟩ := q3 m (Nat.le_refl _)
    obtain ⟨ns, e1, rfl⟩ := xBytes_sound cells l us.toList hl (by simp; omega) (fun k x v h1 h2 => q6 k x v h1 (by simpa using h2))
    refine ⟨.string ⟨(ns.map fun n => UInt8.ofNat n.toNat).toArray⟩, ?_, .v _⟩
    have hv : (∃ A c, v = .slice (some A) m c) ∨ (∃ q c, v = .slice none q c) := by
      cases hx with
      | sl id ver off len sz' b n cap hφ h1 h2 h3 h4 =>
        simp only [Builtin.lenOf, pure, Sem.run, Result.ok.injEq] at q2
        exact .inl ⟨_, _, by rw [q2.1]⟩
      | ro sz' n f A cap b o c hcap hA hf hc hc1 hr =>
        simp only [Builtin.lenOf, pure, Sem.run, Result.ok.injEq] at q2
        cases A with
        | none => exact .inr ⟨_, _, rfl⟩
        | some A => exact .inl ⟨_, _, by rw [q2.1]⟩
      | v =>
        cases v <;> simp only [xRows] at hrows <;> (try (cases hrows; done))
        case string bs => exact (hns bs rfl).elim
        case slice A q c =>
          cases A with
          | none => exact .inr ⟨_, _, rfl⟩
          | some A => simp at hrows
      | _ => simp [xRows] at hrows
    rcases hv with ⟨A, c, rfl⟩ | ⟨q, c, rfl⟩
    · simp only [Builtin.firstCells, Nat.mul_one] at q4
      simp only [convert, Sem.run_bind, run_underlying_of h1, run_underlying_of h2, run_underlying_of hu, Result.andThen_ok, Conv.bytesToString, q4]
      rw [← Array.forIn_toList, e1]
      rw [show ByteArray.empty = ⟨#[]⟩ from rfl]
      rw [run_pushes (fun n s => rfl) ns #[]]
      simp
    · simp only [Builtin.firstCells] at q4
      simp only [pure, Sem.run, Result.ok.injEq] at q4
      have : us = #[] := q4.1.symm
      subst this
      simp at e1
      subst e1
      simp only [convert, Sem.run_bind, run_underlying_of h1, run_underlying_of h2, run_underlying_of hu, Result.andThen_ok, Conv.bytesToString]
      rfl
theorem sno_sound {t e : TypeId} (hu : cx.P.underlying t = some (.slice e)) (eq : Bool) {x : AV} {v : Value} {r : Bool} (w : World) (p q : Operand) (hx : Rep cx.w0 cx.B φ x v) (he : xNo x = some r) (n c : Nat) :
    (do eqGuard (if eq then .eql else .neq) t p q v (.slice none n c); binOp (if eq then .eql else .neq) t v (.slice none n c) : Sem Value).run cx.P w = .ok (.bool (if eq then r else !r)) w := by
  obtain ⟨A, n1, c1, rfl⟩ : ∃ A n c, v = .slice A n c := by
    cases hx with
    | sl => exact ⟨_, _, _, rfl⟩
    | ro => exact ⟨_, _, _, rfl⟩
    | v =>
      unfold xNo at he
      split at he
      · rename_i h; cases h; exact ⟨_, _, _, rfl⟩
      · rename_i h; cases h
      · rename_i h; cases h
      · cases he
    | _ => cases he
  have hr : r = A.isNone := by
    cases hx with
    | sl => simp [xNo] at he; subst he; rfl
    | ro sz n f A cap b o c hcap hA hf hc h1 hr =>
      simp only [xNo] at he
      split at he
      · rename_i hn
        simp at he
        obtain ⟨rfl, _⟩ := hA hn
        subst he
        rfl
      · cases he
    | v y =>
      cases A with
      | none => simp [xNo] at he; subst he; rfl
      | some A => simp [xNo] at he
    | un => cases he
  subst hr
  have hq : (Op.equal t (.slice A n1 c1) (.slice none n c)).run cx.P w = .ok A.isNone w := by
    have hd : ∀ d, (Op.equalIn (d + 1) t (.slice A n1 c1) (.slice none n c)).run cx.P w = .ok A.isNone w := by
      intro d
      simp only [Op.equalIn, Sem.run_bind, run_underlying_of hu, Result.andThen_ok]
      cases A <;> rfl
    exact hd 9999
  have hg : ∀ op, (eqGuard op t p q (.slice A n1 c1) (.slice none n c)).run cx.P w = .ok () w := by
    intro op
    unfold eqGuard
    cases op <;> rfl
  cases eq with
  | true =>
    have hb : binOp .eql t (.slice A n1 c1) (.slice none n c) = (do pure (.bool (← Op.equal t (.slice A n1 c1) (.slice none n c)))) := rfl
    simp [hg, hb, hq]
  | false =>
    have hb : binOp .neq t (.slice A n1 c1) (.slice none n c) = (do pure (.bool (!(← Op.equal t (.slice A n1 c1) (.slice none n c))))) := rfl
    simp [hg, hb, hq]
end Go.Eng
namespace Go.Eng
open Go.RowKit
variable {cx : Cx} {φ φ' : Phi} {h' : AH} {w : World} {s : XSt} {a : Act}
theorem rep_v {w0 : World} {B : Nat} {u v : Value} (h : Rep w0 B φ (.v u) v) : v = u := by cases h; rfl
theorem all_mem {z : Value} (hz : z.cells.all (·.oneCell') = true) : ∀ v ∈ z.cells.toList, v.oneCell' = true := by
  intro v hv
  obtain ⟨k, hk, rfl⟩ := List.getElem_of_mem hv
  have := Array.all_eq_true.1 hz k (by simpa using hk)
  simpa using this
theorem mx_sound {mn : Bool} {x y r : AV} {v u : Value} (w : World) (hx : Rep cx.w0 cx.B φ x v) (hy : Rep cx.w0 cx.B φ y u) (he : xMx mn x y = some r) :
    ∃ z, (if mn then Builtin.min_ #[] 0 #[v, u] else Builtin.max_ #[] 0 #[v, u]).run cx.P w = .ok z w ∧ Rep cx.w0 cx.B φ r z := by
  unfold xMx at he
  split at he
  · split at he
    · simp at he
      subst he
      cases hx
      cases hy
      refine ⟨_, ?_, .v _⟩
      cases mn <;> simp [Builtin.min_, Builtin.max_, Builtin.min2, Builtin.max2]
    · cases he
  · cases he
theorem call_sound {c : Call} {bi : Builtin} {ty : TypeId} {x : XOp} {r : AV} (hs : RepSt cx φ s a w) (hc : c.callee = .builtin bi) (hx : xCall cx.P bi c.argTypes.toList c.args.toList = some x) (he : xev cx s x = some (r, h')) :
    Good cx φ s.h w r h' (do let d ← resolve a.eval c ty; invoke d.target d.args) := by
  have hr : ∀ (q : Sem Next), builtin bi c.argTypes ty (c.args.map fun | .const _ => true | _ => false) (c.args.map a.eval) = q → Good cx φ s.h w r h' q → Good cx φ s.h w r h' (do let d ← resolve a.eval c ty; invoke d.target d.args) := by
    rintro q rfl hg
    obtain ⟨nx, v, w', φ', h1, h2⟩ := hg
    refine ⟨nx, v, w', φ', ?_, h2⟩
    simp only [resolve, hc, pure_bind, invoke]
    exact h1
  unfold xCall at hx
  split at hx
  ·
    rename_i t x0 hts hxs
    have e1 : c.argTypes = #[t] := by rw [← Array.toList_inj, hts]
    have e2 : c.args = #[x0] := by rw [← Array.toList_inj, hxs]
    refine hr _ rfl ?_
    simp only [e1, e2, builtin]
    have hv := hs.ev x0
    split at hx
    · rename_i hu
      simp at hx
      subst hx
      simp only [xev, Option.map_eq_some_iff, Prod.mk.injEq] at he
      obtain ⟨v, hl, rfl, rfl⟩ := he
      obtain ⟨st, e, rfl⟩ := lenS_sound (cx := cx) hv hl
      exact Good.of1 hs.world ⟨_, by simp [Builtin.len_, e, run_underlying_of hu, goInt], .v _⟩
    · rename_i el hu
      simp at hx
      subst hx
      simp only [xev, Option.map_eq_some_iff, Prod.mk.injEq] at he
      obtain ⟨v, hl, rfl, rfl⟩ := he
      obtain ⟨A, m, cp, e, rfl⟩ := lenL_sound (cx := cx) hv hl
      exact Good.of1 hs.world ⟨_, by simp [Builtin.len_, e, run_underlying_of hu, goInt], .v _⟩
    · rename_i m el hu
      simp at hx
      subst hx
      simp only [xev, Option.some.injEq, Prod.mk.injEq] at he
      obtain ⟨rfl, rfl⟩ := he
      refine Good.of1 hs.world ⟨_, ?_, .v _⟩
      simp [Builtin.len_, run_underlying_of hu, goInt]
    · rename_i k el hu
      simp at hx
      subst hx
      simp only [xev, Option.map_eq_some_iff, Prod.mk.injEq] at he
      obtain ⟨v, hl, rfl, rfl⟩ := he
      have e3 : Array.map a.eval #[x0] = #[a.eval x0] := by simp
      rw [e3]
      exact Good.of1 hs.world (lenm_sound hs.world hu hv hl)
    · cases hx
  ·
    rename_i t ts m0 k0 hts hxs
    have e2 : c.args = #[m0, k0] := by rw [← Array.toList_inj, hxs]
    refine hr _ rfl ?_
    simp only [Option.map_eq_some_iff] at hx
    obtain ⟨⟨sh, z⟩, hT, rfl⟩ := hx
    simp only [xev, Option.map_eq_some_iff, Prod.mk.injEq] at he
    obtain ⟨hh, hl, rfl, rfl⟩ := he
    have e3 : Array.map a.eval #[m0, k0] = #[a.eval m0, a.eval k0] := by simp
    simp only [e2, builtin, e3]
    obtain ⟨w', h1, h2, h3⟩ := del_sound (argT := c.argTypes) (ty := ty) hs.world (by rw [← Array.getElem?_toList, hts]; rfl) hT (hs.ev m0) (hs.ev k0) hl
    exact Good.of ⟨_, w', φ, h1, .tup [] #[] rfl (fun k x v h => by simp at h), h2, h3⟩
  ·
    rename_i t u x0 y0 hts hxs
    have e1 : c.argTypes = #[t, u] := by rw [← Array.toList_inj, hts]
    have e2 : c.args = #[x0, y0] := by rw [← Array.toList_inj, hxs]
    refine hr _ rfl ?_
    simp only [e1, e2, builtin]
    split at hx
    · rename_i e e' hu hu2
      simp only [Option.map_eq_some_iff] at hx
      obtain ⟨j, hj, rfl⟩ := hx
      have e3 : Array.map a.eval #[x0, y0] = #[a.eval x0, a.eval y0] := by simp
      rw [e3]
      exact Good.of (append_sound hs.world hu (.inl ⟨_, hu2⟩) hj (hs.ev x0) (hs.ev y0) he)
    · rename_i e hu hu2
      simp only [Option.map_eq_some_iff] at hx
      obtain ⟨j, hj, rfl⟩ := hx
      have e3 : Array.map a.eval #[x0, y0] = #[a.eval x0, a.eval y0] := by simp
      rw [e3]
      exact Good.of (append_sound hs.world hu (.inr hu2) hj (hs.ev x0) (hs.ev y0) he)
    · cases hx
  ·
    rename_i t u x0 y0 hts hxs
    have e1 : c.argTypes = #[t, u] := by rw [← Array.toList_inj, hts]
    have e2 : c.args = #[x0, y0] := by rw [← Array.toList_inj, hxs]
    refine hr _ rfl ?_
    simp only [e1, e2, builtin]
    split at hx
    · rename_i e hu
      simp only [Option.map_eq_some_iff] at hx
      obtain ⟨j, hj, rfl⟩ := hx
      obtain ⟨q, w', h1, h2, h3, h4⟩ := copy_sound (u := u) (ty := ty) hs.world hu hj (hs.ev x0) (hs.ev y0) he
      have e3 : Array.map a.eval #[x0, y0] = #[a.eval x0, a.eval y0] := by simp
      rw [e3]
      exact Good.of ⟨q, w', φ, h1, h2, h3, h4⟩
    · cases hx
  ·
    rename_i ts x0 y0 hxs
    have e2 : c.args = #[x0, y0] := by rw [← Array.toList_inj, hxs]
    refine hr _ rfl ?_
    simp at hx
    subst hx
    simp only [xev, Option.map_eq_some_iff, Prod.mk.injEq] at he
    obtain ⟨v, hl, rfl, rfl⟩ := he
    simp only [e2, builtin]
    obtain ⟨z, h1, h2⟩ := mx_sound (cx := cx) w (hs.ev x0) (hs.ev y0) hl
    exact Good.of1 hs.world ⟨z, by simpa [Builtin.max_] using h1, h2⟩
  ·
    rename_i ts x0 y0 hxs
    have e2 : c.args = #[x0, y0] := by rw [← Array.toList_inj, hxs]
    refine hr _ rfl ?_
    simp at hx
    subst hx
    simp only [xev, Option.map_eq_some_iff, Prod.mk.injEq] at he
    obtain ⟨v, hl, rfl, rfl⟩ := he
    simp only [e2, builtin]
    obtain ⟨z, h1, h2⟩ := mx_sound (cx := cx) w (hs.ev x0) (hs.ev y0) hl
    exact Good.of1 hs.world ⟨z, by simpa [Builtin.min_] using h1, h2⟩
  · cases hx
theorem xev_sound {o : Oper} {x : XOp} {r : AV} (hs : RepSt cx φ s a w) (hx : xop cx.P o.op = some x) (he : xev cx s x = some (r, h')) : Good cx φ s.h w r h' (execOp a.eval o) := by
  have hw := hs.world
  obtain ⟨dst, op, ty, pos, after, guard⟩ := o
  simp only at hx
  unfold xop at hx
  split at hx
  ·
    simp at hx; subst hx
    simp only [xev, Option.some.injEq, Prod.mk.injEq] at he
    obtain ⟨rfl, rfl⟩ := he
    exact Good.quiet hw rfl (hs.ev _)
  ·
    simp at hx; subst hx
    simp only [xev, Option.some.injEq, Prod.mk.injEq] at he
    obtain ⟨rfl, rfl⟩ := he
    exact Good.quiet hw rfl (hs.ev _)
  ·
    rename_i c p q
    simp at hx; subst hx
    simp only [xev] at he
    have hc := hs.ev c
    split at he
    · rename_i t hct
      simp at he
      obtain ⟨rfl, rfl⟩ := he
      rw [hct] at hc
      generalize hcv : a.eval c = cv at hc
      cases hc
      refine Good.quiet hw (v := if t then a.eval p else a.eval q) ?_ ?_
      · simp [execOp, hcv, asBool]
      · cases t
        · exact hs.ev q
        · exact hs.ev p
    · cases he
  ·
    rename_i t
    simp only [Option.bind_eq_some_iff] at hx
    obtain ⟨z, hz, hx⟩ := hx
    split at hx
    · rename_i h1
      simp at hx; subst hx
      simp only [xev, Option.some.injEq, Prod.mk.injEq] at he
      obtain ⟨rfl, rfl⟩ := he
      have hzr : (zeroValue t).run cx.P w = .ok z w := run_zero_of (Option.bind_eq_some_iff.2 hz) w
      have hvv : ∀ (k : Nat) x v, (z.cells.toList.map AV.v)[k]? = some x → z.cells[k]? = some v → x = .v v := by
        intro k x v hx hv
        rw [List.getElem?_map, Array.getElem?_toList, hv] at hx
        simpa using hx.symm
      refine Good.newObj hw (us := z.cells) (T := t) (by simp) (fun k x v hx hv => by rw [hvv k x v hx hv]; exact .v _) (fun k v _ hv => all_mem h1 v (Array.mem_toList_iff.2 (Array.mem_of_getElem? hv)))
        (v := .pointer (some ⟨w.heap.size, 0, none⟩)) (w' := w.alloc (.cells z.cells t)) (Adds.alloc _ _) ?_ (fun φ' hφ => .ptr _ _ _ _ _ hφ)
      simp [execOp, Instr.alloc, hzr, newVar, run_newRow]
    · cases hx
  ·
    rename_i t x0
    simp at hx; subst hx
    simp only [xev, Option.map_eq_some_iff, Prod.mk.injEq] at he
    obtain ⟨cs, hc, rfl, rfl⟩ := he
    obtain ⟨c1, c2, c3⟩ := cells_sound (hs.ev x0) hc
    refine Good.newObj hw (us := (a.eval x0).cells) (T := t) (by omega) c3 (fun k v _ hv => c2 v (Array.mem_toList_iff.2 (Array.mem_of_getElem? hv)))
      (v := .pointer (some ⟨w.heap.size, 0, none⟩)) (w' := w.alloc (.cells (a.eval x0).cells t)) (Adds.alloc _ _) ?_ (fun φ' hφ => .ptr _ _ _ _ _ hφ)
    simp [execOp, Instr.box, newVar, run_newRow]
  ·
    rename_i t x0
    simp only [Option.bind_eq_some_iff] at hx
    obtain ⟨c, hc, hx⟩ := hx
    cases c with
    | true =>
      simp only [if_true, Option.map_eq_some_iff] at hx
      obtain ⟨i, hi, rfl⟩ := hx
      simp only [xev, Option.map_eq_some_iff, Prod.mk.injEq] at he
      obtain ⟨v, hl, rfl, rfl⟩ := he
      exact Good.of1 hw (load_sound hw (hs.ev x0) hc (fun _ => hi) (by simpa using hl))
    | false =>
      simp at hx; subst hx
      simp only [xev, Option.map_eq_some_iff, Prod.mk.injEq] at he
      obtain ⟨v, hl, rfl, rfl⟩ := he
      exact Good.of1 hw (load_sound (i := default) hw (hs.ev x0) hc (fun h => by cases h) (by simpa using hl))
  ·
    rename_i t p q
    simp only [Option.map_eq_some_iff] at hx
    obtain ⟨i, hi, rfl⟩ := hx
    simp only [xev, Option.map_eq_some_iff, Prod.mk.injEq] at he
    obtain ⟨hh, hl, rfl, rfl⟩ := he
    obtain ⟨w', h1, h2, h3⟩ := store_sound hw (hs.ev p) (hs.ev q) hi hl
    exact ⟨.skip, undef, w', φ, by simp [execOp, h1], .inr ⟨rfl, rfl⟩, .und, h2, h3⟩
  ·
    rename_i x0
    simp at hx; subst hx
    simp only [xev] at he
    have hv := hs.ev x0
    generalize hvv : a.eval x0 = v at hv
    split at he
    · rename_i h1
      simp at he
      obtain ⟨rfl, rfl⟩ := he
      rw [h1] at hv ⊢
      refine Good.quiet hw (v := v) ?_ hv
      cases hv
      simp [execOp, hvv]
    · rename_i h1
      simp at he
      obtain ⟨rfl, rfl⟩ := he
      rw [h1] at hv ⊢
      refine Good.quiet hw (v := v) ?_ hv
      cases hv
      simp [execOp, hvv]
    · rename_i h1
      simp at he
      obtain ⟨rfl, rfl⟩ := he
      rw [h1] at hv ⊢
      refine Good.quiet hw (v := v) ?_ hv
      cases hv
      simp [execOp, hvv]
    · cases he
  ·
    rename_i op t p q ty'
    have hp := hs.ev p
    have hq := hs.ev q
    have hbin : ∀ h, xev cx s (.bin op (opd p) (opd q)) = some (r, h) → Good cx φ s.h w r h (execOp a.eval ⟨dst, .binOp op t p q ty', ty, pos, after, guard⟩) := by
      intro h he
      simp only [xev] at he
      split at he
      · rename_i u v h1 h2
        simp only [Option.map_eq_some_iff, Prod.mk.injEq] at he
        obtain ⟨z, hz, rfl, rfl⟩ := he
        rw [h1] at hp
        rw [h2] at hq
        have e1 : a.eval p = u := rep_v hp
        have e2 : a.eval q = v := rep_v hq
        refine Good.of1 hw ⟨z, ?_, .v _⟩
        rw [e1, e2]
        exact bin_sound hz w p q
      · cases he
    split at hx
    · simp at hx; subst hx; exact hbin _ he
    · simp at hx; subst hx; exact hbin _ he
    · rename_i hu
      have hbeq : ∀ (eq : Bool) h, op = (if eq then .eql else .neq) → xev cx s (.beq eq (opd p) (opd q)) = some (r, h) → Good cx φ s.h w r h (execOp a.eval ⟨dst, .binOp op t p q ty', ty, pos, after, guard⟩) := by
        rintro eq h rfl he
        simp only [xev] at he
        split at he
        · rename_i u v h1 h2
          simp at he
          obtain ⟨rfl, rfl⟩ := he
          rw [h1] at hp
          rw [h2] at hq
          have e1 : a.eval p = .bool u := rep_v hp
          have e2 : a.eval q = .bool v := rep_v hq
          refine Good.of1 hw ⟨_, ?_, .v _⟩
          rw [e1, e2]
          exact beq_sound hu w p q
        · cases he
      split at hx
      · simp at hx; subst hx; exact hbeq true _ rfl he
      · simp at hx; subst hx; exact hbeq false _ rfl he
      · cases hx
    · rename_i fs hu
      split at hx
      · cases hx
      · rename_i hg
        have hseq : ∀ (eq : Bool) sh h, op = (if eq then .eql else .neq) → shOf cx.P 40 t = some sh → xev cx s (.seq eq sh (opd p) (opd q)) = some (r, h) → Good cx φ s.h w r h (execOp a.eval ⟨dst, .binOp op t p q ty', ty, pos, after, guard⟩) := by
          rintro eq sh h rfl hsh he
          simp only [xev, Option.map_eq_some_iff, Prod.mk.injEq] at he
          obtain ⟨b, hb, rfl, rfl⟩ := he
          have hagg : sh.agg = true := by
            have := (shOf_agg hsh).1
            unfold isAggB at this
            rw [hu] at this
            simpa using this.symm
          exact Good.of1 hw ⟨_, seq_sound hsh (by simpa using hg) hagg eq w p q hp hq hb, .v _⟩
        split at hx
        · simp only [Option.map_eq_some_iff] at hx
          obtain ⟨sh, hsh, rfl⟩ := hx
          exact hseq true sh _ rfl hsh he
        · simp only [Option.map_eq_some_iff] at hx
          obtain ⟨sh, hsh, rfl⟩ := hx
          exact hseq false sh _ rfl hsh he
        · cases hx
    · rename_i el hu
      split at hx
      · rename_i hno
        have hsno : ∀ (eq : Bool) h, op = (if eq then .eql else .neq) → xev cx s (.sno eq (opd p)) = some (r, h) → Good cx φ s.h w r h (execOp a.eval ⟨dst, .binOp op t p q ty', ty, pos, after, guard⟩) := by
          rintro eq h rfl he
          simp only [xev, Option.map_eq_some_iff, Prod.mk.injEq] at he
          obtain ⟨b, hb, rfl, rfl⟩ := he
          obtain ⟨n, c, rfl⟩ : ∃ n c, q = .const (.slice none n c) := by
            unfold nilOk at hno
            split at hno
            · exact ⟨_, _, rfl⟩
            · cases hno
          exact Good.of1 hw ⟨_, sno_sound hu eq w p _ hp hb n c, .v _⟩
        split at hx
        · simp at hx; subst hx; exact hsno true _ rfl he
        · simp at hx; subst hx; exact hsno false _ rfl he
        · cases hx
      · cases hx
    · cases hx
  ·
    rename_i op t x0
    simp at hx; subst hx
    have hv := hs.ev x0
    simp only [xev] at he
    split at he
    · rename_i u h1
      simp only [Option.map_eq_some_iff, Prod.mk.injEq] at he
      obtain ⟨z, hz, rfl, rfl⟩ := he
      rw [h1] at hv
      have e1 : a.eval x0 = u := rep_v hv
      refine Good.of1 hw ⟨z, ?_, .v _⟩
      rw [e1]
      exact un_sound hz w
    · cases he
  ·
    rename_i src d x0
    have hv := hs.ev x0
    split at hx
    · rename_i k1 k h1 h2
      simp at hx; subst hx
      simp only [xev] at he
      split at he
      · rename_i m n h3
        simp at he
        obtain ⟨rfl, rfl⟩ := he
        rw [h3] at hv
        have e1 : a.eval x0 = .int m n := rep_v hv
        refine Good.of1 hw ⟨_, ?_, .v _⟩
        simp [convert, run_underlying_of h1, run_underlying_of h2, e1, Conv.intToInt]
      · cases he
    · rename_i h1 h2
      simp at hx; subst hx
      simp only [xev] at he
      split at he
      · rename_i bs h3
        simp at he
        obtain ⟨rfl, rfl⟩ := he
        rw [h3] at hv
        have e1 : a.eval x0 = .string bs := rep_v hv
        refine Good.of1 hw ⟨_, ?_, .v _⟩
        simp [convert, run_underlying_of h1, run_underlying_of h2, e1]
      · cases he
    · rename_i e h1 h2
      split at hx
      · rename_i h3
        simp at hx; subst hx
        simp only [xev] at he
        split at he
        · rename_i bs h4
          simp at he
          obtain ⟨rfl, rfl⟩ := he
          rw [h4] at hv
          have e1 : a.eval x0 = .string bs := rep_v hv
          refine Good.of ?_
          rw [e1]
          exact bts_sound hw h1 h2 h3 bs
        · cases he
      · cases hx
    · rename_i e h1 h2
      split at hx
      · rename_i h3
        simp at hx; subst hx
        simp only [xev, Option.map_eq_some_iff, Prod.mk.injEq] at he
        obtain ⟨v, hl, rfl, rfl⟩ := he
        exact Good.of1 hw (stb_sound hw h1 h2 h3 hv hl)
      · cases hx
    · cases hx
  ·
    rename_i t
    split at hx
    · rename_i k e hu
      simp at hx; subst hx
      simp only [xev, Option.map_none, Option.some.injEq, Prod.mk.injEq] at he
      obtain ⟨rfl, rfl⟩ := he
      exact Good.of (mkm_sound hw hu none (fun v h => by cases h))
    · cases hx
  ·
    rename_i t x0
    split at hx
    · rename_i k e hu
      simp at hx; subst hx
      have hv := hs.ev x0
      simp only [xev, Option.map_some] at he
      split at he
      · rename_i h1; cases h1
      · rename_i q n h1
        simp at he
        obtain ⟨rfl, rfl⟩ := he
        simp at h1
        rw [h1] at hv
        have e1 : a.eval x0 = .int q n := rep_v hv
        refine Good.of ?_
        exact mkm_sound hw hu _ (fun v h => by simp at h; exact ⟨q, n, by rw [← h, e1]⟩)
      · cases he
    · cases hx
  ·
    rename_i t m0 k0 ok
    simp only [Option.map_eq_some_iff] at hx
    obtain ⟨⟨sh, z⟩, hT, rfl⟩ := hx
    simp only [xev, Option.map_eq_some_iff, Prod.mk.injEq] at he
    obtain ⟨v, hl, rfl, rfl⟩ := he
    exact Good.of1 hw (lku_sound hw hT (hs.ev m0) (hs.ev k0) hl)
  ·
    rename_i t m0 k0 x0
    simp only [Option.map_eq_some_iff] at hx
    obtain ⟨⟨sh, z⟩, hT, rfl⟩ := hx
    simp only [xev, Option.map_eq_some_iff, Prod.mk.injEq] at he
    obtain ⟨hh, hl, rfl, rfl⟩ := he
    obtain ⟨w', h1, h2, h3⟩ := mup_sound hw hT (hs.ev m0) (hs.ev k0) (hs.ev x0) hl
    exact ⟨.skip, undef, w', φ, by simp [execOp, h1], .inr ⟨rfl, rfl⟩, .und, h2, h3⟩
  ·
    rename_i t m0 k0 x0
    simp only [Option.map_eq_some_iff] at hx
    obtain ⟨⟨sh, z⟩, hT, rfl⟩ := hx
    simp only [xev, Option.map_eq_some_iff, Prod.mk.injEq] at he
    obtain ⟨hh, hl, rfl, rfl⟩ := he
    obtain ⟨w', h1, h2, h3⟩ := mup_sound hw hT (hs.ev m0) (hs.ev k0) (hs.ev x0) hl
    exact ⟨.skip, undef, w', φ, by simp [execOp, h1], .inr ⟨rfl, rfl⟩, .und, h2, h3⟩
  ·
    rename_i t m0 k0
    simp only [Option.map_eq_some_iff] at hx
    obtain ⟨⟨sh, z⟩, hT, rfl⟩ := hx
    obtain ⟨u, w', h1, h2, h3, h4⟩ := men_sound hw hT (hs.ev m0) (hs.ev k0) he
    exact Good.of ⟨u, w', φ, h1, h2, h3, h4⟩
  ·
    rename_i t m0 s0 x0
    simp at hx; subst hx
    simp only [xev, Option.map_eq_some_iff, Prod.mk.injEq] at he
    obtain ⟨hh, hl, rfl, rfl⟩ := he
    obtain ⟨w', h1, h2, h3⟩ := mes_sound (t := t) hw (hs.ev m0) (hs.ev s0) (hs.ev x0) hl
    exact ⟨.skip, undef, w', φ, by simp [execOp, h1], .inr ⟨rfl, rfl⟩, .und, h2, h3⟩
  ·
    rename_i f first captured
    split at hx
    · rename_i h1
      simp at hx; subst hx
      simp only [xev, Option.some.injEq, Prod.mk.injEq] at he
      obtain ⟨rfl, rfl⟩ := he
      have hf : first = #[] := by simpa using h1
      refine Good.of1 hw ⟨.func (.func f) #[] (captured.map a.eval), by simp [Instr.makeFunc, hf, Sem.run, pure], .fn _ _ _ (by simp) ?_⟩
      intro k x v hx hv
      simp only [List.getElem?_map, Array.getElem?_toList, Array.getElem?_map] at hx hv
      cases hc : captured[k]? with
      | none => simp [hc] at hx
      | some y =>
        simp [hc] at hx hv
        subst hx; subst hv
        exact hs.ev y
    · cases hx
  ·
    rename_i t x0 lo hi
    split at hx
    · rename_i e hu
      simp only [Option.map_eq_some_iff] at hx
      obtain ⟨j, hj, rfl⟩ := hx
      simp only [xev, Option.map_eq_some_iff, Prod.mk.injEq] at he
      obtain ⟨v, hl, rfl, rfl⟩ := he
      exact Good.of1 hw (sls_sound hw hu hj (hs.ev x0) (repOpt_ev hs lo) (repOpt_ev hs hi) hl)
    · rename_i hu
      simp at hx; subst hx
      simp only [xev, Option.map_eq_some_iff, Prod.mk.injEq] at he
      obtain ⟨v, hl, rfl, rfl⟩ := he
      exact Good.of1 hw (slt_sound hu w (hs.ev x0) (repOpt_ev hs lo) (repOpt_ev hs hi) hl)
    · rename_i m e hu
      simp only [Option.map_eq_some_iff] at hx
      obtain ⟨j, hj, rfl⟩ := hx
      simp only [xev, Option.map_eq_some_iff, Prod.mk.injEq] at he
      obtain ⟨v, hl, rfl, rfl⟩ := he
      exact Good.of1 hw (sla_sound hw hu hj (hs.ev x0) (repOpt_ev hs lo) (repOpt_ev hs hi) hl)
    · cases hx
  ·
    rename_i t x0 f
    split at hx
    · rename_i fs hu
      simp only [Option.bind_eq_some_iff] at hx
      obtain ⟨fd, hf, i, hi, hx⟩ := hx
      split at hx
      · cases hx
      · rename_i hz
        simp at hx; subst hx
        simp only [xev, Option.map_eq_some_iff, Prod.mk.injEq] at he
        obtain ⟨v, hl, rfl, rfl⟩ := he
        exact Good.of1 hw (fad_sound hu hf hi hz w (hs.ev x0) hl)
    · cases hx
  ·
    rename_i t x0 f
    split at hx
    · rename_i fs hu
      simp only [Option.bind_eq_some_iff] at hx
      obtain ⟨fd, hf, c, hc, hx⟩ := hx
      cases c with
      | true =>
        simp only [if_true, Option.map_eq_some_iff] at hx
        obtain ⟨i, hi, rfl⟩ := hx
        simp only [xev, Option.map_eq_some_iff, Prod.mk.injEq] at he
        obtain ⟨v, hl, rfl, rfl⟩ := he
        exact Good.of1 hw (fld_sound hu hf hc (fun _ => hi) w (hs.ev x0) (by simpa using hl))
      | false =>
        simp at hx; subst hx
        simp only [xev, Option.map_eq_some_iff, Prod.mk.injEq] at he
        obtain ⟨v, hl, rfl, rfl⟩ := he
        exact Good.of1 hw (fld_sound (i := default) hu hf hc (fun h => by cases h) w (hs.ev x0) (by simpa using hl))
    · cases hx
  ·
    rename_i t x0 i0
    split at hx
    · rename_i e hu
      simp only [Option.map_eq_some_iff] at hx
      obtain ⟨j, hj, rfl⟩ := hx
      simp only [xev, Option.map_eq_some_iff, Prod.mk.injEq] at he
      obtain ⟨v, hl, rfl, rfl⟩ := he
      exact Good.of1 hw (iad_sound hu hj w (hs.ev x0) (hs.ev i0) hl)
    · rename_i m e hu
      simp only [Option.map_eq_some_iff] at hx
      obtain ⟨j, hj, rfl⟩ := hx
      simp only [xev, Option.map_eq_some_iff, Prod.mk.injEq] at he
      obtain ⟨v, hl, rfl, rfl⟩ := he
      exact Good.of1 hw (iaa_sound hu hj w (hs.ev x0) (hs.ev i0) hl)
    · cases hx
  ·
    rename_i t x0 i0
    have hv := hs.ev x0
    have hi := hs.ev i0
    split at hx
    · rename_i hu
      simp at hx; subst hx
      simp only [xev] at he
      split at he
      · rename_i bs k i h1 h2
        rw [h1] at hv
        rw [h2] at hi
        have e1 : a.eval x0 = .string bs := rep_v hv
        have e2 : a.eval i0 = .int k i := rep_v hi
        split at he
        · rename_i hc
          simp at he
          obtain ⟨rfl, rfl⟩ := he
          refine Good.of1 hw ⟨_, ?_, .v _⟩
          rw [e1, e2]
          simp [Instr.index, asIntOf, run_underlying_of hu, hc.1, hc.2]
        · cases he
      · cases he
    · cases hx
  ·
    rename_i x0 i
    have hv := hs.ev x0
    simp at hx; subst hx
    simp only [xev] at he
    split at he
    · rename_i cs h1
      simp only [Option.map_eq_some_iff, Prod.mk.injEq] at he
      obtain ⟨v, hl, rfl, rfl⟩ := he
      rw [h1] at hv
      generalize hvv : a.eval x0 = u at hv
      cases hv with
      | tup _ vs hlen hr =>
        have hlt : i < vs.size := by have := (List.getElem?_eq_some_iff.1 hl).1; omega
        refine Good.of1 hw ⟨vs[i], ?_, hr i _ _ hl (Array.getElem?_eq_getElem hlt)⟩
        rw [hvv]
        simp [Instr.extract, hlt, Sem.run, pure]
    · cases he
  ·
    rename_i t parts
    split at hx
    · rename_i fs z hu hz
      split at hx
      · rename_i h1
        simp only [Option.bind_eq_some_iff, Option.map_eq_some_iff] at hx
        obtain ⟨pl, hpl, ps, hps, rfl⟩ := hx
        simp only [xev, Option.map_eq_some_iff, Prod.mk.injEq] at he
        obtain ⟨cs, hcs, rfl, rfl⟩ := he
        obtain ⟨q1, q2⟩ := parts_sound hs parts.toList ps hps
        obtain ⟨u, g1, g2⟩ := build_sound hw hu (by simpa using hz) hpl (all_mem h1) q1 q2 hcs
        refine Good.of1 hw ⟨u, ?_, g2⟩
        rw [← g1]
        congr 2
        apply Array.ext'
        simp
      · cases hx
    · cases hx
  ·
    rename_i t len parts
    split at hx
    · rename_i e hu
      simp only [Option.bind_eq_some_iff] at hx
      obtain ⟨j, hj, hx⟩ := hx
      split at hx
      · rename_i hlen
        simp at hx; subst hx
        simp only [xev, Option.map_eq_some_iff, Prod.mk.injEq] at he
        obtain ⟨cs, hcs, rfl, rfl⟩ := he
        have := bsl_sound hw hu hj hlen (ps := parts.toList.map fun p => (p.1, a.eval p.2)) (xs := parts.toList.map fun p => (p.1, s.ev cx (opd p.2))) (by simp)
          (by
            intro k p x hp hx
            simp only [List.getElem?_map] at hp hx
            cases hq : parts.toList[k]? with
            | none => simp [hq] at hp
            | some q =>
              simp [hq] at hp hx
              subst hp; subst hx
              exact ⟨rfl, hs.ev _⟩) (cs := cs) (by rw [← hcs]; simp [List.map_map, Function.comp_def])
        have e : (parts.toList.map fun p => (p.1, a.eval p.2)).toArray = parts.map fun p => (p.1, a.eval p.2) := by apply Array.ext'; simp
        rw [e] at this
        exact this
      · cases hx
    · cases hx
  ·
    rename_i t l c
    split at hx
    · rename_i e hu
      simp only [Option.map_eq_some_iff] at hx
      obtain ⟨j, hj, rfl⟩ := hx
      exact make_sound hw hu hj (hs.ev l) (hs.ev c) he
    · cases hx
  ·
    rename_i c
    split at hx
    · rename_i bi hc
      exact call_sound hs hc hx he
    · cases hx
  · cases hx
end Go.Eng
namespace Go.Eng
open Go.RowKit
def callable (P : Program) (f : FuncId) : Bool :=
  match P.funcs[f]? with
  | some fn => !(fn.name == "runtime.NumGoroutine") && fn.body.isSome
  | none => false
def SimCall (cx : Cx) (f : FuncId) (args : List AV) (h : AH) (Q : AV → AH → Prop) : Prop :=
  callable cx.P f = true ∧ ∀ (φ : Phi) (w : World) (vs : Array Value), args.length = vs.size → (∀ (k : Nat) x v, args[k]? = some x → vs[k]? = some v → Rep cx.w0 cx.B φ x v) → RepW cx φ h w →
    Calls cx.P f vs w fun e w' => ∃ v r h' φ', e = .returned v ∧ Rep cx.w0 cx.B φ' r v ∧ RepW cx φ' h' w' ∧ Step φ h w φ' h' w' ∧ Q r h'
theorem SimCall.mono {cx : Cx} {f : FuncId} {args : List AV} {h : AH} {Q Q' : AV → AH → Prop} (hc : SimCall cx f args h Q) (hq : ∀ r h', Q r h' → Q' r h') : SimCall cx f args h Q' :=
  ⟨hc.1, fun φ w vs h1 h2 h3 => (hc.2 φ w vs h1 h2 h3).mono fun _ _ ⟨v, r, h', φ', e, a, b, c, d⟩ => ⟨v, r, h', φ', e, a, b, c, hq _ _ d⟩⟩
inductive XBody where
  | op (x : XOp)
  | call (f : XO) (args : List XO)
structure XI where
  dst : Option Nat
  guard : Option (Nat × Bool)
  body : XBody
inductive XCode where
  | skip
  | reg (l : List XI)
  | drw (sl : Option (List Nat)) (l : List XI)
  | seq (a b : XCode)
  | cond (c : XO) (a b : XCode)
  | block (id : Nat) (c : XCode)
  | loop (c : XCode)
  | exit (id : Nat)
  | ret
inductive XEx where
  | n
  | x (id : Nat)
  | r
def XEx.out : XEx → Exit
  | .n => .normal
  | .x id => .exit id
  | .r => .ret
def xguard (ops : Array Oper) : Option (Nat × Bool) → Option (Option (Nat × Bool))
  | none => some none
  | some (j, b) => ((ops[j]?).bind (·.dst)).map fun t => some (t, b)
def xbody (P : Program) : Op → Option XBody
  | .call c => match c.callee with
    | .value f => some (.call (opd f) (c.args.toList.map opd))
    | _ => (xop P (.call c)).map .op
  | o => (xop P o).map .op
def xi (P : Program) (ops : Array Oper) (o : Oper) : Option XI :=
  match xguard ops o.guard, xbody P o.op with
  | some g, some b => some ⟨o.dst, g, b⟩
  | _, _ => none
def xis (P : Program) (ops : Array Oper) : List Oper → Option (List XI)
  | [] => some []
  | o :: r => match xi P ops o, xis P ops r with
    | some i, some l => some (i :: l)
    | _, _ => none
def XSt.put (s : XSt) (d : Option Nat) (x : AV) (h : AH) : XSt := ⟨match d with | some t => s.fr.set t x | none => s.fr, h⟩
def wi (cx : Cx) (i : XI) (s : XSt) (K : XSt → Prop) : Prop :=
  match i.body with
  | .op x => ∃ r h, xev cx s x = some (r, h) ∧ K (s.put i.dst r h)
  | .call f args => ∃ g caps, s.ev cx f = .fn g caps ∧ SimCall cx g (args.map (s.ev cx) ++ caps) s.h fun r h => K (s.put i.dst r h)
def wl (cx : Cx) : List XI → XSt → (XSt → Prop) → Prop
  | [], s, K => K s
  | i :: r, s, K => match i.guard with
    | none => wi cx i s fun s' => wl cx r s' K
    | some (t, b) => match s.fr.getD t .un with
      | .v (.bool c) => (c = b → wi cx i s fun s' => wl cx r s' K) ∧ (c = !b → wl cx r (s.put i.dst .und s.h) K)
      | .und => wl cx r (s.put i.dst .und s.h) K
      | _ => False
section
variable {cx : Cx} {ops : Array Oper}
def SimL (cx : Cx) (ops : Array Oper) (l : List Nat) (s : XSt) (K : XSt → Prop) : Prop :=
  ∀ (φ : Phi) (a : Act) (w : World) (Q : Exit → Act → World → Prop), RepSt cx φ s a w →
    (∀ φ' s' a' w', RepSt cx φ' s' a' w' → Step φ s.h w φ' s'.h w' → K s' → Q .normal a' w') → wpOps cx.P ops Q l a w
theorem rep_und {w0 : World} {B : Nat} {φ : Phi} {v : Value} (h : Rep w0 B φ .und v) : v = undef := by cases h; rfl
theorem put_rep {φ φ' : Phi} {s : XSt} {a : Act} {w w' : World} {h' : AH} (hs : RepSt cx φ s a w) (he : Ext φ φ') (hw : RepW cx φ' h' w') (d : Option Nat) {x : AV} {v : Value} (hx : Rep cx.w0 cx.B φ' x v) :
    RepSt cx φ' (s.put d x h') (a.put d v) w' := hs.put he hw d hx
theorem callFunc_run {P : Program} {f : FuncId} (hc : callable P f = true) (args : Array Value) (w : World) : (callFunc f args).run P w = .ok (.enter f args) w := by
  unfold callable at hc
  split at hc
  · rename_i fn hf
    rw [Bool.and_eq_true] at hc
    have h1 : (fn.name == "runtime.NumGoroutine") = false := by simpa using hc.1
    have h2 : fn.body.isNone = false := by cases hb : fn.body with | none => simp [hb] at hc | some c => rfl
    simp only [callFunc, Sem.run_bind, program, Sem.run, Result.andThen_ok, hf, h1, h2, Bool.false_eq_true, if_false]
    rfl
  · cases hc
theorem wi_sound {o : Oper} {b : XBody} {g : Option (Nat × Bool)} {s : XSt} {K : XSt → Prop} {φ : Phi} {a : Act} {w : World} (hb : xbody cx.P o.op = some b) (hk : wi cx ⟨o.dst, g, b⟩ s K) (hs : RepSt cx φ s a w)
    {K2 : Act → World → Prop} {Q : Exit → Act → World → Prop} (hn : ∀ φ' s' a' w', RepSt cx φ' s' a' w' → Step φ s.h w φ' s'.h w' → K s' → K2 a' w') : o.wp cx.P a w K2 Q := by
  have hop : ∀ x, xop cx.P o.op = some x → wi cx ⟨o.dst, g, .op x⟩ s K → o.wp cx.P a w K2 Q := by
    intro x hx hk
    obtain ⟨r, h, he, hk⟩ := hk
    obtain ⟨nx, v, w', φ', h1, h2, h3, h4, h5⟩ := xev_sound hs hx he
    simp only [Oper.wp, h1]
    have hp := put_rep hs h5.ext h4 o.dst h3
    rcases h2 with rfl | ⟨rfl, rfl⟩
    · exact hn _ _ _ _ hp h5 hk
    · exact hn _ _ _ _ hp h5 hk
  unfold xbody at hb
  split at hb
  · rename_i c hoc
    split at hb
    · rename_i f hc
      simp at hb
      subst hb
      obtain ⟨gf, caps, he, hsim⟩ := hk
      have hv := hs.ev f
      rw [he] at hv
      generalize hfv : a.eval f = fv at hv
      cases hv with
      | fn _ _ vs hl hr =>
        obtain ⟨hcal, hsim⟩ := hsim
        have hrun : (execOp a.eval o).run cx.P w = .ok (.enter gf (c.args.map a.eval ++ vs)) w := by
          simp only [execOp, hoc, Sem.run_bind, resolve, hc, Deferred.ofValue, hfv, pure, Sem.run, Result.andThen_ok, invoke]
          rw [Array.empty_append]
          exact callFunc_run hcal _ w
        simp only [Oper.wp, hrun, Oper.upon_enter]
        refine (hsim φ w (c.args.map a.eval ++ vs) (by simp [hl]) ?_ hs.world).mono ?_
        · intro k x v hx hv
          by_cases hk2 : k < c.args.size
          · rw [List.getElem?_append_left (by simpa using hk2)] at hx
            rw [Array.getElem?_append_left (by simpa using hk2)] at hv
            simp only [List.getElem?_map, Array.getElem?_toList, Array.getElem?_map] at hx hv
            rw [Array.getElem?_eq_getElem hk2] at hx hv
            simp at hx hv
            subst hx; subst hv
            exact hs.ev _
          · rw [List.getElem?_append_right (by simpa using hk2)] at hx
            rw [Array.getElem?_append_right (by simpa using hk2)] at hv
            exact hr _ x v (by simpa using hx) (by simpa using hv)
        · rintro e w' ⟨v, r, h', φ', rfl, h1, h2, h3, h4⟩
          exact hn _ _ _ _ (put_rep hs h3.ext h2 o.dst h1) h3 h4
    · simp only [Option.map_eq_some_iff] at hb
      obtain ⟨x, hx, rfl⟩ := hb
      exact hop x (by rw [hoc]; exact hx) hk
  · simp only [Option.map_eq_some_iff] at hb
    obtain ⟨x, hx, rfl⟩ := hb
    exact hop x hx hk
theorem wl_sound : ∀ (l : List Nat) (xs : List XI) (s : XSt) (K : XSt → Prop), l.length = xs.length → (∀ (k : Nat) i x, l[k]? = some i → xs[k]? = some x → ∃ o, ops[i]? = some o ∧ xi cx.P ops o = some x) → wl cx xs s K → SimL cx ops l s K
  | [], [], s, K, _, _, hk => fun φ a w Q hs hn => hn φ s a w hs (Step.refl _ _ _) hk
  | [], _ :: _, _, _, hl, _, _ => by simp at hl
  | _ :: _, [], _, _, hl, _, _ => by simp at hl
  | i :: l, x :: xs, s, K, hl, hx, hk => by
    intro φ a w Q hs hn
    obtain ⟨o, ho, hxi⟩ := hx 0 i x rfl rfl
    unfold xi at hxi
    split at hxi
    · rename_i g b hg hb
      simp at hxi
      subst hxi
      have ih := fun s' K' => wl_sound l xs s' K' (by simpa using hl) (fun k j y hj hy => hx (k + 1) j y hj hy)
      have hstep : wi cx ⟨o.dst, g, b⟩ s (fun s' => wl cx xs s' K) → o.wp cx.P a w (wpOps cx.P ops Q l) Q := by
        intro hw
        refine wi_sound hb hw hs ?_
        intro φ' s' a' w' h1 h2 h3
        exact ih s' K h3 φ' a' w' Q h1 (fun φ2 s2 a2 w2 q1 q2 q3 => hn φ2 s2 a2 w2 q1 (h2.trans q2) q3)
      have hskip : wl cx xs (s.put o.dst .und s.h) K → wpOps cx.P ops Q l (a.put o.dst undef) w := by
        intro hw
        exact ih _ K hw φ _ w Q (put_rep hs (Ext.refl _) hs.world o.dst .und) (fun φ2 s2 a2 w2 q1 q2 q3 => hn φ2 s2 a2 w2 q1 q2 q3)
      simp only [wpOps, ho]
      cases hgd : o.guard with
      | none =>
        rw [hgd] at hg
        simp [xguard] at hg
        subst hg
        rw [if_pos (by simp [Region.wanted, hgd])]
        exact .inl (hstep hk)
      | some p =>
        obtain ⟨j, want⟩ := p
        rw [hgd] at hg
        simp only [xguard, Option.map_eq_some_iff] at hg
        obtain ⟨t, ht, rfl⟩ := hg
        have hyield : ∀ v, a.tmps[t]? = some v → yielded ops a.tmps j = (match v with | .bool b => some b | _ => none) := by
          intro v hv
          simp only [yielded, ht, Option.bind_some, hv]
          cases v <;> rfl
        simp only [wl] at hk
        split at hk
        · rename_i c hc
          have hlt : ∃ v, a.tmps[t]? = some v ∧ v = .bool c := by
            rw [List.getD_eq_getElem?_getD] at hc
            cases h1 : s.fr[t]? with
            | none => rw [h1] at hc; simp at hc
            | some y =>
              rw [h1] at hc
              simp at hc
              subst hc
              have hlt : t < a.tmps.size := by rw [← hs.len]; exact (List.getElem?_eq_some_iff.1 h1).1
              exact ⟨_, Array.getElem?_eq_getElem hlt, rep_v (hs.slot t _ _ h1 (Array.getElem?_eq_getElem hlt))⟩
          obtain ⟨v, hv, rfl⟩ := hlt
          by_cases hcb : c = want
          · rw [if_pos (by simp [Region.wanted, hgd, hyield _ hv, hcb])]
            exact .inl (hstep (hk.1 hcb))
          · rw [if_neg (by simp [Region.wanted, hgd, hyield _ hv, hcb])]
            exact hskip (hk.2 (by cases c <;> cases want <;> simp_all))
        · rename_i hc
          have hlt : ∃ v, a.tmps[t]? = some v ∧ v = undef := by
            rw [List.getD_eq_getElem?_getD] at hc
            cases h1 : s.fr[t]? with
            | none => rw [h1] at hc; simp at hc
            | some y =>
              rw [h1] at hc
              simp at hc
              subst hc
              have hlt : t < a.tmps.size := by rw [← hs.len]; exact (List.getElem?_eq_some_iff.1 h1).1
              exact ⟨_, Array.getElem?_eq_getElem hlt, rep_und (hs.slot t _ _ h1 (Array.getElem?_eq_getElem hlt))⟩
          obtain ⟨v, hv, rfl⟩ := hlt
          rw [if_neg (by simp [Region.wanted, hgd, hyield _ hv, undef])]
          exact hskip hk
        · exact hk.elim
    · cases hxi
theorem xis_get {P : Program} : ∀ (os : List Oper) (xs : List XI), xis P ops os = some xs → os.length = xs.length ∧ ∀ (k : Nat) o x, os[k]? = some o → xs[k]? = some x → xi P ops o = some x
  | [], xs, he => by simp [xis] at he; subst he; exact ⟨rfl, fun k o x h => by simp at h⟩
  | o :: r, xs, he => by
    simp only [xis] at he
    split at he
    · rename_i i l h1 h2
      simp at he
      subst he
      obtain ⟨e1, e2⟩ := xis_get r l h2
      refine ⟨by simpa using e1, ?_⟩
      intro k p x hp hx
      cases k with
      | zero => simp at hp hx; subst hp; subst hx; exact h1
      | succ k => exact e2 k p x (by simpa using hp) (by simpa using hx)
    · cases he
end
end Go.Eng
namespace Go.Eng
open Go.RowKit
section
variable {w0 : World} {B : Nat} {φ φ' : Phi}
theorem Rep.back {x : AV} {u v : Value} (h : Rep w0 B φ x u) (he : Ext φ φ') (h' : Rep w0 B φ' x v) : Rep w0 B φ x v := by
  induction h generalizing v with
  | un _ => exact .un v
  | v x => cases h'; exact .v _
  | agg cs vs hl _ ih =>
    cases h' with
    | agg _ vs' hl' hr' =>
      refine .agg cs vs' hl' ?_
      intro k x v hx hv
      have hk : k < vs.size := by have := (List.getElem?_eq_some_iff.1 hx).1; omega
      exact ih k x _ hx (Array.getElem?_eq_getElem hk) (hr' k x v hx hv)
  | tup cs vs hl _ ih =>
    cases h' with
    | tup _ vs' hl' hr' =>
      refine .tup cs vs' hl' ?_
      intro k x v hx hv
      have hk : k < vs.size := by have := (List.getElem?_eq_some_iff.1 hx).1; omega
      exact ih k x _ hx (Array.getElem?_eq_getElem hk) (hr' k x v hx hv)
  | ptr id ver off b n h =>
    cases h' with
    | ptr _ _ _ b' n' h2 =>
      rw [he _ _ _ h] at h2
      cases h2
      exact .ptr _ _ _ _ _ h
  | sl id ver off len sz b n cap h h1 h2 h3 h4 =>
    cases h' with
    | sl _ _ _ _ _ b' n' cap' q q1 q2 q3 q4 =>
      rw [he _ _ _ h] at q
      cases q
      exact .sl _ _ _ _ _ _ _ _ h q1 q2 q3 q4
  | ro sz n f A cap b o c hcap hA hf hc h1 _ ih =>
    cases h' with
    | ro _ _ _ A' cap' b' o' c' hcap' hA' hf' hc' h1' hr' =>
      exact .ro sz n f A' cap' b' o' c' hcap' hA' hf' hc' h1' (fun i k x hi hx => ih i k x hi hx (hr' i k x hi hx))
  | rp cs b o c hb hc h1 _ ih =>
    cases h' with
    | rp _ b' o' c' hb' hc' h1' hr' => exact .rp cs b' o' c' hb' hc' h1' (fun k x hx => ih k x hx (hr' k x hx))
  | fn f caps vs hl _ ih =>
    cases h' with
    | fn _ _ vs' hl' hr' =>
      refine .fn f caps vs' hl' ?_
      intro k x v hx hv
      have hk : k < vs.size := by have := (List.getElem?_eq_some_iff.1 hx).1; omega
      exact ih k x _ hx (Array.getElem?_eq_getElem hk) (hr' k x v hx hv)
  | mp id b n h =>
    cases h' with
    | mp _ b' n' h2 =>
      rw [he _ _ _ h] at h2
      cases h2
      exact .mp _ _ _ h
  | und => cases h'; exact .und
inductive Plain : AV → Prop where
  | v (x : Value) : Plain (.v x)
  | agg (cs : List AV) (h : ∀ x ∈ cs, Plain x) : Plain (.agg cs)
  | tup (cs : List AV) (h : ∀ x ∈ cs, Plain x) : Plain (.tup cs)
theorem Plain.rep {x : AV} {v : Value} (hp : Plain x) (h : Rep w0 B φ' x v) : Rep w0 B φ x v := by
  induction hp generalizing v with
  | v y => cases h; exact .v _
  | agg cs _ ih =>
    cases h with
    | agg _ vs hl hr => exact .agg cs vs hl (fun k x v hx hv => ih x (List.mem_of_getElem? hx) (hr k x v hx hv))
  | tup cs _ ih =>
    cases h with
    | tup _ vs hl hr => exact .tup cs vs hl (fun k x v hx hv => ih x (List.mem_of_getElem? hx) (hr k x v hx hv))
end
variable {cx : Cx} {φ φ' : Phi} {h h' : AH} {w w' : World}
theorem RepO.back {b : Nat} {n : Nat × Nat} {o : AO} (hr : RepO cx φ w b n o) (he : Ext φ φ') (hr' : RepO cx φ' w' b n o) : RepO cx φ w' b n o := by
  cases o with
  | cells ver cs =>
    obtain ⟨h1, ccs, T, h2, h3, h4, h5, h6⟩ := hr
    obtain ⟨q1, ccs', T', q2, q3, q4, q5, q6⟩ := hr'
    refine ⟨q1, ccs', T', q2, q3, q4, fun k x v hx hv => ?_, q6⟩
    have hk : k < ccs.size := by have := (List.getElem?_eq_some_iff.1 hx).1; omega
    exact (h5 k x _ hx (Array.getElem?_eq_getElem hk)).back he (q5 k x v hx hv)
  | froz cs =>
    obtain ⟨h1, ccs, T, fz, h2, h3, h4, h5, h6⟩ := hr
    obtain ⟨q1, ccs', T', fz', q2, q3, q4, q5, q6⟩ := hr'
    refine ⟨q1, ccs', T', fz', q2, q3, q4, fun k x v hx hv => ?_, q6⟩
    have hk : k < ccs.size := by have := (List.getElem?_eq_some_iff.1 hx).1; omega
    exact (h5 k x _ hx (Array.getElem?_eq_getElem hk)).back he (q5 k x v hx hv)
  | map c es =>
    obtain ⟨en, h1, h2, h3⟩ := hr
    obtain ⟨en', q1, q2, q3⟩ := hr'
    refine ⟨en', q1, q2, fun i e x he' hx => ⟨(q3 i e x he' hx).1, (q3 i e x he' hx).2.1, ?_⟩⟩
    have hk : i < en.size := by have := (List.getElem?_eq_some_iff.1 hx).1; omega
    exact (h3 i _ x (Array.getElem?_eq_getElem hk) hx).2.2.back he (q3 i e x he' hx).2.2
theorem SimCall.gc {f : FuncId} {args : List AV} {Q : AV → AH → Prop} (hc : SimCall cx f args h fun r h' => (∃ g, h' = h ++ g) ∧ Plain r ∧ Q r h) : SimCall cx f args h Q := by
  refine ⟨hc.1, fun φ w vs h1 h2 h3 => (hc.2 φ w vs h1 h2 h3).mono ?_⟩
  rintro e w' ⟨v, r, h', φ', he, hv, hw', hst, ⟨g, rfl⟩, hp, hq⟩
  refine ⟨v, r, h, φ, he, hp.rep hv, ?_, ?_, hq⟩
  · refine ⟨hw'.below, ?_, h3.inj, h3.dom, fun id ver b n hb => ⟨(h3.hi id ver b n hb).1, by have := (h3.hi id ver b n hb).2; have := hst.size; omega⟩⟩
    intro id o b n ho hb
    have hlt := (List.getElem?_eq_some_iff.1 ho).1
    exact (h3.obj id o b n ho hb).back hst.ext (hw'.obj id o b n (by rw [List.getElem?_append_left hlt]; exact ho) (hst.ext _ _ _ hb))
  · exact ⟨Ext.refl _, hst.keep, fun id o b n ho hb _ => ⟨id, o, n, ho, hb⟩, hst.size, Nat.le_refl _, fun _ _ hv => hv⟩
theorem RepW.virt (hw : RepW cx φ h w) (g : AH) : RepW cx φ (h ++ g) w ∧ Step φ h w φ (h ++ g) w := by
  have hnone : ∀ id, h.length ≤ id → ∀ v, φ id v = none := fun id hid v => hw.none_of (fun o ho => by have := (List.getElem?_eq_some_iff.1 ho).1; omega)
  have hget : ∀ (id : Nat) o v r, (h ++ g)[id]? = some o → φ id v = some r → h[id]? = some o := by
    intro id o v r ho hr
    by_cases hid : id < h.length
    · rw [List.getElem?_append_left hid] at ho; exact ho
    · rw [hnone id (by omega)] at hr; cases hr
  refine ⟨⟨hw.below, fun id o b n ho hb => hw.obj id o b n (hget _ _ _ _ ho hb) hb, fun id id' o o' b n n' ho ho' hb hb' => hw.inj id id' o o' b n n' (hget _ _ _ _ ho hb) (hget _ _ _ _ ho' hb') hb hb', ?_, hw.hi⟩, Ext.refl _, fun _ _ _ => rfl,
    fun id o b n ho hb _ => ⟨id, o, n, hget _ _ _ _ ho hb, hb⟩, Nat.le_refl _, by simp, fun _ _ hv => hv⟩
  intro id ver r hr
  obtain ⟨o, ho, hv⟩ := hw.dom id ver r hr
  exact ⟨o, by rw [List.getElem?_append_left (List.getElem?_eq_some_iff.1 ho).1]; exact ho, hv⟩
theorem RepW.real (hw : RepW cx φ h w) {id : Nat} {o : AO} (ho : h[id]? = some o) (hov : o.ver = 0) (hn : ∀ v, φ id v = none) {obj : Obj} (ha : Adds w obj w') (n : Nat × Nat) (hr : ∀ φ', Ext φ φ' → RepO cx φ' w' w.heap.size n o)
    {φ0 : Phi} {h0 : AH} {w00 : World} (hst : Step φ0 h0 w00 φ h w) (hid : h0.length ≤ id) :
    RepW cx (newPhi φ id 0 w.heap.size n) h w' ∧ Step φ0 h0 w00 (newPhi φ id 0 w.heap.size n) h w' := by
  have hext := newPhi_ext (hn 0) w.heap.size n
  have hB := hw.hB
  have hold : ∀ (i v : Nat), i ≠ id → newPhi φ id 0 w.heap.size n i v = φ i v := by
    intro i v hi
    unfold newPhi
    rw [if_neg (by omega)]
  have hnew : ∀ (ver b : Nat) m, newPhi φ id 0 w.heap.size n id ver = some (b, m) → ver = 0 ∧ b = w.heap.size ∧ m = n := by
    intro ver b m he
    unfold newPhi at he
    split at he
    · rename_i hc
      simp at he
      exact ⟨hc.2, he.1.symm, he.2.symm⟩
    · rw [hn] at he; cases he
  refine ⟨⟨?_, ?_, ?_, ?_, ?_⟩, hst.ext.trans hext, ?_, ?_, by rw [ha.size]; have := hst.size; omega, hst.len, ?_⟩
  · exact hw.below.trans ⟨ha.os, ha.tape, ha.output, by rw [ha.size]; omega, fun k hk => ha.old (by omega), ha.drawn⟩
  · intro i x b m hx he
    by_cases hi : i = id
    · subst hi
      rw [ho] at hx
      cases hx
      obtain ⟨_, rfl, rfl⟩ := hnew _ _ _ he
      exact hr _ hext
    · rw [hold _ _ hi] at he
      exact (hw.obj i x b m hx he).mono hext (ha.old (hw.hi _ _ _ _ he).2)
  · intro i j x y b m m' hx hy he he'
    by_cases hi : i = id <;> by_cases hj : j = id
    · omega
    · subst hi
      rw [hold _ _ hj] at he'
      obtain ⟨_, rfl, _⟩ := hnew _ _ _ he
      have := (hw.hi _ _ _ _ he').2
      omega
    · subst hj
      rw [hold _ _ hi] at he
      obtain ⟨_, rfl, _⟩ := hnew _ _ _ he'
      have := (hw.hi _ _ _ _ he).2
      omega
    · rw [hold _ _ hi] at he
      rw [hold _ _ hj] at he'
      exact hw.inj i j x y b m m' hx hy he he'
  · intro i ver r he
    by_cases hi : i = id
    · subst hi
      obtain ⟨rb, rn⟩ := r
      obtain ⟨rfl, _⟩ := hnew _ _ _ he
      exact ⟨o, ho, by omega⟩
    · rw [hold _ _ hi] at he
      exact hw.dom i ver r he
  · intro i ver b m he
    rw [ha.size]
    by_cases hi : i = id
    · subst hi
      obtain ⟨_, rfl, _⟩ := hnew _ _ _ he
      omega
    · rw [hold _ _ hi] at he
      have := hw.hi _ _ _ _ he
      omega
  · intro b hb hnn
    rw [ha.old (by have := hst.size; omega)]
    exact hst.keep b hb hnn
  · intro i x b m hx he hb
    by_cases hi : i = id
    · subst hi
      rw [ho] at hx
      cases hx
      obtain ⟨_, rfl, _⟩ := hnew _ _ _ (by rw [hov] at he; exact he)
      have := hst.size
      omega
    · rw [hold _ _ hi] at he
      exact hst.cur i x b m hx he hb
  · intro i hi hv v
    rw [hold i v (by omega)]
    exact hst.vir i hi hv v
end Go.Eng
namespace Go.Eng
open Go.RowKit
def XO.ts : XO → List Nat
  | .t n => [n]
  | _ => []
def XOp.ts : XOp → List Nat
  | .mov x | .box x | .ld1 x | .lda _ x | .nck x | .un _ x | .cvi _ x | .cvs x | .fad _ x | .fld _ _ x | .ext _ x | .lens x | .lenl x | .sno _ x | .bts x | .stb x | .lenm x => x.ts
  | .pick c a b | .mup _ c a b | .mes c a b => c.ts ++ a.ts ++ b.ts
  | .mkm r => r.toList.flatMap XO.ts
  | .alloc _ | .lenk _ => []
  | .build _ ps | .bsl _ _ _ ps => ps.flatMap fun p => p.2.2.ts
  | .st _ a x | .bin _ a x | .beq _ a x | .iad _ a x | .iaa _ _ a x | .ixs a x | .mx _ a x | .app _ _ a x | .mks _ _ _ a x | .cpy _ a x | .seq _ _ a x | .lku _ _ _ a x | .men _ _ a x | .del _ a x => a.ts ++ x.ts
  | .mkf _ caps => caps.flatMap XO.ts
  | .sls _ x lo hi | .sla _ _ x lo hi => x.ts ++ (lo.toList ++ hi.toList).flatMap XO.ts
  | .slt x lo hi => x.ts ++ (lo.toList ++ hi.toList).flatMap XO.ts
def XO.nilK : XO → Bool
  | .k (.slice none _ _) => true
  | _ => false
def XOp.cls : XOp → Nat
  | .ld1 _ | .lda _ _ | .stb _ | .lku .. | .lenm _ => 1
  | .alloc _ | .box _ | .bsl .. | .mks .. | .bts _ | .mkm _ => 2
  | .app _ _ s _ => if s.nilK then 2 else 3
  | .st .. | .cpy .. | .mup .. | .men .. | .mes .. | .del .. => 3
  | _ => 0
section
variable {cx : Cx} {s s' : XSt}
theorem ev_congr {x : XO} (h : ∀ t ∈ x.ts, s.fr.getD t .un = s'.fr.getD t .un) : s.ev cx x = s'.ev cx x := by
  cases x <;> simp only [XSt.ev]
  · exact h _ (by simp [XO.ts])
theorem evs_congr {l : List XO} (h : ∀ t ∈ l.flatMap XO.ts, s.fr.getD t .un = s'.fr.getD t .un) : l.map (s.ev cx) = l.map (s'.ev cx) := by
  refine List.map_congr_left fun x hx => ev_congr fun t ht => h t (List.mem_flatMap.2 ⟨x, hx, ht⟩)
theorem evo_congr {x : Option XO} (h : ∀ t ∈ x.toList.flatMap XO.ts, s.fr.getD t .un = s'.fr.getD t .un) : x.map (s.ev cx) = x.map (s'.ev cx) := by
  cases x with
  | none => rfl
  | some x => simp only [Option.map_some]; rw [ev_congr]; intro t ht; exact h t (by simpa using ht)
theorem xev_congr {x : XOp} (h : ∀ t ∈ x.ts, s.fr.getD t .un = s'.fr.getD t .un) (hh : s.h = s'.h) : xev cx s x = xev cx s' x := by
  have e1 : ∀ y : XO, (∀ t ∈ y.ts, t ∈ x.ts) → s.ev cx y = s'.ev cx y := fun y hy => ev_congr fun t ht => h t (hy t ht)
  cases x with
  | build z ps =>
    simp only [xev, hh]
    have : (ps.map fun p => (p.1, p.2.1, s.ev cx p.2.2)) = ps.map fun p => (p.1, p.2.1, s'.ev cx p.2.2) := by
      refine List.map_congr_left fun p hp => ?_
      rw [e1 p.2.2 (fun t ht => by simp only [XOp.ts]; exact List.mem_flatMap.2 ⟨p, hp, ht⟩)]
    rw [this]
  | bsl sz len z ps =>
    simp only [xev, hh]
    have : (ps.map fun p => (p.1, p.2.1, s.ev cx p.2.2)) = ps.map fun p => (p.1, p.2.1, s'.ev cx p.2.2) := by
      refine List.map_congr_left fun p hp => ?_
      rw [e1 p.2.2 (fun t ht => by simp only [XOp.ts]; exact List.mem_flatMap.2 ⟨p, hp, ht⟩)]
    rw [this]
  | mkf f caps => simp only [xev, hh, evs_congr (l := caps) h]
  | sls sz x lo hi =>
    simp only [xev, hh]
    rw [e1 x (fun t ht => by simp [XOp.ts, ht]), evo_congr (x := lo) (fun t ht => h t (by simp only [XOp.ts, List.flatMap_append]; simp [ht])), evo_congr (x := hi) (fun t ht => h t (by simp only [XOp.ts, List.flatMap_append]; simp [ht]))]
  | sla sz n x lo hi =>
    simp only [xev, hh]
    rw [e1 x (fun t ht => by simp [XOp.ts, ht]), evo_congr (x := lo) (fun t ht => h t (by simp only [XOp.ts, List.flatMap_append]; simp [ht])), evo_congr (x := hi) (fun t ht => h t (by simp only [XOp.ts, List.flatMap_append]; simp [ht]))]
  | slt x lo hi =>
    simp only [xev, hh]
    rw [e1 x (fun t ht => by simp [XOp.ts, ht]), evo_congr (x := lo) (fun t ht => h t (by simp only [XOp.ts, List.flatMap_append]; simp [ht])), evo_congr (x := hi) (fun t ht => h t (by simp only [XOp.ts, List.flatMap_append]; simp [ht]))]
  | pick c a b =>
    simp only [xev, hh]
    rw [e1 c (fun t ht => by simp [XOp.ts, ht]), e1 a (fun t ht => by simp [XOp.ts, ht]), e1 b (fun t ht => by simp [XOp.ts, ht])]
  | alloc z => simp only [xev, hh]
  | lenk n => simp only [xev, hh]
  | mup sh c a b =>
    simp only [xev, hh]
    rw [e1 c (fun t ht => by simp [XOp.ts, ht]), e1 a (fun t ht => by simp [XOp.ts, ht]), e1 b (fun t ht => by simp [XOp.ts, ht])]
  | mes c a b =>
    simp only [xev, hh]
    rw [e1 c (fun t ht => by simp [XOp.ts, ht]), e1 a (fun t ht => by simp [XOp.ts, ht]), e1 b (fun t ht => by simp [XOp.ts, ht])]
  | mkm r =>
    simp only [xev, hh]
    rw [evo_congr (x := r) h]
  | _ => simp only [xev, hh] <;> (first | (rename_i y z; rw [e1 y (fun t ht => by simp [XOp.ts, ht]), e1 z (fun t ht => by simp [XOp.ts, ht])]; done) | (rename_i y; rw [e1 y (fun t ht => by simp [XOp.ts, ht])]))
theorem xev_form {x : XOp} {fr : List AV} (hc : x.cls = 0) (H : AH) : xev cx ⟨fr, H⟩ x = (xev cx ⟨fr, []⟩ x).map fun p => (p.1, H) := by
  have hev : ∀ (y : XO), (⟨fr, H⟩ : XSt).ev cx y = (⟨fr, []⟩ : XSt).ev cx y := fun y => by cases y <;> rfl
  have hevs : ∀ (l : List XO), l.map ((⟨fr, H⟩ : XSt).ev cx) = l.map ((⟨fr, []⟩ : XSt).ev cx) := fun l => List.map_congr_left fun y _ => hev y
  have hevo : ∀ (y : Option XO), y.map ((⟨fr, H⟩ : XSt).ev cx) = y.map ((⟨fr, []⟩ : XSt).ev cx) := fun y => by cases y <;> simp [hev]
  have hps : ∀ (ps : List (Nat × Nat × XO)), (ps.map fun p => (p.1, p.2.1, (⟨fr, H⟩ : XSt).ev cx p.2.2)) = ps.map fun p => (p.1, p.2.1, (⟨fr, []⟩ : XSt).ev cx p.2.2) := fun ps => List.map_congr_left fun p _ => by rw [hev]
  cases x <;> simp only [XOp.cls] at hc <;> (try first | omega | (split at hc <;> omega)) <;> simp only [xev, hev, hevs, hevo, hps]
  all_goals first
    | rfl
    | (simp only [Option.map_map, Option.map_some]; rfl)
    | (split <;> first
        | rfl
        | (simp only [Option.map_map, Option.map_some]; rfl)
        | (split <;> rfl))
theorem xev_pure {x : XOp} {fr : List AV} {h h' : AH} {r : AV} (hc : x.cls = 0) (he : xev cx ⟨fr, h⟩ x = some (r, h')) : h' = h ∧ ∀ H, xev cx ⟨fr, H⟩ x = some (r, H) := by
  rw [xev_form hc] at he
  simp only [Option.map_eq_some_iff, Prod.mk.injEq] at he
  obtain ⟨p, h1, h2, h3⟩ := he
  exact ⟨h3.symm, fun H => by rw [xev_form hc, h1]; simp [h2]⟩
theorem get_app {h g : AH} {id ver : Nat} (hid : id < h.length) : AH.get (h ++ g) id ver = AH.get h id ver := by
  unfold AH.get
  rw [List.getElem?_append_left hid]
theorem get_lt {h : AH} {id ver : Nat} {cs : List AV} (hg : h.get id ver = some cs) : id < h.length := (List.getElem?_eq_some_iff.1 (get_some hg)).1
def XOp.rdOf : XOp → Option XO
  | .ld1 y | .lda _ y | .stb y | .lku _ _ _ y _ | .lenm y => some y
  | _ => none
def _root_.Go.Eng.AV.at_ : AV → Option Nat
  | .ptr id _ _ | .sl id _ _ _ _ | .mp id => some id
  | _ => none
def Valid (cx : Cx) (x : XOp) (s : XSt) : Prop := ∀ y, x.rdOf = some y → ∀ id, (s.ev cx y).at_ = some id → id < s.h.length
theorem ev_h (fr : List AV) (H h : AH) (y : XO) : (⟨fr, H⟩ : XSt).ev cx y = (⟨fr, h⟩ : XSt).ev cx y := by cases y <;> rfl
theorem rd_congr {h h2 : AH} {id ver : Nat} (he : h2[id]? = h[id]?) : h2.rd id ver = h.rd id ver := by unfold AH.rd; rw [he]
theorem rd_lt {h : AH} {id ver : Nat} {cs : List AV} (he : h.rd id ver = some cs) : id < h.length := by
  unfold AH.rd at he
  split at he
  · rename_i h1; exact (List.getElem?_eq_some_iff.1 h1).1
  · rename_i h1; exact (List.getElem?_eq_some_iff.1 h1).1
  · cases he
theorem mapAt_congr {h h2 : AH} {x : AV} (he : ∀ id, x.at_ = some id → h2[id]? = h[id]?) : h2.mapAt x = h.mapAt x := by
  cases x <;> simp only [AH.mapAt]
  rw [he _ rfl]
theorem mapAt_lt {h : AH} {x : AV} {p : Nat × Nat × List (Nat × Value × AV)} (he : h.mapAt x = some p) : ∀ id, x.at_ = some id → id < h.length := by
  cases x <;> simp only [AH.mapAt] at he <;> (try (cases he; done))
  intro id hid
  simp only [AV.at_, Option.some.injEq] at hid
  subst hid
  split at he
  · rename_i h1; exact (List.getElem?_eq_some_iff.1 h1).1
  · cases he
theorem xRows_congr {h h2 : AH} {sz : Nat} {x : AV} (he : ∀ id, x.at_ = some id → h2[id]? = h[id]?) : xRows h2 sz x = xRows h sz x := by
  cases x with
  | sl id ver off len sz' => simp only [xRows]; rw [rd_congr (he _ rfl)]
  | v y => unfold xRows; split <;> (first | rfl | (rename_i h; cases h))
  | _ => rfl
theorem xStb_congr {h h2 : AH} {x : AV} (he : ∀ id, x.at_ = some id → h2[id]? = h[id]?) : xStb h2 x = xStb h x := by
  unfold xStb
  split
  · rfl
  · rw [xRows_congr he]
theorem xLenM_congr {h h2 : AH} {x : AV} (he : ∀ id, x.at_ = some id → h2[id]? = h[id]?) : xLenM h2 x = xLenM h x := by
  unfold xLenM
  split
  · rfl
  · rw [mapAt_congr he]
theorem xev_rd {o : XOp} {fr : List AV} {h h2 : AH} (hc : o.cls = 1) (hh : ∀ y, o.rdOf = some y → ∀ id, ((⟨fr, h⟩ : XSt).ev cx y).at_ = some id → h2[id]? = h[id]?) :
    ∃ z : Option AV, xev cx ⟨fr, h⟩ o = z.map (fun v => (v, h)) ∧ xev cx ⟨fr, h2⟩ o = z.map (fun v => (v, h2)) ∧ (z.isSome = true → ∀ y, o.rdOf = some y → ∀ id, ((⟨fr, h⟩ : XSt).ev cx y).at_ = some id → id < h.length) := by
  have hev := ev_h (cx := cx) fr h2 h
  cases o <;> simp only [XOp.cls] at hc <;> (try first | omega | (split at hc <;> omega))
  case ld1 y =>
    have := hh y rfl
    refine ⟨xLd1 h ((⟨fr, h⟩ : XSt).ev cx y), rfl, ?_, ?_⟩
    · simp only [xev, hev]
      generalize (⟨fr, h⟩ : XSt).ev cx y = z at this
      cases z <;> simp only [xLd1]
      rw [rd_congr (this _ rfl)]
    · intro hz y' hy'
      cases hy'
      generalize (⟨fr, h⟩ : XSt).ev cx y = z at hz
      obtain ⟨r, hr⟩ := Option.isSome_iff_exists.1 hz
      cases z <;> simp only [xLd1] at hr <;> (try (cases hr; done)) <;> simp only [AV.at_] <;> intro id hid
      · cases hid
        simp only [Option.bind_eq_some_iff] at hr
        obtain ⟨cs, h1, _⟩ := hr
        exact rd_lt h1
      · cases hid
  case lda n y =>
    have := hh y rfl
    refine ⟨xLda h n ((⟨fr, h⟩ : XSt).ev cx y), rfl, ?_, ?_⟩
    · simp only [xev, hev]
      generalize (⟨fr, h⟩ : XSt).ev cx y = z at this
      cases z <;> simp only [xLda]
      rw [rd_congr (this _ rfl)]
    · intro hz y' hy'
      cases hy'
      generalize (⟨fr, h⟩ : XSt).ev cx y = z at hz
      obtain ⟨r, hr⟩ := Option.isSome_iff_exists.1 hz
      cases z <;> simp only [xLda] at hr <;> (try (cases hr; done)) <;> simp only [AV.at_] <;> intro id hid
      · cases hid
        simp only [Option.bind_eq_some_iff] at hr
        obtain ⟨cs, h1, _⟩ := hr
        exact rd_lt h1
      · cases hid
  case stb y =>
    have := hh y rfl
    refine ⟨xStb h ((⟨fr, h⟩ : XSt).ev cx y), rfl, ?_, ?_⟩
    · simp only [xev, hev]
      rw [xStb_congr this]
    · intro hz y' hy'
      cases hy'
      generalize (⟨fr, h⟩ : XSt).ev cx y = z at hz
      obtain ⟨r, hr⟩ := Option.isSome_iff_exists.1 hz
      cases z <;> simp only [xStb, xRows] at hr <;> (try (simp at hr; done)) <;> simp only [AV.at_] <;> intro id hid <;> cases hid
      split at hr
      · simp only [Option.bind_eq_some_iff] at hr
        obtain ⟨_, ⟨cs, h1, _⟩, _⟩ := hr
        exact rd_lt h1
      · simp at hr
  case lku sh z ok y k =>
    have hm := mapAt_congr (hh y rfl)
    refine ⟨xLku h sh z ok ((⟨fr, h⟩ : XSt).ev cx y) ((⟨fr, h⟩ : XSt).ev cx k), rfl, ?_, ?_⟩
    · simp only [xev, hev, xLku, xLk, hm]
    · intro hz y' hy'
      cases hy'
      obtain ⟨r, hr⟩ := Option.isSome_iff_exists.1 hz
      simp only [xLku, xLk, Option.map_eq_some_iff, Option.bind_eq_some_iff] at hr
      obtain ⟨_, ⟨_, _, hr⟩, _⟩ := hr
      split at hr
      · simp only [Option.bind_eq_some_iff] at hr
        obtain ⟨_, h1, _⟩ := hr
        exact mapAt_lt h1
      · cases hr
  case lenm y =>
    refine ⟨xLenM h ((⟨fr, h⟩ : XSt).ev cx y), rfl, ?_, ?_⟩
    · simp only [xev, hev]
      rw [xLenM_congr (hh y rfl)]
    · intro hz y' hy'
      cases hy'
      obtain ⟨r, hr⟩ := Option.isSome_iff_exists.1 hz
      unfold xLenM at hr
      split at hr
      · rename_i hz; rw [hz]; intro id hid; cases hid
      · simp only [Option.map_eq_some_iff] at hr
        obtain ⟨_, h1, _⟩ := hr
        exact mapAt_lt h1
theorem xev_read {x : XOp} {fr : List AV} {h h' : AH} {r : AV} (hc : x.cls = 1) (he : xev cx ⟨fr, h⟩ x = some (r, h')) : h' = h ∧ ∀ g, xev cx ⟨fr, h ++ g⟩ x = some (r, h ++ g) := by
  obtain ⟨z0, a1, _, a3⟩ := xev_rd (cx := cx) (o := x) (fr := fr) (h := h) (h2 := h) hc (fun _ _ _ _ => rfl)
  have hz0 : z0.isSome = true := by rw [he] at a1; cases z0 with | none => simp at a1 | some v => rfl
  refine ⟨?_, fun g => ?_⟩
  · rw [he] at a1
    cases z0 with
    | none => simp at a1
    | some v => simp at a1; exact a1.2
  · obtain ⟨z, b1, b2, _⟩ := xev_rd (cx := cx) (o := x) (fr := fr) (h := h) (h2 := h ++ g) hc (fun y hy id hid => List.getElem?_append_left (a3 hz0 y hy id hid))
    rw [he] at b1
    rw [b2]
    cases z with
    | none => simp at b1
    | some v => simp at b1; simp [b1.1]
theorem xev_read_back {x : XOp} {fr : List AV} {h g h' : AH} {r : AV} (hc : x.cls = 1) (hv : Valid cx x ⟨fr, h⟩) (he : xev cx ⟨fr, h ++ g⟩ x = some (r, h')) : xev cx ⟨fr, h⟩ x = some (r, h) := by
  obtain ⟨z, b1, b2, _⟩ := xev_rd (cx := cx) (o := x) (fr := fr) (h := h) (h2 := h ++ g) hc (fun y hy id hid => List.getElem?_append_left (hv y hy id hid))
  rw [he] at b2
  rw [b1]
  cases z with
  | none => simp at b2
  | some v => simp at b2; simp [b2.1]
theorem xev_ext {x : XOp} {h' : AH} {r : AV} (hc : x.cls = 2) (he : xev cx s x = some (r, h')) : ∃ g, h' = s.h ++ g := by
  cases x <;> simp only [XOp.cls] at hc <;> (try first | omega | (split at hc <;> omega)) <;> simp only [xev] at he
  case alloc => simp at he; exact ⟨_, he.2.symm⟩
  case box => simp only [Option.map_eq_some_iff, Prod.mk.injEq] at he; obtain ⟨v, _, _, h3⟩ := he; exact ⟨_, h3.symm⟩
  case bsl => simp only [Option.map_eq_some_iff, Prod.mk.injEq] at he; obtain ⟨v, _, _, h3⟩ := he; exact ⟨_, h3.symm⟩
  case mks =>
    unfold xMks at he
    split at he
    · split at he
      · simp at he; exact ⟨_, he.2.symm⟩
      · cases he
    · cases he
  case bts y =>
    split at he
    · simp at he; exact ⟨_, he.2.symm⟩
    · cases he
  case mkm r =>
    split at he
    · simp at he; exact ⟨_, he.2.symm⟩
    · simp at he; exact ⟨_, he.2.symm⟩
    · cases he
  case app sz bytes y x =>
    split at hc
    · rename_i hk
      unfold XO.nilK at hk
      split at hk
      · rename_i n c
        simp only [xApp, XSt.ev, ofV] at he
        split at he
        · cases he
        · split at he
          · split at he
            · simp at he; exact ⟨[], by simp [he.2]⟩
            · split at he
              · simp at he; exact ⟨_, he.2.symm⟩
              · cases he
          · rename_i heq
            cases heq
          · cases he
      · cases hk
    · omega
end
end Go.Eng
namespace Go.Eng
open Go.RowKit
inductive DI where
  | i (x : XI)
  | real (dst : Option Nat) (id : Nat) (z : List Value)
def DI.dst : DI → Option Nat
  | .i x => x.dst
  | .real d _ _ => d
def DI.ts : DI → List Nat
  | .i x => (x.guard.toList.map (·.1)) ++ match x.body with
    | .op o => o.ts
    | .call f args => f.ts ++ args.flatMap XO.ts
  | .real .. => []
def DI.cls : DI → Nat
  | .i x => match x.body with
    | .op o => o.cls
    | .call .. => 2
  | .real .. => 0
def BodyEv (cx : Cx) (s : XSt) (r : AV) (h' : AH) : XBody → Prop
  | .op o => xev cx s o = some (r, h')
  | .call f args => ∃ g caps g', s.ev cx f = .fn g caps ∧ SimCall cx g (args.map (s.ev cx) ++ caps) s.h (fun r2 h2 => r2 = r ∧ h2 = h') ∧ h' = s.h ++ g'
def Ev (cx : Cx) (d : DI) (s : XSt) (r : AV) (h' : AH) : Prop :=
  match d with
  | .real _ id _ => r = .ptr id 0 0 ∧ h' = s.h
  | .i x => match x.guard with
    | none => BodyEv cx s r h' x.body
    | some (t, b) => (s.fr.getD t .un = .v (.bool b) ∧ BodyEv cx s r h' x.body) ∨ ((s.fr.getD t .un = .v (.bool !b) ∨ s.fr.getD t .un = .und) ∧ r = .und ∧ h' = s.h)
structure Pr where
  lo : Nat
  hi : Nat
  sl : List Nat
def DI.isPs (sl : List Nat) : DI → Bool
  | .i x => match x.guard, x.body with
    | none, .op (.st _ (.t a) _) => sl.contains a
    | _, _ => false
  | .real .. => false
def Tag (cx : Cx) (pr : Pr) (d : DI) (s : XSt) : Prop :=
  match d with
  | .i x => match x.body with
    | .op o => (∀ y, o.rdOf = some y → ∀ id, (s.ev cx y).at_ = some id → id < pr.lo ∨ pr.hi ≤ id) ∧ (DI.isPs pr.sl (.i x) = true → ∀ n a z, o = .st n a z → ∃ id ver off, s.ev cx a = .ptr id ver off ∧ pr.lo ≤ id ∧ id < pr.hi)
    | _ => True
  | .real .. => True
def Chain (cx : Cx) (pr : Pr) : List DI → XSt → XSt → Prop
  | [], s, s2 => s = s2
  | d :: l, s, s2 => ∃ r h', (Ev cx d s r h' ∧ Tag cx pr d s) ∧ Chain cx pr l (s.put d.dst r h') s2
section
variable {cx : Cx} {s s' : XSt}
theorem Ev.congr {d : DI} {r : AV} {h' : AH} (hu : ∀ t ∈ d.ts, s.fr.getD t .un = s'.fr.getD t .un) (hh : s.h = s'.h) (he : Ev cx d s r h') : Ev cx d s' r h' := by
  cases d with
  | real d id z => exact ⟨he.1, he.2.trans hh⟩
  | i x =>
    obtain ⟨dst, guard, body⟩ := x
    have hrun : BodyEv cx s r h' body → BodyEv cx s' r h' body := by
      cases body with
      | op o =>
        intro hr
        simp only [BodyEv] at hr ⊢
        rw [← xev_congr (fun t ht => hu t (by simp [DI.ts, ht])) hh]
        exact hr
      | call f args =>
        rintro ⟨g, caps, g', h1, h2, h3⟩
        have e1 : s'.ev cx f = s.ev cx f := (ev_congr fun t ht => hu t (by simp [DI.ts, ht])).symm
        have e2 : args.map (s'.ev cx) = args.map (s.ev cx) := (evs_congr fun t ht => hu t (by simp only [DI.ts]; exact List.mem_append_right _ (List.mem_append_right _ ht))).symm
        exact ⟨g, caps, g', e1.trans h1, by rw [e2, ← hh]; exact h2, by rw [← hh]; exact h3⟩
    simp only [Ev] at he ⊢
    cases guard with
    | none => exact hrun he
    | some p =>
      obtain ⟨t, b⟩ := p
      have e : s'.fr.getD t .un = s.fr.getD t .un := (hu t (by simp [DI.ts])).symm
      simp only at he ⊢
      rw [e]
      rcases he with ⟨h1, h2⟩ | ⟨h1, h2, h3⟩
      · exact .inl ⟨h1, hrun h2⟩
      · exact .inr ⟨h1, h2, h3.trans hh⟩
theorem Ev.pure {d : DI} {fr : List AV} {h h' : AH} {r : AV} (hc : d.cls = 0) (he : Ev cx d ⟨fr, h⟩ r h') : h' = h ∧ ∀ H, Ev cx d ⟨fr, H⟩ r H := by
  cases d with
  | real d id z => exact ⟨he.2, fun H => ⟨he.1, rfl⟩⟩
  | i x =>
    obtain ⟨dst, guard, body⟩ := x
    cases body with
    | call f args => simp [DI.cls] at hc
    | op o =>
      simp only [Ev] at he ⊢
      cases guard with
      | none =>
        obtain ⟨h1, h2⟩ := xev_pure hc he
        exact ⟨h1, h2⟩
      | some p =>
        simp only at he ⊢
        rcases he with ⟨h1, h2⟩ | ⟨h1, h2, h3⟩
        · obtain ⟨q1, q2⟩ := xev_pure hc h2
          exact ⟨q1, fun H => .inl ⟨h1, q2 H⟩⟩
        · exact ⟨h3, fun H => .inr ⟨h1, h2, by first | rfl | trivial⟩⟩
theorem Ev.read {d : DI} {fr : List AV} {h h' : AH} {r : AV} (hc : d.cls = 1) (he : Ev cx d ⟨fr, h⟩ r h') : h' = h ∧ ∀ g, Ev cx d ⟨fr, h ++ g⟩ r (h ++ g) := by
  cases d with
  | real d id z => simp [DI.cls] at hc
  | i x =>
    obtain ⟨dst, guard, body⟩ := x
    cases body with
    | call f args => simp [DI.cls] at hc
    | op o =>
      simp only [Ev] at he ⊢
      cases guard with
      | none =>
        obtain ⟨h1, h2⟩ := xev_read hc he
        exact ⟨h1, h2⟩
      | some p =>
        simp only at he ⊢
        rcases he with ⟨h1, h2⟩ | ⟨h1, h2, h3⟩
        · obtain ⟨q1, q2⟩ := xev_read hc h2
          exact ⟨q1, fun g => .inl ⟨h1, q2 g⟩⟩
        · exact ⟨h3, fun g => .inr ⟨h1, h2, by first | rfl | trivial⟩⟩
def DI.Valid (cx : Cx) (d : DI) (s : XSt) : Prop :=
  match d with
  | .i x => match x.body with
    | .op o => Eng.Valid cx o s
    | _ => True
  | _ => True
theorem Ev.back {d : DI} {fr : List AV} {h g h' : AH} {r : AV} (hc : d.cls = 1) (hv : d.Valid cx ⟨fr, h⟩) (he : Ev cx d ⟨fr, h ++ g⟩ r h') : Ev cx d ⟨fr, h⟩ r h := by
  cases d with
  | real d id z => simp [DI.cls] at hc
  | i x =>
    obtain ⟨dst, guard, body⟩ := x
    cases body with
    | call f args => simp [DI.cls] at hc
    | op o =>
      simp only [Ev] at he ⊢
      cases guard with
      | none => exact xev_read_back hc hv he
      | some p =>
        simp only at he ⊢
        rcases he with ⟨h1, h2⟩ | ⟨h1, h2, h3⟩
        · exact .inl ⟨h1, xev_read_back hc hv h2⟩
        · exact .inr ⟨h1, h2, by first | rfl | trivial⟩
theorem Ev.ext {d : DI} {h' : AH} {r : AV} (hc : d.cls = 2) (he : Ev cx d s r h') : ∃ g, h' = s.h ++ g := by
  cases d with
  | real d id z => simp [DI.cls] at hc
  | i x =>
    obtain ⟨dst, guard, body⟩ := x
    have hrun : BodyEv cx s r h' body → ∃ g, h' = s.h ++ g := by
      cases body with
      | op o => exact fun hr => xev_ext hc hr
      | call f args => exact fun ⟨_, _, g', _, _, h3⟩ => ⟨g', h3⟩
    simp only [Ev] at he
    cases guard with
    | none => exact hrun he
    | some p =>
      simp only at he
      rcases he with ⟨h1, h2⟩ | ⟨h1, h2, h3⟩
      · exact hrun h2
      · exact ⟨[], by simp [h3]⟩
def lm (e d : DI) : Bool :=
  match e, d with
  | .i ⟨_, none, .op (.lku sh (.int q z) false (.t m) (.t k))⟩, .i ⟨_, none, .op (.men sh' (.int q' z') (.t m') (.t k'))⟩ => sh.agg == sh'.agg && sh.ks == sh'.ks && decide (q = q') && decide (z = z') && m == m' && k == k'
  | _, _ => false
def clash (sl : List Nat) (e d : DI) : Bool :=
  (match e.dst with | some t => d.ts.contains t | none => false) || (match d.dst with | some t => e.ts.contains t | none => false) ||
  (decide (2 ≤ e.cls) && decide (2 ≤ d.cls)) || (decide (e.cls = 1) && decide (d.cls = 3) && !(d.isPs sl || lm e d)) || (decide (e.cls = 3) && decide (d.cls = 1) && !e.isPs sl)
def sameDst (e d : DI) : Bool := match e.dst, d.dst with | some t, some u => t == u | _, _ => false
theorem cls_le (d : DI) : d.cls ≤ 3 := by
  cases d with
  | real => simp [DI.cls]
  | i x =>
    obtain ⟨dst, guard, body⟩ := x
    cases body with
    | call => simp [DI.cls]
    | op o => cases o <;> simp only [DI.cls, XOp.cls] <;> (first | omega | (split <;> omega))
theorem getD_put {t : Nat} {d : Option Nat} {x : AV} {h : AH} (hn : ∀ u, d = some u → u ≠ t) : (s.put d x h).fr.getD t .un = s.fr.getD t .un := by
  cases d with
  | none => rfl
  | some u =>
    simp only [XSt.put, List.getD_eq_getElem?_getD]
    rw [List.getElem?_set_ne (hn u rfl)]
theorem put_put {d e : Option Nat} {x y : AV} {h1 h2 h3 h4 : AH} (hn : ∀ t u, d = some t → e = some u → t ≠ u) (hh : h2 = h4) : (s.put d x h1).put e y h2 = (s.put e y h3).put d x h4 := by
  subst hh
  cases d <;> cases e <;> simp only [XSt.put]
  rename_i t u
  rw [List.set_comm _ _ (hn t u rfl rfl)]
theorem xEqs_symm_true {ks : List Nat} : ∀ {l : List AV} {r : Bool}, xEqs ks l l = some r → r = true := by
  induction ks with
  | nil => intro l r h; exact (xEqs_nil h).2.2
  | cons k ks ih =>
    intro l r h
    obtain ⟨a, b, xs, ys, p, q, e1, e2, h1, h2, rfl⟩ := xEqs_cons h
    rw [e1] at e2
    cases e2
    have := ih h2
    subst this
    unfold sameOne at h1
    split at h1 <;> simp_all
theorem xEq_self {sh : Sh} {x : AV} (h : (xEq sh x x).isSome = true) : xEq sh x x = some true := by
  obtain ⟨r, hr⟩ := Option.isSome_iff_exists.1 h
  rw [hr]
  unfold xEq at hr
  split at hr
  · rename_i e2
    cases e2
    rw [xEqs_symm_true hr]
  · rw [xEqs_symm_true hr]
  · cases hr
theorem xFind_push {sh : Sh} {k : Value} (hk : xEq sh (ofV k) (ofV k) = some true) (c : Nat) (x : AV) : ∀ {es : List (Nat × Value × AV)}, xFind sh k es = some none → xFind sh k (es ++ [(c, k, x)]) = some (some es.length)
  | [], _ => by simp [xFind, hk]
  | e :: es, h => by
    unfold xFind at h
    split at h
    · simp at h
    · rename_i he
      simp only [Option.map_eq_some_iff, Option.map_eq_none_iff] at h
      obtain ⟨o, h1, h2⟩ := h
      have : o = none := by simpa using h2
      subst this
      simp only [List.cons_append, xFind, he, xFind_push hk c x h1]
      simp
    · cases h
theorem xFind_mod {sh : Sh} {k : Value} (hk : xEq sh (ofV k) (ofV k) = some true) : ∀ {es : List (Nat × Value × AV)} {i : Nat}, xFind sh k es = some (some i) → ∀ (f : Nat × Value × AV → AV), xFind sh k (es.modify i fun e => (e.1, k, f e)) = some (some i)
  | [], i, h, f => by simp [xFind] at h
  | e :: es, i, h, f => by
    unfold xFind at h
    split at h
    · simp at h; subst h
      simp [xFind, hk]
    · rename_i he
      simp only [Option.map_eq_some_iff] at h
      obtain ⟨o, h1, h2⟩ := h
      obtain ⟨j, rfl, rfl⟩ := h2
      simp only [List.modify_succ_cons, xFind, he, xFind_mod hk h1 f]
      simp
    · cases h
theorem lm_swap {e d : DI} {fr : List AV} {h he hd : AH} {re rd : AV} (hl : lm e d = true) (h1 : Ev cx e ⟨fr, h⟩ re he) (h2 : Ev cx d ⟨fr, h⟩ rd hd) : Ev cx e ⟨fr, hd⟩ re hd := by
  unfold lm at hl
  split at hl
  · rename_i sh q z m k _ sh' q' z' m' k'
    simp only [Bool.and_eq_true, beq_iff_eq, decide_eq_true_eq] at hl
    obtain ⟨⟨⟨⟨⟨e1, e2⟩, rfl⟩, rfl⟩, rfl⟩, rfl⟩ := hl
    have : sh = sh' := by cases sh; cases sh'; simp at e1 e2; subst e1; subst e2; rfl
    subst this
    simp only [Ev, BodyEv, xev] at h1 h2 ⊢
    rw [ev_h fr hd h, ev_h fr hd h]
    generalize (⟨fr, h⟩ : XSt).ev cx (.t m) = mv at h1 h2 ⊢
    generalize (⟨fr, h⟩ : XSt).ev cx (.t k) = kv at h1 h2 ⊢
    simp only [Option.map_eq_some_iff, Prod.mk.injEq] at h1 ⊢
    obtain ⟨v, h1, rfl, rfl⟩ := h1
    refine ⟨v, ?_, by simp⟩
    simp only [xLku, xLk, Option.map_eq_some_iff, Option.bind_eq_some_iff] at h1
    obtain ⟨⟨x, o⟩, ⟨kk, hkk, h1⟩, hv⟩ := h1
    simp only [xMen, Option.bind_eq_some_iff] at h2
    obtain ⟨kk', hkk', h2⟩ := h2
    rw [hkk] at hkk'
    cases hkk'
    split at h1
    · rename_i hok
      rw [if_pos hok] at h2
      have hself := xEq_self (show (xEq sh (ofV kk) (ofV kk)).isSome = true from hok)
      simp only [Option.bind_eq_some_iff, Option.map_eq_some_iff] at h1 h2
      obtain ⟨⟨id, c, es⟩, hat, fi, hfi, hx⟩ := h1
      obtain ⟨p, hat', fi', hfi', h2⟩ := h2
      rw [hat] at hat'
      cases hat'
      simp only at hfi hfi' h2 hx
      rw [hfi] at hfi'
      cases hfi'
      have hid : ∃ ii, mv = .mp ii ∧ h[ii]? = some (.map c es) ∧ ii = id := by
        cases mv <;> simp only [AH.mapAt] at hat <;> (try (cases hat; done))
        split at hat
        · simp at hat
          obtain ⟨rfl, rfl, rfl⟩ := hat
          exact ⟨_, rfl, by assumption, rfl⟩
        · cases hat
      obtain ⟨ii, rfl, hii, rfl⟩ := hid
      have hlt := (List.getElem?_eq_some_iff.1 hii).1
      have look : ∀ c' es', hd = h.set ii (.map c' es') → hd.mapAt (.mp ii) = some (ii, c', es') := by
        rintro c' es' rfl
        simp [AH.mapAt, hlt]
      cases fi with
      | none =>
        simp at h2
        have hm := look _ _ h2.2.symm
        simp at hx
        obtain ⟨rfl, rfl⟩ := hx
        simp only [xLku, xLk, hkk, Option.bind_some, hok, if_true, hm, xFind_push hself _ _ hfi, Option.map_some]
        simpa using hv
      | some i =>
        simp only [Option.map_eq_some_iff, Prod.mk.injEq] at h2
        obtain ⟨e0, he0, _, h3⟩ := h2
        have hm := look _ _ h3.symm
        simp only [he0, Prod.mk.injEq] at hx
        obtain ⟨rfl, rfl⟩ := hx
        simp only [xLku, xLk, hkk, Option.bind_some, hok, if_true, hm, xFind_mod hself hfi, Option.map_some]
        simp [List.getElem?_modify, he0]
        simpa using hv
    · cases h1
  · cases hl
theorem rd_ts {o : XOp} {y : XO} (h : o.rdOf = some y) : ∀ t ∈ y.ts, t ∈ o.ts := by
  cases o <;> simp only [XOp.rdOf] at h <;> (try (cases h; done)) <;> cases h <;> intro t ht <;> simp [XOp.ts, ht]
theorem Tag.congr {pr : Pr} {d : DI} (hg : Tag cx pr d s) (hu : ∀ t ∈ d.ts, s.fr.getD t .un = s'.fr.getD t .un) : Tag cx pr d s' := by
  cases d with
  | real => trivial
  | i x =>
    obtain ⟨dst, guard, body⟩ := x
    cases body with
    | call => trivial
    | op o =>
      simp only [Tag] at hg ⊢
      refine ⟨fun y hy => ?_, fun hp n a z ho => ?_⟩
      · rw [show s'.ev cx y = s.ev cx y from (ev_congr fun t ht => hu t (by simp [DI.ts, rd_ts hy t ht])).symm]
        exact hg.1 y hy
      · subst ho
        rw [show s'.ev cx a = s.ev cx a from (ev_congr fun t ht => hu t (by simp [DI.ts, XOp.ts, ht])).symm]
        exact hg.2 hp n a z rfl
theorem Ev.pset {pr : Pr} {d : DI} {r : AV} {h' : AH} (he : Ev cx d s r h') (hp : d.isPs pr.sl = true) (hg : Tag cx pr d s) : ∃ id y, h' = s.h.set id y ∧ pr.lo ≤ id ∧ id < pr.hi := by
  cases d with
  | real => simp [DI.isPs] at hp
  | i x =>
    obtain ⟨dst, guard, body⟩ := x
    cases guard with
    | some p => simp [DI.isPs] at hp
    | none =>
      cases body with
      | call => simp [DI.isPs] at hp
      | op o =>
        cases o <;> simp only [DI.isPs] at hp <;> (try (cases hp; done))
        case st n a x =>
          simp only [Tag] at hg
          obtain ⟨id, ver, off, h1, h2, h3⟩ := hg.2 (by simp only [DI.isPs]; exact hp) n a x rfl
          simp only [Ev, BodyEv, xev, Option.map_eq_some_iff, Prod.mk.injEq] at he
          obtain ⟨hh, h4, _, rfl⟩ := he
          unfold xSt at h4
          split at h4
          · rename_i id' ver' off' vs e1 _
            rw [h1] at e1
            cases e1
            simp only [Option.bind_eq_some_iff] at h4
            obtain ⟨cs, _, h5⟩ := h4
            split at h5
            · simp at h5
              exact ⟨id, _, h5.symm, h2, h3⟩
            · cases h5
          · cases h4
theorem ld_set {o : XOp} {fr : List AV} {h : AH} {id : Nat} {y : AO} {lo hi : Nat} (hc : o.cls = 1) (hlo : lo ≤ id) (hhi : id < hi)
    (hg : ∀ a, o.rdOf = some a → ∀ i, ((⟨fr, h⟩ : XSt).ev cx a).at_ = some i → i < lo ∨ hi ≤ i) : (xev cx ⟨fr, h.set id y⟩ o).map (·.1) = (xev cx ⟨fr, h⟩ o).map (·.1) := by
  obtain ⟨z, h1, h2, _⟩ := xev_rd (cx := cx) (o := o) (fr := fr) (h := h) (h2 := h.set id y) hc (fun a ha i hi' => by
    have := hg a ha i hi'
    rw [List.getElem?_set_ne (by omega)])
  rw [h1, h2]
  cases z <;> rfl
theorem tag_ld {pr : Pr} {dst : Option Nat} {g : Option (Nat × Bool)} {o : XOp} (hg : Tag cx pr (.i ⟨dst, g, .op o⟩) s) : ∀ a, o.rdOf = some a → ∀ i, (s.ev cx a).at_ = some i → i < pr.lo ∨ pr.hi ≤ i := hg.1
theorem Ev.reset {pr : Pr} {d : DI} {fr : List AV} {h h' : AH} {r : AV} {id : Nat} (hc : d.cls = 1) (he : Ev cx d ⟨fr, h⟩ r h') (hg : Tag cx pr d ⟨fr, h⟩) (hlo : pr.lo ≤ id) (hhi : id < pr.hi) (y : AO) : Ev cx d ⟨fr, h.set id y⟩ r (h.set id y) := by
  cases d with
  | real => simp [DI.cls] at hc
  | i x =>
    obtain ⟨dst, guard, body⟩ := x
    cases body with
    | call => simp [DI.cls] at hc
    | op o =>
      have hx : ∀ h1, xev cx ⟨fr, h⟩ o = some (r, h1) → xev cx ⟨fr, h.set id y⟩ o = some (r, h.set id y) := by
        intro h1 hx
        have e := ld_set (cx := cx) (y := y) hc hlo hhi (tag_ld hg)
        rw [hx] at e
        simp only [Option.map_some, Option.map_eq_some_iff] at e
        obtain ⟨⟨r1, h2⟩, e1, rfl⟩ := e
        obtain ⟨rfl, _⟩ := xev_read hc e1
        exact e1
      simp only [Ev] at he ⊢
      cases guard with
      | none => exact hx _ he
      | some p =>
        simp only at he ⊢
        rcases he with ⟨h1, h2⟩ | ⟨h1, h2, h3⟩
        · exact .inl ⟨h1, hx _ h2⟩
        · exact .inr ⟨h1, h2, by first | rfl | trivial⟩
theorem Ev.unset {pr : Pr} {d : DI} {fr : List AV} {h h' : AH} {r : AV} {id : Nat} {y : AO} (hc : d.cls = 1) (he : Ev cx d ⟨fr, h.set id y⟩ r h') (hg : Tag cx pr d ⟨fr, h⟩) (hlo : pr.lo ≤ id) (hhi : id < pr.hi) : Ev cx d ⟨fr, h⟩ r h := by
  cases d with
  | real => simp [DI.cls] at hc
  | i x =>
    obtain ⟨dst, guard, body⟩ := x
    cases body with
    | call => simp [DI.cls] at hc
    | op o =>
      have hx : xev cx ⟨fr, h.set id y⟩ o = some (r, h') → xev cx ⟨fr, h⟩ o = some (r, h) := by
        intro hx
        have e := ld_set (cx := cx) (y := y) hc hlo hhi (tag_ld hg)
        rw [hx] at e
        have e := e.symm
        simp only [Option.map_some, Option.map_eq_some_iff] at e
        obtain ⟨⟨r1, h2⟩, e1, rfl⟩ := e
        obtain ⟨rfl, _⟩ := xev_read hc e1
        exact e1
      simp only [Ev] at he ⊢
      cases guard with
      | none => exact hx he
      | some p =>
        simp only at he ⊢
        rcases he with ⟨h1, h2⟩ | ⟨h1, h2, h3⟩
        · exact .inl ⟨h1, hx h2⟩
        · exact .inr ⟨h1, h2, by first | rfl | trivial⟩
theorem swap {pr : Pr} {e d : DI} {re rd : AV} {he hd : AH} (h1 : Ev cx e s re he) (h2 : Ev cx d (s.put e.dst re he) rd hd) (t1 : Tag cx pr e s) (t2 : Tag cx pr d (s.put e.dst re he)) (hc : clash pr.sl e d = false) (hsd : sameDst e d = false) (hv : d.Valid cx s) :
    ∃ hd' he', (Ev cx d s rd hd' ∧ Tag cx pr d s) ∧ (Ev cx e (s.put d.dst rd hd') re he' ∧ Tag cx pr e (s.put d.dst rd hd')) ∧ (s.put e.dst re he).put d.dst rd hd = (s.put d.dst rd hd').put e.dst re he' := by
  simp only [clash, Bool.or_eq_false_iff, Bool.and_eq_false_iff, decide_eq_false_iff_not] at hc
  obtain ⟨⟨⟨⟨c1, c2⟩, c3⟩, c4⟩, c5⟩ := hc
  have n1 : ∀ t ∈ d.ts, ∀ u, e.dst = some u → u ≠ t := by
    rintro t ht u hu rfl
    rw [hu] at c1
    simp at c1
    exact c1 ht
  have n2 : ∀ t ∈ e.ts, ∀ u, d.dst = some u → u ≠ t := by
    rintro t ht u hu rfl
    rw [hu] at c2
    simp at c2
    exact c2 ht
  have n3 : ∀ t u, e.dst = some t → d.dst = some u → t ≠ u := by
    rintro t u h1 h2 rfl
    simp [sameDst, h1, h2] at hsd
  have d1 : Ev cx d ⟨s.fr, he⟩ rd hd := Ev.congr (s := s.put e.dst re he) (s' := ⟨s.fr, he⟩) (fun t ht => getD_put (s := s) (x := re) (h := he) (n1 t ht)) rfl h2
  have eback : ∀ H re' he', Ev cx e ⟨s.fr, H⟩ re' he' → Ev cx e (s.put d.dst rd H) re' he' := fun H re' he' hx => Ev.congr (s := ⟨s.fr, H⟩) (s' := s.put d.dst rd H) (fun t ht => (getD_put (s := s) (x := rd) (h := H) (n2 t ht)).symm) rfl hx
  have e1 : Ev cx e ⟨s.fr, s.h⟩ re he := h1
  have g1 : Tag cx pr d s := t2.congr fun t ht => getD_put (n1 t ht)
  have g2 : ∀ H, Tag cx pr e (s.put d.dst rd H) := fun H => t1.congr fun t ht => (getD_put (n2 t ht)).symm
  have hde := cls_le d
  have hee := cls_le e
  by_cases k1 : d.cls = 0
  · obtain ⟨q1, q2⟩ := d1.pure k1
    subst q1
    exact ⟨s.h, _, ⟨q2 s.h, g1⟩, ⟨eback _ _ _ e1, g2 _⟩, put_put n3 rfl⟩
  by_cases k2 : e.cls = 0
  · obtain ⟨q1, q2⟩ := e1.pure k2
    subst q1
    exact ⟨hd, hd, ⟨d1, g1⟩, ⟨eback _ _ _ (q2 hd), g2 _⟩, put_put n3 rfl⟩
  by_cases k3 : d.cls = 1
  · by_cases k4 : e.cls = 1
    · obtain ⟨q1, _⟩ := e1.read k4
      subst q1
      obtain ⟨q2, _⟩ := d1.read k3
      subst q2
      exact ⟨_, _, ⟨d1, g1⟩, ⟨eback _ _ _ e1, g2 _⟩, put_put n3 rfl⟩
    · by_cases k5 : e.cls = 3
      · have hps : e.isPs pr.sl = true := by
          cases hp : e.isPs pr.sl with
          | true => rfl
          | false => simp [k5, k3, hp] at c5
        obtain ⟨id, y, rfl, hlo, hhi⟩ := e1.pset (pr := pr) hps t1
        obtain ⟨q2, _⟩ := d1.read k3
        subst q2
        exact ⟨s.h, _, ⟨d1.unset k3 g1 hlo hhi, g1⟩, ⟨eback _ _ _ e1, g2 _⟩, put_put n3 rfl⟩
      · obtain ⟨g, hg⟩ := e1.ext (by omega)
        simp only at hg
        subst hg
        obtain ⟨q2, _⟩ := d1.read k3
        subst q2
        exact ⟨s.h, _, ⟨d1.back k3 hv, g1⟩, ⟨eback _ _ _ e1, g2 _⟩, put_put n3 rfl⟩
  · by_cases k4 : e.cls = 1
    · obtain ⟨q1, q2⟩ := e1.read k4
      subst q1
      by_cases k5 : d.cls = 3
      · by_cases klm : lm e d = true
        · exact ⟨_, _, ⟨d1, g1⟩, ⟨eback _ _ _ (lm_swap klm e1 d1), g2 _⟩, put_put n3 rfl⟩
        have hps : d.isPs pr.sl = true := by
          cases hp : d.isPs pr.sl with
          | true => rfl
          | false => simp [k5, k4, hp, klm] at c4
        obtain ⟨id, y, rfl, hlo, hhi⟩ := d1.pset (pr := pr) hps g1
        exact ⟨_, _, ⟨d1, g1⟩, ⟨eback _ _ _ (e1.reset k4 t1 hlo hhi y), g2 _⟩, put_put n3 rfl⟩
      · obtain ⟨g, hg⟩ := d1.ext (by omega)
        simp only at hg
        subst hg
        exact ⟨_, _, ⟨d1, g1⟩, ⟨eback _ _ _ (q2 g), g2 _⟩, put_put n3 rfl⟩
    · omega
theorem Valid.put {e d : DI} {x : AV} {h : AH} (hv : d.Valid cx s) (hn : ∀ t ∈ d.ts, ∀ u, e.dst = some u → u ≠ t) (hl : s.h.length ≤ h.length) : d.Valid cx (s.put e.dst x h) := by
  cases d with
  | real => trivial
  | i y =>
    obtain ⟨dst, guard, body⟩ := y
    cases body with
    | call => trivial
    | op o =>
      have hh : (s.put e.dst x h).h = h := rfl
      simp only [DI.Valid] at hv ⊢
      intro a ha id hx
      rw [hh]
      have := hv a ha id (by rw [← hx, ev_congr fun t ht => (getD_put (hn t (by simp [DI.ts, rd_ts ha t ht]))).symm])
      omega
theorem Ev.len {d : DI} {r : AV} {h' : AH} (he : Ev cx d s r h') (hc : d.cls ≤ 2) : s.h.length ≤ h'.length := by
  by_cases k0 : d.cls = 0
  · rw [(Ev.pure (fr := s.fr) (h := s.h) k0 he).1]; exact Nat.le_refl _
  by_cases k1 : d.cls = 1
  · rw [(Ev.read (fr := s.fr) (h := s.h) k1 he).1]; exact Nat.le_refl _
  · obtain ⟨g, rfl⟩ := he.ext (by omega)
    simp
theorem Chain.first {pr : Pr} : ∀ (l1 : List DI) (l2 : List DI) (d : DI) (s s2 : XSt), Chain cx pr (l1 ++ d :: l2) s s2 → (∀ e ∈ l1, clash pr.sl e d = false ∧ sameDst e d = false) → d.Valid cx s → (d.cls = 1 → ∀ e ∈ l1, e.cls ≤ 2 ∨ e.isPs pr.sl = true) →
    ∃ r h', (Ev cx d s r h' ∧ Tag cx pr d s) ∧ Chain cx pr (l1 ++ l2) (s.put d.dst r h') s2
  | [], l2, d, s, s2, hc, _, _, _ => hc
  | e :: l1, l2, d, s, s2, hc, hcl, hv, hm => by
    obtain ⟨re, he, ⟨h1, t1⟩, h2⟩ := hc
    obtain ⟨c1, c2⟩ := hcl e (List.mem_cons_self)
    have n1 : ∀ t ∈ d.ts, ∀ u, e.dst = some u → u ≠ t := by
      rintro t ht u hu rfl
      simp only [clash, hu, Bool.or_eq_false_iff] at c1
      have := c1.1.1.1.1
      simp at this
      exact this ht
    have hv2 : d.Valid cx (s.put e.dst re he) := by
      by_cases k1 : d.cls = 1
      · refine Valid.put hv n1 ?_
        rcases hm k1 e List.mem_cons_self with hm1 | hm1
        · exact h1.len hm1
        · obtain ⟨id, y, rfl, _, _⟩ := h1.pset (pr := pr) hm1 t1
          simp
      · cases d with
        | real => trivial
        | i y =>
          obtain ⟨dst, guard, body⟩ := y
          cases body with
          | call => trivial
          | op o =>
            intro a ha
            cases o <;> simp only [XOp.rdOf] at ha <;> first | (cases ha; done) | (simp [DI.cls, XOp.cls] at k1)
    obtain ⟨r, h', ⟨q1, t2⟩, q2⟩ := Chain.first l1 l2 d _ s2 h2 (fun x hx => hcl x (List.mem_cons_of_mem _ hx)) hv2 (fun k x hx => hm k x (List.mem_cons_of_mem _ hx))
    obtain ⟨hd', he', p1, p2, p3⟩ := swap h1 q1 t1 t2 c1 c2 hv
    exact ⟨r, hd', p1, re, he', p2, by rw [← p3]; exact q2⟩
end
end Go.Eng

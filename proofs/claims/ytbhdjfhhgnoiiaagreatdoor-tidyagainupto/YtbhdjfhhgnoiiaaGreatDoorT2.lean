/- Part 2 of a proof: an abstract memory for the translated code, and what the functions that the law reaches do over it. -/
import Derived.OpenShut
import Derived.Deep.DeepHandedRow
import Derived.Deep.DeepWitnessRowRef
import Derived.Lib.LaidTab
import Derived.Test.YtbhdjfhhgnoiiaaGreatDoorProg
import Derived.Test.YtbhdjfhhgnoiiaaGreatDoorT1
namespace Go.Eng
open Go.RowKit
def hoist : List XI → Nat → List DI × AH
  | [], _ => ([], [])
  | x :: r, n => match x.body, x.guard with
    | .op (.alloc z), none => (.real x.dst n z :: (hoist r (n + 1)).1, .cells 0 (z.map .v) :: (hoist r (n + 1)).2)
    | _, _ => (.i x :: (hoist r n).1, (hoist r n).2)
def msk (ms : List Nat) (o : Oper) : Nat := (o.after.toList.filter (Region.binds .any)).foldl (fun m e => m ||| (2 ^ e.on ||| ms.getD e.on 0)) 0
def mgo : List Oper → List Nat → List Nat
  | [], ms => ms
  | o :: r, ms => mgo r (ms ++ [msk ms o])
def pairsOk (sl : List Nat) (ms : List Nat) (ds : List DI) : Bool :=
  (List.range ds.length).all fun i => (List.range i).all fun j => match ds[j]?, ds[i]? with
    | some e, some d => !sameDst e d && (!clash sl e d || (ms.getD i 0).testBit j)
    | _, _ => false
def edgesOk (ops : Array Oper) : Bool := (List.range ops.size).all fun i => match ops[i]? with
  | some o => o.after.toList.all fun e => !Region.binds .any e || decide (e.on < i)
  | none => true
def privs : List XI → List Nat
  | [] => []
  | x :: r => match x.body, x.guard, x.dst with
    | .op (.alloc _), none, some t => t :: privs r
    | _, _, _ => privs r
def drawOk (sl : List Nat) (ops : Array Oper) (xs : List XI) : Bool := edgesOk ops && pairsOk sl (mgo ops.toList []) (hoist xs 0).1
inductive Anc (ops : Array Oper) : Nat → Nat → Prop where
  | edge {i : Nat} {o : Oper} {e : Edge} (ho : ops[i]? = some o) (he : e ∈ o.after.toList) (hb : Region.binds .any e = true) : Anc ops i e.on
  | trans {i k j : Nat} (h1 : Anc ops i k) (h2 : Anc ops k j) : Anc ops i j
theorem fold_bit {ms : List Nat} {j : Nat} : ∀ (l : List Edge) (m : Nat), (l.foldl (fun m e => m ||| (2 ^ e.on ||| ms.getD e.on 0)) m).testBit j = true → m.testBit j = true ∨ ∃ e ∈ l, e.on = j ∨ (ms.getD e.on 0).testBit j = true
  | [], m, h => .inl h
  | e :: l, m, h => by
    rcases fold_bit l _ h with h1 | ⟨x, hx, h1⟩
    · rw [Nat.testBit_or, Nat.testBit_or, Bool.or_eq_true, Bool.or_eq_true, Nat.testBit_two_pow] at h1
      rcases h1 with h1 | h1 | h1
      · exact .inl h1
      · exact .inr ⟨e, List.mem_cons_self, .inl (by simpa using h1)⟩
      · exact .inr ⟨e, List.mem_cons_self, .inr h1⟩
    · exact .inr ⟨x, List.mem_cons_of_mem _ hx, h1⟩
theorem mgo_sound {ops : Array Oper} : ∀ (l : List Oper) (ms : List Nat), (∀ (k : Nat) o, l[k]? = some o → ops[ms.length + k]? = some o) → (∀ i j, (ms.getD i 0).testBit j = true → Anc ops i j) → ∀ i j, ((mgo l ms).getD i 0).testBit j = true → Anc ops i j
  | [], ms, _, h, i, j, hb => h i j hb
  | o :: l, ms, ho, h, i, j, hb => by
    refine mgo_sound l (ms ++ [msk ms o]) ?_ ?_ i j hb
    · intro k p hp
      have := ho (k + 1) p (by simpa using hp)
      rw [← this]
      congr 1
      simp; omega
    · intro i j hb
      rw [List.getD_eq_getElem?_getD, List.getElem?_append] at hb
      split at hb
      · exact h i j (by rw [List.getD_eq_getElem?_getD]; exact hb)
      · rename_i hlt
        by_cases hi : i = ms.length
        · subst hi
          simp at hb
          rcases fold_bit _ _ hb with h1 | ⟨e, he, h1⟩
          · simp at h1
          · rw [List.mem_filter] at he
            have ha : Anc ops ms.length e.on := .edge (ho 0 o rfl) he.1 he.2
            rcases h1 with rfl | h1
            · exact ha
            · exact ha.trans (h _ _ h1)
        · have : 1 ≤ i - ms.length := by omega
          rw [List.getElem?_eq_none (by simp; omega)] at hb
          simp at hb
theorem pairs_spec {sl : List Nat} {ms : List Nat} {ds : List DI} (h : pairsOk sl ms ds = true) {i j : Nat} (hj : j < i) {e d : DI} (he : ds[j]? = some e) (hd : ds[i]? = some d) : sameDst e d = false ∧ (clash sl e d = true → (ms.getD i 0).testBit j = true) := by
  have hi : i < ds.length := (List.getElem?_eq_some_iff.1 hd).1
  have h1 := List.all_eq_true.1 (List.all_eq_true.1 h i (List.mem_range.2 hi)) j (List.mem_range.2 hj)
  rw [he, hd] at h1
  simp only [Bool.and_eq_true, Bool.or_eq_true, Bool.not_eq_true'] at h1
  refine ⟨h1.1, fun hc => ?_⟩
  rcases h1.2 with h2 | h2
  · rw [hc] at h2; cases h2
  · exact h2
section
variable {cx : Cx} {ops : Array Oper} {φ : Phi} {s : XSt} {a : Act} {w : World}
theorem opd_all (y : XO) : ∃ z, y = opd z := by
  cases y with
  | t n => exact ⟨.tmp n, rfl⟩
  | k v => exact ⟨.const v, rfl⟩
  | g n => exact ⟨.global n, rfl⟩
  | f n => exact ⟨.func n, rfl⟩
theorem RepSt.xo (hs : RepSt cx φ s a w) (y : XO) : ∃ v, Rep cx.w0 cx.B φ (s.ev cx y) v := by
  obtain ⟨z, rfl⟩ := opd_all y
  exact ⟨_, hs.ev z⟩
theorem RepSt.ptr_at (hs : RepSt cx φ s a w) {y : XO} {id ver off : Nat} (h1 : s.ev cx y = .ptr id ver off) : ∃ rr, φ id ver = some rr := by
  obtain ⟨v, hv⟩ := hs.xo y
  rw [h1] at hv
  cases hv with
  | ptr _ _ _ b n h => exact ⟨_, h⟩
theorem RepSt.sl_at (hs : RepSt cx φ s a w) {y : XO} {id ver off len sz : Nat} (h1 : s.ev cx y = .sl id ver off len sz) : ∃ rr, φ id ver = some rr := by
  obtain ⟨v, hv⟩ := hs.xo y
  rw [h1] at hv
  cases hv with
  | sl _ _ _ _ _ b n cap h => exact ⟨_, h⟩
theorem RepSt.map_at (hs : RepSt cx φ s a w) {y : XO} {p : Nat × Nat × List (Nat × Value × AV)} (h1 : s.h.mapAt (s.ev cx y) = some p) : ∃ rr, φ p.1 0 = some rr := by
  obtain ⟨v, hv⟩ := hs.xo y
  generalize s.ev cx y = z at h1 hv
  cases hv <;> simp only [AH.mapAt] at h1 <;> (try (cases h1; done))
  split at h1
  · simp at h1; subst h1; exact ⟨_, by assumption⟩
  · cases h1
theorem xev_mut (hs : RepSt cx φ s a w) {x : XOp} (hc : x.cls = 3) {r : AV} {h' : AH} (he : xev cx s x = some (r, h')) : (∃ g, h' = s.h ++ g) ∨ ∃ id ver rr y, φ id ver = some rr ∧ h' = s.h.set id y := by
  cases x <;> simp only [XOp.cls] at hc <;> (try omega) <;> simp only [xev] at he
  case st n p q =>
    simp only [Option.map_eq_some_iff, Prod.mk.injEq] at he
    obtain ⟨hh, h1, rfl, rfl⟩ := he
    unfold xSt at h1
    split at h1
    · rename_i id ver off vs h2 _
      simp only [Option.bind_eq_some_iff] at h1
      obtain ⟨cs, hg, h1⟩ := h1
      split at h1
      · simp at h1
        obtain ⟨rr, hr⟩ := hs.ptr_at h2
        exact .inr ⟨id, ver, rr, _, hr, h1.symm⟩
      · cases h1
    · cases h1
  case app n m p q =>
    unfold xApp at he
    split at he
    · cases he
    · split at he
      · split at he
        · simp at he; exact .inl ⟨[], by simp [he.2]⟩
        · split at he
          · simp at he; exact .inl ⟨_, he.2.symm⟩
          · cases he
      · rename_i id ver off len sz' h2
        obtain ⟨rr, hr⟩ := hs.sl_at h2
        split at he
        · simp only [Option.bind_eq_some_iff] at he
          obtain ⟨cs, hg, he⟩ := he
          split at he
          · simp at he; exact .inl ⟨[], by simp [he.2]⟩
          · split at he
            · simp at he; exact .inr ⟨id, ver, rr, _, hr, he.2.symm⟩
            · split at he
              · simp at he; exact .inr ⟨id, ver, rr, _, hr, he.2.symm⟩
              · cases he
        · cases he
      · cases he
  case mup sh p q z =>
    simp only [xMup, Option.map_eq_some_iff, Prod.mk.injEq, Option.bind_eq_some_iff] at he
    obtain ⟨hh, ⟨kv, _, h1⟩, _, rfl⟩ := he
    split at h1
    · simp only [Option.bind_eq_some_iff, Option.map_eq_some_iff] at h1
      obtain ⟨p', hp, o, _, h2⟩ := h1
      obtain ⟨rr, hr⟩ := hs.map_at hp
      cases o <;> exact .inr ⟨p'.1, 0, rr, _, hr, h2.symm⟩
    · cases h1
  case men sh zz p q =>
    simp only [xMen, Option.bind_eq_some_iff] at he
    obtain ⟨kv, _, h1⟩ := he
    split at h1
    · simp only [Option.bind_eq_some_iff] at h1
      obtain ⟨p', hp, o, _, h2⟩ := h1
      obtain ⟨rr, hr⟩ := hs.map_at hp
      cases o with
      | none => simp at h2; exact .inr ⟨p'.1, 0, rr, _, hr, h2.2.symm⟩
      | some i =>
        simp only [Option.map_eq_some_iff, Prod.mk.injEq] at h2
        obtain ⟨_, _, _, h3⟩ := h2
        exact .inr ⟨p'.1, 0, rr, _, hr, h3.symm⟩
    · cases h1
  case mes p q z =>
    simp only [xMes, Option.map_eq_some_iff, Prod.mk.injEq] at he
    obtain ⟨hh, h1, _, rfl⟩ := he
    split at h1
    · simp only [Option.bind_eq_some_iff, Option.map_eq_some_iff] at h1
      obtain ⟨p', hp, o, _, h2⟩ := h1
      obtain ⟨rr, hr⟩ := hs.map_at hp
      exact .inr ⟨p'.1, 0, rr, _, hr, h2.symm⟩
    · cases h1
  case del sh p q =>
    simp only [xDel, Option.map_eq_some_iff, Prod.mk.injEq, Option.bind_eq_some_iff] at he
    obtain ⟨hh, ⟨kv, _, h1⟩, _, rfl⟩ := he
    split at h1
    · simp only [Option.bind_eq_some_iff, Option.map_eq_some_iff] at h1
      obtain ⟨p', hp, o, _, h2⟩ := h1
      obtain ⟨rr, hr⟩ := hs.map_at hp
      cases o with
      | none => exact .inl ⟨[], by simpa using h2.symm⟩
      | some i => exact .inr ⟨p'.1, 0, rr, _, hr, h2.symm⟩
    · cases h1
  case cpy n p q =>
    unfold xCpy at he
    split at he
    · cases he
    · split at he
      · simp at he; exact .inl ⟨[], by simp [he.2]⟩
      · rename_i id ver off len sz' h2
        obtain ⟨rr, hr⟩ := hs.sl_at h2
        split at he
        · simp only [Option.bind_eq_some_iff] at he
          obtain ⟨cs, hg, he⟩ := he
          split at he
          · simp at he; exact .inr ⟨id, ver, rr, _, hr, he.2.symm⟩
          · cases he
        · cases he
      · cases he
end
end Go.Eng
namespace Go.Eng
open Go.RowKit
theorem xcall_alloc {P : Program} {b : Builtin} {ts : List TypeId} {xs : List Operand} {z : List Value} (hx : xCall P b ts xs = some (.alloc z)) : False := by
  unfold xCall at hx
  split at hx
  all_goals (try (simp at hx; done))
  all_goals (split at hx <;> simp at hx)
theorem xop_alloc {P : Program} {op : Op} {z : List Value} (hx : xop P op = some (.alloc z)) : ∃ t zz, op = .alloc t ∧ (P.info? t).bind (·.zero) = some zz ∧ z = zz.cells.toList ∧ zz.cells.all (·.oneCell') = true := by
  cases op
  case alloc t =>
    simp only [xop] at hx
    obtain ⟨zz, h1, h2⟩ := Option.bind_eq_some_iff.1 hx
    split at h2
    · rename_i h3
      simp at h2
      exact ⟨t, zz, rfl, h1, h2.symm, h3⟩
    · cases h2
  case load t x =>
    exfalso
    simp only [xop] at hx
    obtain ⟨b, _, h2⟩ := Option.bind_eq_some_iff.1 hx
    cases b <;> simp at h2
  case binOp op t x y u =>
    exfalso
    simp only [xop] at hx
    split at hx
    · simp at hx
    · simp at hx
    · split at hx <;> simp at hx
    · split at hx
      · cases hx
      · split at hx <;> simp at hx
    · split at hx
      · split at hx <;> simp at hx
      · cases hx
    · simp at hx
  case convert =>
    exfalso
    simp only [xop] at hx
    split at hx <;> (try (simp at hx; done))
    all_goals (split at hx <;> simp at hx)
  case makeMap t r =>
    exfalso
    cases r <;> simp only [xop] at hx <;> split at hx <;> simp at hx
  case makeFunc fn first caps =>
    exfalso
    cases fn <;> simp only [xop] at hx
    all_goals (try (cases hx; done))
    split at hx <;> simp at hx
  case slice t x lo hi mx =>
    exfalso
    cases mx <;> simp only [xop] at hx
    all_goals (try (cases hx; done))
    split at hx <;> simp at hx
  case fieldAddr =>
    exfalso
    simp only [xop] at hx
    split at hx
    · obtain ⟨_, _, h2⟩ := Option.bind_eq_some_iff.1 hx
      obtain ⟨_, _, h2⟩ := Option.bind_eq_some_iff.1 h2
      split at h2 <;> simp at h2
    · cases hx
  case field =>
    exfalso
    simp only [xop] at hx
    split at hx
    · obtain ⟨_, _, h2⟩ := Option.bind_eq_some_iff.1 hx
      obtain ⟨b, _, h2⟩ := Option.bind_eq_some_iff.1 h2
      cases b <;> simp at h2
    · cases hx
  case indexAddr =>
    exfalso
    simp only [xop] at hx
    split at hx <;> simp at hx
  case index =>
    exfalso
    simp only [xop] at hx
    split at hx <;> simp at hx
  case build =>
    exfalso
    simp only [xop] at hx
    split at hx
    · split at hx
      · obtain ⟨_, _, h2⟩ := Option.bind_eq_some_iff.1 hx
        simp at h2
      · cases hx
    · cases hx
  case buildSlice =>
    exfalso
    simp only [xop] at hx
    split at hx
    · obtain ⟨_, _, h2⟩ := Option.bind_eq_some_iff.1 hx
      split at h2 <;> simp at h2
    · cases hx
  case makeSlice =>
    exfalso
    simp only [xop] at hx
    split at hx <;> simp at hx
  case call c =>
    exfalso
    simp only [xop] at hx
    split at hx
    · exact xcall_alloc hx
    · cases hx
  all_goals (exfalso; simp [xop] at hx)
theorem xbody_alloc {P : Program} {op : Op} {z : List Value} (hx : xbody P op = some (.op (.alloc z))) : xop P op = some (.alloc z) := by
  unfold xbody at hx
  split at hx
  · split at hx
    · simp at hx
    · simpa using hx
  · simpa using hx
section
variable {cx : Cx} {ops : Array Oper} {φ : Phi} {s : XSt} {a : Act} {w : World}
theorem hoist_get : ∀ (xs : List XI) (n : Nat), (hoist xs n).1.length = xs.length ∧ ∀ (k : Nat) x, xs[k]? = some x →
    (hoist xs n).1[k]? = some (.i x) ∨ ∃ z id, x.body = .op (.alloc z) ∧ x.guard = none ∧ (hoist xs n).1[k]? = some (.real x.dst id z) ∧ n ≤ id ∧ (hoist xs n).2[id - n]? = some (.cells 0 (z.map .v))
  | [], n => ⟨rfl, fun k x h => by simp at h⟩
  | x :: r, n => by
    obtain ⟨a1, a2⟩ := hoist_get r (n + 1)
    obtain ⟨b1, b2⟩ := hoist_get r n
    unfold hoist
    split
    · rename_i z hb hg
      refine ⟨by simp [a1], fun k y hy => ?_⟩
      cases k with
      | zero =>
        simp at hy
        subst hy
        exact .inr ⟨z, n, hb, hg, rfl, Nat.le_refl _, by simp⟩
      | succ k =>
        rcases a2 k y (by simpa using hy) with h1 | ⟨z', id, h1, h2, h3, h4, h5⟩
        · exact .inl (by simpa using h1)
        · refine .inr ⟨z', id, h1, h2, by simpa using h3, by omega, ?_⟩
          have : id - n = (id - (n + 1)) + 1 := by omega
          rw [this]
          simpa using h5
    · refine ⟨by simp [b1], fun k y hy => ?_⟩
      cases k with
      | zero => simp at hy; subst hy; exact .inl rfl
      | succ k =>
        rcases b2 k y (by simpa using hy) with h1 | ⟨z', id, h1, h2, h3, h4, h5⟩
        · exact .inl (by simpa using h1)
        · exact .inr ⟨z', id, h1, h2, by simpa using h3, h4, h5⟩
theorem hoist_lo : ∀ (xs : List XI) (n : Nat) (k : Nat) d id z, (hoist xs n).1[k]? = some (.real d id z) → n ≤ id
  | [], n, k, d, id, z, h => by simp [hoist] at h
  | x :: r, n, k, d, id, z, h => by
    unfold hoist at h
    split at h
    · cases k with
      | zero => simp at h; omega
      | succ k => have := hoist_lo r (n + 1) k d id z (by simpa using h); omega
    · cases k with
      | zero => simp at h
      | succ k => exact hoist_lo r n k d id z (by simpa using h)
theorem hoist_inj : ∀ (xs : List XI) (n : Nat) (k k' : Nat) d d' id z z', (hoist xs n).1[k]? = some (.real d id z) → (hoist xs n).1[k']? = some (.real d' id z') → k = k'
  | [], n, k, k', d, d', id, z, z', h, _ => by simp [hoist] at h
  | x :: r, n, k, k', d, d', id, z, z', h, h' => by
    unfold hoist at h h'
    split at h
    · split at h'
      · cases k with
        | zero =>
          cases k' with
          | zero => rfl
          | succ k' =>
            simp at h
            have := hoist_lo r (n + 1) k' d' id z' (by simpa using h')
            omega
        | succ k =>
          cases k' with
          | zero =>
            simp at h'
            have := hoist_lo r (n + 1) k d id z (by simpa using h)
            omega
          | succ k' => rw [hoist_inj r (n + 1) k k' d d' id z z' (by simpa using h) (by simpa using h')]
      · rename_i hh _ _ hn
        simp_all
    · split at h'
      · rename_i hn _ _ _ _
        simp_all
      · cases k with
        | zero => simp at h
        | succ k =>
          cases k' with
          | zero => simp at h'
          | succ k' => rw [hoist_inj r n k k' d d' id z z' (by simpa using h) (by simpa using h')]
theorem hoist_shape : ∀ (xs : List XI) (n m : Nat) (k : Nat) d d', (hoist xs n).1[k]? = some d → (hoist xs m).1[k]? = some d' → d.dst = d'.dst ∧ d.ts = d'.ts ∧ d.cls = d'.cls ∧ (∀ sl, d.isPs sl = d'.isPs sl) ∧ (∀ e, lm e d = lm e d') ∧ (∀ e, lm d e = lm d' e)
  | [], n, m, k, d, d', h, _ => by simp [hoist] at h
  | x :: r, n, m, k, d, d', h, h' => by
    unfold hoist at h h'
    split at h
    · split at h'
      · cases k with
        | zero => simp at h h'; subst h; subst h'; exact ⟨rfl, rfl, rfl, fun _ => rfl, fun _ => by simp [lm], fun _ => by simp [lm]⟩
        | succ k => exact hoist_shape r (n + 1) (m + 1) k d d' (by simpa using h) (by simpa using h')
      · simp_all
    · split at h'
      · simp_all
      · cases k with
        | zero => simp at h h'; subst h; subst h'; exact ⟨rfl, rfl, rfl, fun _ => rfl, fun _ => by simp [lm], fun _ => by simp [lm]⟩
        | succ k => exact hoist_shape r n m k d d' (by simpa using h) (by simpa using h')
theorem rep_valid (hs : RepSt cx φ s a w) (d : DI) : d.Valid cx s := by
  cases d with
  | real => trivial
  | i x =>
    obtain ⟨dst, guard, body⟩ := x
    cases body with
    | call => trivial
    | op o =>
      intro y _ id hid
      obtain ⟨v, hv⟩ := hs.xo y
      have hφ : ∃ ver rr, φ id ver = some rr := by
        generalize s.ev cx y = z at hid hv
        cases hv <;> simp only [AV.at_] at hid <;> (try (cases hid; done)) <;> cases hid
        · exact ⟨_, _, by assumption⟩
        · exact ⟨_, _, by assumption⟩
        · exact ⟨_, _, by assumption⟩
      obtain ⟨ver, rr, hr⟩ := hφ
      obtain ⟨o, ho, _⟩ := hs.world.dom _ _ _ hr
      exact (List.getElem?_eq_some_iff.1 ho).1
theorem Ev.keeps (hs : RepSt cx φ s a w) {d : DI} {r : AV} {h' : AH} (he : Ev cx d s r h') {id : Nat} (hid : id < s.h.length) (hn : ∀ v, φ id v = none) : h'[id]? = s.h[id]? := by
  have hext : (∃ g, h' = s.h ++ g) → h'[id]? = s.h[id]? := by
    rintro ⟨g, rfl⟩
    rw [List.getElem?_append_left hid]
  have hc := cls_le d
  by_cases k3 : d.cls = 3
  · cases d with
    | real => simp [DI.cls] at k3
    | i x =>
      obtain ⟨dst, guard, body⟩ := x
      cases body with
      | call => simp [DI.cls] at k3
      | op o =>
        have hx : xev cx s o = some (r, h') → h'[id]? = s.h[id]? := by
          intro hx
          rcases xev_mut hs k3 hx with hg | ⟨id', ver, rr, y, h1, rfl⟩
          · exact hext hg
          · rw [List.getElem?_set_ne]
            rintro rfl
            rw [hn] at h1
            cases h1
        simp only [Ev] at he
        cases guard with
        | none => exact hx he
        | some p =>
          simp only at he
          rcases he with ⟨_, h2⟩ | ⟨_, _, h3⟩
          · exact hx h2
          · rw [h3]
  · by_cases k0 : d.cls = 0
    · rw [(Ev.pure (fr := s.fr) (h := s.h) k0 he).1]
    · by_cases k1 : d.cls = 1
      · rw [(Ev.read (fr := s.fr) (h := s.h) k1 he).1]
      · exact hext (he.ext (by omega))
theorem ev_step {o : Oper} {x : XI} {r : AV} {h' : AH} (hx : xi cx.P ops o = some x) (hs : RepSt cx φ s a w) (he : Ev cx (.i x) s r h') {K : Act → World → Prop} {Q : Exit → Act → World → Prop}
    (hn : ∀ φ' a' w', RepSt cx φ' (s.put x.dst r h') a' w' → Step φ s.h w φ' h' w' → K a' w') :
    if Region.wanted o (yielded ops a.tmps) = true then o.wp cx.P a w K Q ∨ (o.asks cx.P a w ∧ LetsOut Q) else K (a.put o.dst undef) w := by
  unfold xi at hx
  split at hx
  · rename_i g b hg hb
    simp at hx
    subst hx
    have hrun : BodyEv cx s r h' b → o.wp cx.P a w K Q := by
      intro hbe
      refine wi_sound (g := g) (K := fun s1 => s1 = s.put o.dst r h') hb ?_ hs ?_
      · cases b with
        | op x => exact ⟨r, h', hbe, rfl⟩
        | call f args =>
          obtain ⟨gf, caps, g', h1, h2, h3⟩ := hbe
          exact ⟨gf, caps, h1, h2.mono fun r2 h2 ⟨e1, e2⟩ => by rw [e1, e2]⟩
      · rintro φ' s' a' w' h1 h2 rfl
        exact hn φ' a' w' h1 h2
    have hskip : r = .und → h' = s.h → K (a.put o.dst undef) w := by
      rintro rfl rfl
      exact hn φ _ w (put_rep hs (Ext.refl _) hs.world o.dst .und) (Step.refl _ _ _)
    cases hgd : o.guard with
    | none =>
      rw [hgd] at hg
      simp [xguard] at hg
      subst hg
      rw [if_pos (by simp [Region.wanted, hgd])]
      exact .inl (hrun he)
    | some p =>
      obtain ⟨j, want⟩ := p
      rw [hgd] at hg
      simp only [xguard, Option.map_eq_some_iff] at hg
      obtain ⟨t, ht, rfl⟩ := hg
      have hyield : ∀ v, a.tmps[t]? = some v → yielded ops a.tmps j = (match v with | .bool b => some b | _ => none) := by
        intro v hv
        simp only [yielded, ht, Option.bind_some, hv]
        cases v <;> rfl
      have hslot : ∀ y, s.fr.getD t .un = y → y ≠ .un → ∃ v, a.tmps[t]? = some v ∧ Rep cx.w0 cx.B φ y v := by
        intro y hy hne
        rw [List.getD_eq_getElem?_getD] at hy
        cases h1 : s.fr[t]? with
        | none => rw [h1] at hy; simp at hy; exact (hne hy.symm).elim
        | some z =>
          rw [h1] at hy
          simp at hy
          subst hy
          have hlt : t < a.tmps.size := by rw [← hs.len]; exact (List.getElem?_eq_some_iff.1 h1).1
          exact ⟨_, Array.getElem?_eq_getElem hlt, hs.slot t _ _ h1 (Array.getElem?_eq_getElem hlt)⟩
      simp only [Ev] at he
      rcases he with ⟨h1, h2⟩ | ⟨h1, h2, h3⟩
      · obtain ⟨v, hv, hr⟩ := hslot _ h1 (by simp)
        have := rep_v hr
        subst this
        rw [if_pos (by simp [Region.wanted, hgd, hyield _ hv])]
        exact .inl (hrun h2)
      · rcases h1 with h1 | h1
        · obtain ⟨v, hv, hr⟩ := hslot _ h1 (by simp)
          have := rep_v hr
          subst this
          rw [if_neg (by simp [Region.wanted, hgd, hyield _ hv])]
          exact hskip h2 h3
        · obtain ⟨v, hv, hr⟩ := hslot _ h1 (by simp)
          have := rep_und hr
          subst this
          rw [if_neg (by simp [Region.wanted, hgd, hyield _ hv, undef])]
          exact hskip h2 h3
  · cases hx
theorem real_step {o : Oper} {x : XI} {id : Nat} {z : List Value} (hx : xi cx.P ops o = some x) (hb : x.body = .op (.alloc z)) (hg : x.guard = none) (hs : RepSt cx φ s a w) (ho : s.h[id]? = some (.cells 0 (z.map .v))) (hn0 : ∀ v, φ id v = none)
    {φ0 : Phi} {h0 : AH} {w00 : World} (hst : Step φ0 h0 w00 φ s.h w) (hid : h0.length ≤ id) {K : Act → World → Prop} {Q : Exit → Act → World → Prop}
    (hn : ∀ φ' a' w', RepSt cx φ' (s.put x.dst (.ptr id 0 0) s.h) a' w' → Step φ0 h0 w00 φ' s.h w' → (∀ id' v, id' ≠ id → φ' id' v = φ id' v) → K a' w') :
    if Region.wanted o (yielded ops a.tmps) = true then o.wp cx.P a w K Q ∨ (o.asks cx.P a w ∧ LetsOut Q) else K (a.put o.dst undef) w := by
  unfold xi at hx
  split at hx
  · rename_i g b hgd hbd
    simp at hx
    subst hx
    simp only at hb hg hn
    subst hb; subst hg
    have hguard : o.guard = none := by
      cases h1 : o.guard with
      | none => rfl
      | some p =>
        rw [h1] at hgd
        obtain ⟨j, want⟩ := p
        simp only [xguard, Option.map_eq_some_iff] at hgd
        obtain ⟨_, _, h2⟩ := hgd
        cases h2
    rw [if_pos (by simp [Region.wanted, hguard])]
    obtain ⟨t, zz, hop, hz, rfl, hone⟩ := xop_alloc (xbody_alloc hbd)
    have hzr : (zeroValue t).run cx.P w = .ok zz w := run_zero_of hz w
    have hvv : ∀ (k : Nat) x v, (zz.cells.toList.map AV.v)[k]? = some x → zz.cells[k]? = some v → x = .v v := by
      intro k x v hx hv
      rw [List.getElem?_map, Array.getElem?_toList, hv] at hx
      simpa using hx.symm
    have ha := Adds.alloc w (.cells zz.cells t)
    obtain ⟨g1, g2⟩ := hs.world.real ho rfl hn0 ha ((zz.cells.toList.map AV.v).length, zz.cells.size)
      (repO_new (w0 := cx.w0) (B := cx.B) (φ := φ) ha.new (by simp) (fun k x v hx hv => by rw [hvv k x v hx hv]; exact .v _) (fun k v _ hv => all_mem hone v (Array.mem_toList_iff.2 (Array.mem_of_getElem? hv)))) hst hid
    refine .inl ?_
    have hrun : (execOp a.eval o).run cx.P w = .ok (.value (.pointer (some ⟨w.heap.size, 0, none⟩))) (w.alloc (.cells zz.cells t)) := by
      simp [execOp, hop, Instr.alloc, hzr, newVar, run_newRow]
    simp only [Oper.wp, hrun]
    refine hn _ _ _ (put_rep hs (newPhi_ext (hn0 0) _ _) g1 o.dst (.ptr _ _ _ _ _ (newPhi_self _ _ _ _ _))) g2 ?_
    intro id' v hne
    unfold newPhi
    rw [if_neg (by omega)]
  · cases hx
end
end Go.Eng
namespace Go.Eng
open Go.RowKit
section
variable {cx : Cx} {ops : Array Oper}
theorem anc_listed {listed : Array Bool} (hcl : ∀ (k : Nat) o, ops[k]? = some o → listed.getD k false = true → ∀ e ∈ o.after.toList, Region.binds .any e = true → listed.getD e.on false = true) {i j : Nat} (ha : Anc ops i j)
    (hi : ∀ o, ops[i]? = some o → ∀ e ∈ o.after.toList, Region.binds .any e = true → listed.getD e.on false = true) : listed.getD j false = true := by
  induction ha with
  | edge ho he hb => exact hi _ ho _ he hb
  | trans h1 h2 ih1 ih2 =>
    have := ih1 hi
    exact ih2 (fun o ho => hcl _ o ho this)
theorem getD_set {listed : Array Bool} {i k : Nat} {d : Bool} (hi : i < listed.size) : (listed.setIfInBounds i true).getD k d = if k = i then true else listed.getD k d := by
  rw [Array.getD_eq_getD_getElem?, Array.getD_eq_getD_getElem?]
  by_cases h : k = i
  · subst h
    rw [Array.getElem?_setIfInBounds_self_of_lt hi]
    simp
  · rw [Array.getElem?_setIfInBounds_ne (fun e => h e.symm), if_neg h]
instance : Inhabited DI := ⟨.real none 0 []⟩
structure Inv (cx : Cx) (pr : Pr) (ops : Array Oper) (ds : List DI) (φ0 : Phi) (h0 : AH) (w0 : World) (s2 : XSt) (listed : Array Bool) (L : List Nat) (φ : Phi) (s : XSt) (a : Act) (w : World) : Prop where
  size : listed.size = ops.size
  mem : ∀ k, k ∈ L ↔ k < ops.size ∧ listed.getD k true = false
  sorted : L.Pairwise (· < ·)
  closed : ∀ (k : Nat) o, ops[k]? = some o → listed.getD k false = true → ∀ e ∈ o.after.toList, Region.binds .any e = true → listed.getD e.on false = true
  rep : RepSt cx φ s a w
  step : Step φ0 h0 w0 φ s.h w
  chain : Chain cx pr (L.map fun k => ds.getD k default) s s2
  virt : ∀ k ∈ L, ∀ d id z, ds[k]? = some (.real d id z) → (∀ v, φ id v = none) ∧ s.h[id]? = some (.cells 0 (z.map .v)) ∧ h0.length ≤ id
theorem drw_any {xs : List XI} (hx : xis cx.P ops ops.toList = some xs) {n0 : Nat} {ds : List DI} (hds : ds = (hoist xs n0).1) {pr : Pr} (hok : drawOk pr.sl ops xs = true) {φ0 : Phi} {h0 : AH} {w0 : World} {s2 : XSt} {Q : Exit → Act → World → Prop}
    (hend : ∀ φ' a' w', RepSt cx φ' s2 a' w' → Step φ0 h0 w0 φ' s2.h w' → Q .normal a' w') :
    ∀ (fuel : Nat) (listed : Array Bool) (L : List Nat) (φ : Phi) (s : XSt) (a : Act) (w : World), L.length = fuel → Inv cx pr ops ds φ0 h0 w0 s2 listed L φ s a w → wpAny cx.P .any ops Q fuel listed a w := by
  obtain ⟨hlen, hget⟩ := xis_get _ _ hx
  obtain ⟨hhl, hhg⟩ := hoist_get xs n0
  have hdl : ds.length = ops.size := by rw [hds, hhl, ← hlen]; simp
  have hpairs : ∀ i j e d, j < i → ds[j]? = some e → ds[i]? = some d → sameDst e d = false ∧ (clash pr.sl e d = true → Anc ops i j) := by
    intro i j e d hj he hd
    rw [hds] at he hd
    unfold drawOk at hok
    rw [Bool.and_eq_true] at hok
    have hl0 := (hoist_get xs 0).1
    have hi0 : i < (hoist xs 0).1.length := by rw [hl0, ← hhl]; exact (List.getElem?_eq_some_iff.1 hd).1
    have hj0 : j < (hoist xs 0).1.length := by omega
    obtain ⟨e1, e2, e3, e4, _, e5⟩ := hoist_shape xs n0 0 j e _ he (List.getElem?_eq_getElem hj0)
    obtain ⟨d1, d2, d3, d4, d5, _⟩ := hoist_shape xs n0 0 i d _ hd (List.getElem?_eq_getElem hi0)
    obtain ⟨p1, p2⟩ := pairs_spec hok.2 hj (List.getElem?_eq_getElem hj0) (List.getElem?_eq_getElem hi0)
    refine ⟨?_, fun hc => ?_⟩
    · rw [← p1]; simp only [sameDst, e1, d1]
    · refine mgo_sound ops.toList [] (fun k o ho => by simpa using ho) (fun i j hb => by simp at hb) i j (p2 ?_)
      rw [← hc]; simp only [clash, e1, e2, e3, e4, e5, d1, d2, d3, d4, d5]
  have hedge : ∀ (i : Nat) o, ops[i]? = some o → ∀ e ∈ o.after.toList, Region.binds .any e = true → e.on < i := by
    intro i o ho e he hb
    unfold drawOk at hok
    rw [Bool.and_eq_true] at hok
    have := List.all_eq_true.1 hok.1 i (List.mem_range.2 (Array.getElem?_eq_some_iff.1 ho).1)
    rw [ho] at this
    simpa [hb] using List.all_eq_true.1 this e he
  intro fuel
  induction fuel with
  | zero =>
    intro listed L φ s a w hL hI
    have hL0 : L = [] := List.eq_nil_of_length_eq_zero hL
    subst hL0
    have hc := hI.chain
    simp only [List.map_nil, Chain] at hc
    subst hc
    refine ⟨?_, hend φ a w hI.rep hI.step⟩
    unfold Region.ready
    rw [List.filter_eq_nil_iff]
    intro k hk
    have hk' : k < ops.size := List.mem_range.1 hk
    have hl : listed.getD k true = true := by
      cases h1 : listed.getD k true with
      | true => rfl
      | false => exact absurd ((hI.mem k).2 ⟨hk', h1⟩) (by simp)
    simp [hl]
  | succ fuel ih =>
    intro listed L φ s a w hL hI
    refine ⟨?_, ?_⟩
    ·
      intro hr
      exfalso
      cases L with
      | nil => simp at hL
      | cons k L' =>
        obtain ⟨hk, hkl⟩ := (hI.mem k).1 List.mem_cons_self
        have hkr : k ∈ Region.ready .any ops listed := by
          unfold Region.ready
          rw [List.mem_filter, List.mem_range]
          refine ⟨hk, ?_⟩
          rw [hkl, Array.getElem?_eq_getElem hk]
          simp only [Bool.not_false, Bool.true_and, Option.map_some, Option.getD_some]
          rw [Array.all_eq_true]
          intro x hx2
          by_cases hb : Region.binds .any ops[k].after[x] = true
          · rw [hb]
            simp only [Bool.not_true, Bool.false_or]
            have hlt := hedge k _ (Array.getElem?_eq_getElem hk) ops[k].after[x] (by simp) hb
            cases h1 : listed.getD ops[k].after[x].on false with
            | true => rfl
            | false =>
              exfalso
              have h2 : listed.getD ops[k].after[x].on true = false := by
                rw [Array.getD_eq_getD_getElem?] at h1 ⊢
                rw [Array.getElem?_eq_getElem (by rw [hI.size]; omega)] at h1 ⊢
                simpa using h1
              have h3 := (hI.mem ops[k].after[x].on).2 ⟨by omega, h2⟩
              have hs := hI.sorted
              rw [List.pairwise_cons] at hs
              rcases List.mem_cons.1 h3 with h4 | h4
              · omega
              · have := hs.1 _ h4
                omega
          · simp [hb]
        rw [hr] at hkr
        cases hkr
    · intro i hi
      unfold Region.ready at hi
      rw [List.mem_filter, List.mem_range] at hi
      obtain ⟨hin, hi2⟩ := hi
      rw [Bool.and_eq_true] at hi2
      have hil : listed.getD i true = false := by simpa using hi2.1
      have hneeds : ∀ o, ops[i]? = some o → ∀ e ∈ o.after.toList, Region.binds .any e = true → listed.getD e.on false = true := by
        intro o ho e he hb
        rw [ho] at hi2
        simp only [Option.map_some, Option.getD_some] at hi2
        have := Array.all_eq_true.1 hi2.2
        obtain ⟨k, hk, rfl⟩ := List.getElem_of_mem he
        have := this k (by simpa using hk)
        simp only [Array.getElem_toList] at hb ⊢
        rw [hb] at this
        simpa using this
      have hiL : i ∈ L := (hI.mem i).2 ⟨hin, hil⟩
      obtain ⟨A, B, rfl⟩ := List.append_of_mem hiL
      have hsort := hI.sorted
      rw [List.pairwise_append] at hsort
      obtain ⟨sA, sB, sAB⟩ := hsort
      rw [List.pairwise_cons] at sB
      have hdi : ∃ d, ds[i]? = some d := ⟨_, List.getElem?_eq_getElem (by omega)⟩
      obtain ⟨d, hd⟩ := hdi
      have hAd : ∀ k ∈ A, ∃ e, ds[k]? = some e ∧ clash pr.sl e d = false ∧ sameDst e d = false := by
        intro k hk
        obtain ⟨hk1, hk2⟩ := (hI.mem k).1 (List.mem_append_left _ hk)
        have hki : k < i := sAB k hk i List.mem_cons_self
        have he : ds[k]? = some ds[k] := List.getElem?_eq_getElem (by omega)
        obtain ⟨p1, p2⟩ := hpairs i k _ _ hki he hd
        refine ⟨_, he, ?_, p1⟩
        cases hc : clash pr.sl ds[k] d with
        | false => rfl
        | true =>
          have := anc_listed hI.closed (p2 hc) hneeds
          rw [Array.getD_eq_getD_getElem?] at hk2 this
          rw [Array.getElem?_eq_getElem (by rw [hI.size]; exact hk1)] at hk2 this
          simp at hk2 this
          rw [hk2] at this
          cases this
      have hdd : ds.getD i default = d := by rw [List.getD_eq_getElem?_getD, hd]; rfl
      have hch := hI.chain
      rw [List.map_append, List.map_cons, hdd] at hch
      have hvalid := rep_valid hI.rep d
      have hAcl : ∀ e ∈ A.map (fun k => ds.getD k default), clash pr.sl e d = false ∧ sameDst e d = false := by
        intro e he
        rw [List.mem_map] at he
        obtain ⟨k, hk, rfl⟩ := he
        obtain ⟨e', h1, h2, h3⟩ := hAd k hk
        rw [List.getD_eq_getElem?_getD, h1]
        exact ⟨h2, h3⟩
      obtain ⟨r, h', ⟨hev, htg⟩, hrest⟩ := Chain.first _ _ d s s2 hch hAcl hvalid (by
        intro hd1 e he
        have := (hAcl e he).1
        simp only [clash, Bool.or_eq_false_iff, Bool.and_eq_false_iff, decide_eq_false_iff_not] at this
        have h3 := this.2
        have := cls_le e
        by_cases hp : e.isPs pr.sl = true
        · exact .inr hp
        · refine .inl ?_
          simp [hd1, hp] at h3
          omega)
      rw [← List.map_append] at hrest
      have hmem' : ∀ k, k ∈ A ++ B ↔ k < ops.size ∧ (listed.setIfInBounds i true).getD k true = false := by
        intro k
        rw [getD_set (by rw [hI.size]; exact hin)]
        have hm := hI.mem k
        have hnA : i ∉ A := fun h => by have := sAB i h i List.mem_cons_self; omega
        have hnB : i ∉ B := fun h => by have := sB.1 i h; omega
        constructor
        · intro hk
          have hki : k ≠ i := by
            rintro rfl
            rcases List.mem_append.1 hk with h | h
            · exact hnA h
            · exact hnB h
          rw [if_neg hki]
          refine hm.1 ?_
          rcases List.mem_append.1 hk with h | h
          · exact List.mem_append_left _ h
          · exact List.mem_append_right _ (List.mem_cons_of_mem _ h)
        · rintro ⟨h1, h2⟩
          split at h2
          · cases h2
          · rename_i hki
            have := hm.2 ⟨h1, h2⟩
            rcases List.mem_append.1 this with h | h
            · exact List.mem_append_left _ h
            · rcases List.mem_cons.1 h with h | h
              · exact (hki h).elim
              · exact List.mem_append_right _ h
      have hsort' : (A ++ B).Pairwise (· < ·) := by
        rw [List.pairwise_append]
        exact ⟨sA, sB.2, fun x hx y hy => sAB x hx y (List.mem_cons_of_mem _ hy)⟩
      have hclosed' : ∀ (k : Nat) o, ops[k]? = some o → (listed.setIfInBounds i true).getD k false = true → ∀ e ∈ o.after.toList, Region.binds .any e = true → (listed.setIfInBounds i true).getD e.on false = true := by
        intro k o ho hk e he hb
        rw [getD_set (by rw [hI.size]; exact hin)] at hk ⊢
        split at hk
        · rename_i hki
          subst hki
          split
          · rfl
          · exact hneeds o ho e he hb
        · split
          · rfl
          · exact hI.closed k o ho hk e he hb
      obtain ⟨o, ho⟩ : ∃ o, ops[i]? = some o := ⟨_, Array.getElem?_eq_getElem hin⟩
      obtain ⟨x, hxx⟩ : ∃ x, xs[i]? = some x := ⟨_, List.getElem?_eq_getElem (by rw [← hlen]; simpa using hin)⟩
      have hxi := hget i o x (by simpa using ho) hxx
      have hsub : ∀ k ∈ A ++ B, k ∈ A ++ i :: B := by
        intro k hk
        rcases List.mem_append.1 hk with h | h
        · exact List.mem_append_left _ h
        · exact List.mem_append_right _ (List.mem_cons_of_mem _ h)
      have hlt : ∀ k ∈ A ++ B, k ≠ i := by
        rintro k hk rfl
        have := (hmem' k).1 hk
        rw [getD_set (by rw [hI.size]; exact hin), if_pos rfl] at this
        cases this.2
      have hlenL : (A ++ B).length = fuel := by simp at hL ⊢; omega
      unfold wpOp
      rw [ho]
      simp only
      rcases hhg i x hxx with h1 | ⟨z, id, h1, h2, h3, h4, h5⟩
      · rw [← hds, hd] at h1
        cases h1
        refine ev_step hxi hI.rep hev ?_
        intro φ' a' w' q1 q2
        refine ih _ (A ++ B) φ' _ a' w' hlenL ⟨by simp [hI.size], hmem', hsort', hclosed', q1, hI.step.trans q2, hrest, ?_⟩
        intro k hk d' id' z' hd'
        obtain ⟨v1, v2, v3⟩ := hI.virt k (hsub k hk) d' id' z' hd'
        have hidl := (List.getElem?_eq_some_iff.1 v2).1
        refine ⟨q2.vir id' hidl v1, ?_, v3⟩
        show h'[id']? = _
        rw [hev.keeps hI.rep hidl v1, v2]
      · rw [← hds, hd] at h3
        cases h3
        obtain ⟨v1, v2, v3⟩ := hI.virt i hiL _ _ _ hd
        obtain ⟨rfl, rfl⟩ := hev
        refine real_step hxi h1 h2 hI.rep v2 v1 hI.step v3 ?_
        intro φ' a' w' q1 q2 q3
        refine ih _ (A ++ B) φ' _ a' w' hlenL ⟨by simp [hI.size], hmem', hsort', hclosed', q1, q2, hrest, ?_⟩
        intro k hk d' id' z' hd'
        obtain ⟨u1, u2, u3⟩ := hI.virt k (hsub k hk) d' id' z' hd'
        have hne : id' ≠ id := by
          rintro rfl
          rw [hds] at hd hd'
          exact hlt k hk (hoist_inj xs n0 k i _ _ _ _ _ hd' hd)
        exact ⟨fun v => by rw [q3 id' v hne]; exact u1 v, u2, u3⟩
end
end Go.Eng
namespace Go.Eng
open Go.RowKit
def wdi (cx : Cx) (i : XI) (s : XSt) (K : XSt → Prop) : Prop :=
  match i.body with
  | .op x => ∃ r h, xev cx s x = some (r, h) ∧ K (s.put i.dst r h)
  | .call f args => ∃ g caps, s.ev cx f = .fn g caps ∧ ∃ r g', SimCall cx g (args.map (s.ev cx) ++ caps) s.h (fun r2 h2 => r2 = r ∧ h2 = s.h ++ g') ∧ K (s.put i.dst r (s.h ++ g'))
def tagP (cx : Cx) (pr : Option Pr) (x : XI) (s : XSt) : Prop :=
  match pr with
  | none => True
  | some pr => match x.body with
    | .op o => (match o.rdOf with
      | some y => match (s.ev cx y).at_ with
        | some id => id < pr.lo ∨ pr.hi ≤ id
        | none => True
      | none => True) ∧ match o with
      | .st _ a _ => DI.isPs pr.sl (.i x) = true → match s.ev cx a with
        | .ptr id _ _ => pr.lo ≤ id ∧ id < pr.hi
        | _ => False
      | _ => True
    | _ => True
def wds (cx : Cx) (pr : Option Pr) : List DI → XSt → (XSt → Prop) → Prop
  | [], s, K => K s
  | .real d id _ :: r, s, K => wds cx pr r (s.put d (.ptr id 0 0) s.h) K
  | .i x :: r, s, K => tagP cx pr x s ∧ match x.guard with
    | none => wdi cx x s fun s' => wds cx pr r s' K
    | some (t, b) => match s.fr.getD t .un with
      | .v (.bool c) => (c = b → wdi cx x s fun s' => wds cx pr r s' K) ∧ (c = !b → wds cx pr r (s.put x.dst .und s.h) K)
      | .und => wds cx pr r (s.put x.dst .und s.h) K
      | _ => False
def prOf (sl : Option (List Nat)) (l : List XI) (n : Nat) : Option Pr := match sl with
  | none => none
  | some sl => some ⟨n, n + (hoist l n).2.length, sl⟩
def wdr (cx : Cx) (sl : Option (List Nat)) (l : List XI) (s : XSt) (K : XSt → Prop) : Prop := wds cx (prOf sl l s.h.length) (hoist l s.h.length).1 ⟨s.fr, s.h ++ (hoist l s.h.length).2⟩ K
def Pr.of : Option Pr → Pr
  | none => ⟨0, 0, []⟩
  | some pr => pr
theorem tag_of {cx : Cx} {pr : Option Pr} {x : XI} {s : XSt} (h : tagP cx pr x s) : Tag cx (Pr.of pr) (.i x) s := by
  obtain ⟨dst, guard, body⟩ := x
  cases body with
  | call => trivial
  | op o =>
    cases pr with
    | none =>
      refine ⟨fun _ _ _ _ => .inr (Nat.zero_le _), fun hp => ?_⟩
      simp only [DI.isPs] at hp
      split at hp
      · simp [Pr.of] at hp
      · cases hp
    | some pr =>
      simp only [tagP] at h
      refine ⟨fun y hy id hid => ?_, fun hp n a z ho => ?_⟩
      · have := h.1
        rw [hy] at this
        simp only [hid] at this
        exact this
      · subst ho
        have := h.2 hp
        split at this
        · rename_i id ver off he
          exact ⟨id, ver, off, he, this⟩
        · exact this.elim
theorem wdi_ev {cx : Cx} {i : XI} {s : XSt} {K : XSt → Prop} (h : wdi cx i s K) : ∃ r h', BodyEv cx s r h' i.body ∧ K (s.put i.dst r h') := by
  obtain ⟨dst, guard, body⟩ := i
  cases body with
  | op x => exact h
  | call f args =>
    obtain ⟨g, caps, h1, r, g', h2, h3⟩ := h
    exact ⟨r, _, ⟨g, caps, g', h1, h2, rfl⟩, h3⟩
theorem wds_chain {cx : Cx} {pr : Option Pr} : ∀ (l : List DI) (s : XSt) (K : XSt → Prop), wds cx pr l s K → ∃ s2, Chain cx (Pr.of pr) l s s2 ∧ K s2
  | [], s, K, h => ⟨s, rfl, h⟩
  | .real d id z :: r, s, K, h => by
    obtain ⟨s2, h1, h2⟩ := wds_chain r _ K h
    exact ⟨s2, ⟨_, _, ⟨⟨rfl, rfl⟩, trivial⟩, h1⟩, h2⟩
  | .i x :: r, s, K, h => by
    have hrun : (wdi cx x s fun s' => wds cx pr r s' K) → ∃ re h', BodyEv cx s re h' x.body ∧ ∃ s2, Chain cx (Pr.of pr) r (s.put x.dst re h') s2 ∧ K s2 := by
      intro h
      obtain ⟨re, h', h1, h2⟩ := wdi_ev h
      exact ⟨re, h', h1, wds_chain r _ K h2⟩
    have htg := tag_of h.1
    obtain ⟨dst, guard, body⟩ := x
    simp only [wds] at h
    replace h := h.2
    cases guard with
    | none =>
      obtain ⟨re, h', h1, s2, h2, h3⟩ := hrun h
      exact ⟨s2, ⟨re, h', ⟨h1, htg⟩, h2⟩, h3⟩
    | some p =>
      obtain ⟨t, b⟩ := p
      simp only at h
      split at h
      · rename_i c hc
        by_cases hcb : c = b
        · obtain ⟨re, h', h1, s2, h2, h3⟩ := hrun (h.1 hcb)
          exact ⟨s2, ⟨re, h', ⟨.inl ⟨by rw [hc, hcb], h1⟩, htg⟩, h2⟩, h3⟩
        · have hcb' : c = !b := by cases c <;> cases b <;> simp_all
          obtain ⟨s2, h2, h3⟩ := wds_chain r _ K (h.2 hcb')
          exact ⟨s2, ⟨_, _, ⟨.inr ⟨.inl (by rw [hc, hcb']), rfl, rfl⟩, htg⟩, h2⟩, h3⟩
      · rename_i hc
        obtain ⟨s2, h2, h3⟩ := wds_chain r _ K h
        exact ⟨s2, ⟨_, _, ⟨.inr ⟨.inr hc, rfl, rfl⟩, htg⟩, h2⟩, h3⟩
      · exact h.elim
def xdraw (P : Program) (ops : Array Oper) (l : List XI) : Option XCode :=
  if P.follows .mixedOrders || !Region.departs ops then
    if drawOk [] ops l then some (.drw none l)
    else if drawOk (privs l) ops l then some (.drw (some (privs l)) l) else none
  else none
theorem xdraw_some {P : Program} {ops : Array Oper} {l : List XI} {x : XCode} (h : xdraw P ops l = some x) : (P.follows .mixedOrders || !Region.departs ops) = true ∧ ∃ sl, x = .drw sl l ∧ ∀ n, drawOk (Pr.of (prOf sl l n)).sl ops l = true := by
  unfold xdraw at h
  split at h
  · rename_i h1
    refine ⟨h1, ?_⟩
    split at h
    · rename_i h2
      simp at h
      exact ⟨none, h.symm, fun _ => h2⟩
    · split at h
      · rename_i h2
        simp at h
        exact ⟨_, h.symm, fun _ => h2⟩
      · cases h
  · cases h
def xcode (P : Program) : Code → Option XCode
  | .skip | .label _ => some .skip
  | .region _ ops draw => (xis P ops ops.toList).bind fun l => if draw then xdraw P ops l else some (.reg l)
  | .seq a b => match xcode P a, xcode P b with
    | some x, some y => some (.seq x y)
    | _, _ => none
  | .cond c a b => match xcode P a, xcode P b with
    | some x, some y => some (.cond (opd c) x y)
    | _, _ => none
  | .block id c => (xcode P c).map (.block id)
  | .loop c => (xcode P c).map .loop
  | .scope c => xcode P c
  | .exit id => some (.exit id)
  | .ret => some .ret
  | _ => none
section
variable {cx : Cx}
def SimC (cx : Cx) (c : Code) (s : XSt) (K : XEx → XSt → Prop) : Prop :=
  ∀ (φ : Phi) (a : Act) (w : World) (Q : Exit → Act → World → Prop), RepSt cx φ s a w →
    (∀ e φ' s' a' w', RepSt cx φ' s' a' w' → Step φ s.h w φ' s'.h w' → K e s' → Q e.out a' w') → c.wp cx.P Q a w
def LoopWp (P : Program) (c : Code) (Q : Exit → Act → World → Prop) (a : Act) (w : World) : Prop :=
  ∀ (b : Frame) (k : List Item) (cs : List Frame), ∃ e a' w', Q e a' w' ∧ Arrives P (lone (b.at a (.code c :: .inLoop c :: k)) cs w) b k cs e a' w'
theorem LoopWp.wp {P : Program} {c : Code} {Q : Exit → Act → World → Prop} {a : Act} {w : World} (h : LoopWp P c Q a w) : (Code.loop c).wp P Q a w :=
  fun b k cs => let ⟨e, a', w', q, r⟩ := h b k cs; ⟨e, a', w', q, .of_steps (.one step_loop) r⟩
theorem LoopWp.unroll {P : Program} {c : Code} {Q : Exit → Act → World → Prop} {a : Act} {w : World} (h : c.wp P (Exit.then (LoopWp P c Q) Q) a w) : LoopWp P c Q a w := by
  intro b k cs
  obtain ⟨e, a₁, w₁, hq, harr⟩ := h b (.inLoop c :: k) cs
  cases e with
  | normal =>
    obtain ⟨e₂, a₂, w₂, hq₂, harr₂⟩ := hq b k cs
    exact ⟨e₂, a₂, w₂, hq₂, .of_steps (Steps.trans harr (.one step_inLoop)) harr₂⟩
  | exit id => exact ⟨_, a₁, w₁, hq, .pass (x := .inLoop c) rfl (fun _ _ => .inl (by simp)) harr⟩
  | goto l => exact ⟨_, a₁, w₁, hq, .pass (x := .inLoop c) rfl (fun _ _ => .inl (by simp)) harr⟩
  | ret => exact ⟨_, a₁, w₁, hq, .pass (x := .inLoop c) rfl (fun _ _ => .inl (by simp)) harr⟩
  | panic ch => exact ⟨_, a₁, w₁, hq, .pass (x := .inLoop c) rfl (fun _ _ => .inl (by simp)) harr⟩
  | outgrown => exact ⟨_, a₁, w₁, hq, .pass (x := .inLoop c) rfl (fun _ _ => .inl (by simp)) harr⟩
def SimLoop (cx : Cx) (x : XCode) (s : XSt) (K : XEx → XSt → Prop) : Prop :=
  ∀ (c : Code), xcode cx.P c = some x → ∀ (φ : Phi) (a : Act) (w : World) (Q : Exit → Act → World → Prop), RepSt cx φ s a w →
    (∀ e φ' s' a' w', RepSt cx φ' s' a' w' → Step φ s.h w φ' s'.h w' → K e s' → Q e.out a' w') → LoopWp cx.P c Q a w
def Forgets (s s' : XSt) : Prop := s'.h = s.h ∧ s'.fr.length = s.fr.length ∧ ∀ (t : Nat) x, s'.fr[t]? = some x → x = .un ∨ s.fr[t]? = some x
theorem Forgets.rep {s s' : XSt} {φ : Phi} {a : Act} {w : World} (hf : Forgets s s') (hs : RepSt cx φ s a w) : RepSt cx φ s' a w := by
  refine ⟨by rw [hf.2.1, hs.len], ?_, hs.defers, by rw [hf.1]; exact hs.world⟩
  intro t x v hx hv
  rcases hf.2.2 t x hx with rfl | h
  · exact .un v
  · exact hs.slot t x v h hv
def SemL (cx : Cx) (l : List XI) (s : XSt) (K : XSt → Prop) : Prop :=
  ∀ (ops : Array Oper) (is : List Nat), is.length = l.length → (∀ (k : Nat) i x, is[k]? = some i → l[k]? = some x → ∃ o, ops[i]? = some o ∧ xi cx.P ops o = some x) → SimL cx ops is s K
theorem SemL.of {l : List XI} {s : XSt} {K : XSt → Prop} (h : wl cx l s K) : SemL cx l s K := fun ops is h1 h2 => wl_sound is l s K h1 h2 h
def SemD (cx : Cx) (sl : Option (List Nat)) (l : List XI) (s : XSt) (K : XSt → Prop) : Prop := ∃ K2 : XSt → Prop, wdr cx sl l s K2 ∧ ∀ s', K2 s' → ∃ T : XSt, (T.h = s'.h ∧ T.fr.length = s'.fr.length ∧ ∀ (t : Nat) x, T.fr[t]? = some x → x = .un ∨ s'.fr[t]? = some x) ∧ K T
theorem SemD.of {sl : Option (List Nat)} {l : List XI} {s : XSt} {K : XSt → Prop} (h : wdr cx sl l s K) : SemD cx sl l s K := ⟨K, h, fun s' h => ⟨s', ⟨rfl, rfl, fun _ _ h => .inr h⟩, h⟩⟩
def noGuard : List XI → Bool
  | [] => true
  | i :: r => i.guard.isNone && noGuard r
def wx (cx : Cx) : XCode → XSt → (XEx → XSt → Prop) → Prop
  | .skip, s, K => K .n s
  | .reg l, s, K => if noGuard l then wl cx l s (K .n) else SemL cx l s (K .n)
  | .drw sl l, s, K => if noGuard l then wdr cx sl l s (K .n) else SemD cx sl l s (K .n)
  | .seq x y, s, K => wx cx x s fun
    | .n, s' => wx cx y s' K
    | e, s' => K e s'
  | .cond c x y, s, K => ∃ t, s.ev cx c = .v (.bool t) ∧ (t = true → wx cx x s K) ∧ (t = false → wx cx y s K)
  | .block id c, s, K => wx cx c s fun
    | .x i, s' => if i = id then K .n s' else K (.x i) s'
    | e, s' => K e s'
  | .loop c, s, K => SimLoop cx c s K
  | .exit id, s, K => K (.x id) s
  | .ret, s, K => K .r s
theorem wx_sound : ∀ (c : Code) (x : XCode), xcode cx.P c = some x → ∀ (s : XSt) (K : XEx → XSt → Prop), wx cx x s K → SimC cx c s K
  | .skip, x, hx, s, K, hk => by
    simp [xcode] at hx; subst hx
    exact fun φ a w Q hs hn => wp_skip (hn .n φ s a w hs (Step.refl _ _ _) hk)
  | .label l, x, hx, s, K, hk => by
    simp [xcode] at hx; subst hx
    exact fun φ a w Q hs hn => wp_label (hn .n φ s a w hs (Step.refl _ _ _) hk)
  | .exit id, x, hx, s, K, hk => by
    simp [xcode] at hx; subst hx
    exact fun φ a w Q hs hn => wp_exit (hn (.x id) φ s a w hs (Step.refl _ _ _) hk)
  | .ret, x, hx, s, K, hk => by
    simp [xcode] at hx; subst hx
    exact fun φ a w Q hs hn => wp_ret (hn .r φ s a w hs (Step.refl _ _ _) hk)
  | .region id ops draw, x, hx, s, K, hk => by
    simp only [xcode, Option.bind_eq_some_iff] at hx
    obtain ⟨l, hl, hx⟩ := hx
    obtain ⟨h1, h2⟩ := xis_get _ _ hl
    cases draw with
    | false =>
      simp at hx; subst hx
      intro φ a w Q hs hn
      replace hk : SemL cx l s (K .n) := by
        simp only [wx] at hk
        split at hk
        · exact SemL.of hk
        · exact hk
      refine wp_region (hk ops (List.range ops.size) (by rw [← h1]; simp) ?_ φ a w Q hs (fun φ' s' a' w' q1 q2 q3 => hn .n φ' s' a' w' q1 q2 q3))
      intro k i y hki hy
      have hk2 : k < ops.size := by have := (List.getElem?_eq_some_iff.1 hki).1; simpa using this
      have : k = i := by
        rw [List.getElem?_range hk2] at hki
        simpa using hki
      subst this
      exact ⟨_, Array.getElem?_eq_getElem hk2, h2 k _ y (by simp [hk2]) hy⟩
    | true =>
      simp only [if_true] at hx
      obtain ⟨hdep, sl, rfl, hok⟩ := xdraw_some hx
      ·
        intro φ a w Q hs hn
        replace hk : SemD cx sl l s (K .n) := by
          simp only [wx] at hk
          split at hk
          · exact SemD.of hk
          · exact hk
        obtain ⟨K2, hk, hkT⟩ := hk
        obtain ⟨s2, hch, hk2⟩ := wds_chain _ _ _ hk
        obtain ⟨T, hT, hk3⟩ := hkT s2 hk2
        have hdl : (hoist l s.h.length).1.length = ops.size := by rw [(hoist_get l _).1, ← h1]; simp
        obtain ⟨v1, v2⟩ := hs.world.drew.virt (hoist l s.h.length).2
        have hinv : Inv cx (Pr.of (prOf sl l s.h.length)) ops (hoist l s.h.length).1 φ s.h w.drew s2 (Array.replicate ops.size false) (List.range ops.size) φ ⟨s.fr, s.h ++ (hoist l s.h.length).2⟩ a w.drew := by
          refine ⟨by simp, ?_, List.pairwise_lt_range, ?_, ⟨hs.len, hs.slot, hs.defers, v1⟩, v2, ?_, ?_⟩
          · intro k
            rw [List.mem_range, Array.getD_eq_getD_getElem?]
            constructor
            · intro hk
              exact ⟨hk, by simp [hk]⟩
            · exact fun h => h.1
          · intro k o ho hl'
            rw [Array.getD_eq_getD_getElem?] at hl'
            have hkk := (Array.getElem?_eq_some_iff.1 ho).1
            simp [hkk] at hl'
          · have : (List.range ops.size).map (fun k => (hoist l s.h.length).1.getD k default) = (hoist l s.h.length).1 := by
              apply List.ext_getElem?
              intro k
              by_cases hk : k < ops.size
              · rw [List.getElem?_map, List.getElem?_range hk, List.getElem?_eq_getElem (by omega)]
                simp [List.getD_eq_getElem?_getD, List.getElem?_eq_getElem (show k < (hoist l s.h.length).1.length by omega)]
              · rw [List.getElem?_eq_none (by simp; omega), List.getElem?_eq_none (by omega)]
            rw [this]
            exact hch
          · intro k hk d id' z hd
            have hkk : k < l.length := by rw [← h1]; simpa using List.mem_range.1 hk
            rcases (hoist_get l s.h.length).2 k _ (List.getElem?_eq_getElem hkk) with e1 | ⟨z', id2, e1, e2, e3, e4, e5⟩
            · rw [e1] at hd; cases hd
            · rw [e3] at hd
              cases hd
              refine ⟨fun v => hs.world.none_of (fun o ho => ?_), ?_, e4⟩
              · have := (List.getElem?_eq_some_iff.1 ho).1
                omega
              · rw [List.getElem?_append_right e4]
                exact e5
        have hany := drw_any hl (n0 := s.h.length) rfl (hok s.h.length) (φ0 := φ) (h0 := s.h) (w0 := w.drew) (s2 := s2) (Q := Q)
          (fun φ' a' w' q1 q2 => hn .n φ' T a' w' (Forgets.rep hT q1) (by rw [hT.1]; exact ⟨q2.ext, q2.keep, q2.cur, q2.size, q2.len, q2.vir⟩) hk3) ops.size _ _ φ _ a w.drew (by simp) hinv
        refine wp_region_draw ?_
        intro t
        unfold Region.schedule
        rw [if_pos hdep]
        unfold Region.linearise
        exact wpAny_sound _ t _ a _ hany
  | .seq p q, x, hx, s, K, hk => by
    simp only [xcode] at hx
    split at hx
    · rename_i y z h1 h2
      simp at hx; subst hx
      intro φ a w Q hs hn
      refine wp_seq (wx_sound p y h1 s _ hk φ a w _ hs ?_)
      intro e φ' s' a' w' q1 q2 q3
      cases e with
      | n => exact wx_sound q z h2 s' K q3 φ' a' w' Q q1 (fun e2 φ2 s2 a2 w2 p1 p2 p3 => hn e2 φ2 s2 a2 w2 p1 (q2.trans p2) p3)
      | x i => exact hn (.x i) φ' s' a' w' q1 q2 q3
      | r => exact hn .r φ' s' a' w' q1 q2 q3
    · cases hx
  | .cond c p q, x, hx, s, K, hk => by
    simp only [xcode] at hx
    split at hx
    · rename_i y z h1 h2
      simp at hx; subst hx
      intro φ a w Q hs hn
      obtain ⟨t, ht, k1, k2⟩ := hk
      have hv := hs.ev c
      rw [ht] at hv
      refine wp_cond_split (rep_v hv) (fun e => ?_) (fun e => ?_)
      · exact wx_sound p y h1 s K (k1 e) φ a w Q hs hn
      · exact wx_sound q z h2 s K (k2 e) φ a w Q hs hn
    · cases hx
  | .block id p, x, hx, s, K, hk => by
    simp only [xcode, Option.map_eq_some_iff] at hx
    obtain ⟨y, h1, rfl⟩ := hx
    intro φ a w Q hs hn
    refine wp_block (wx_sound p y h1 s _ hk φ a w _ hs ?_)
    intro e φ' s' a' w' q1 q2 q3
    cases e with
    | n => exact hn .n φ' s' a' w' q1 q2 q3
    | x i =>
      simp only at q3
      simp only [XEx.out, Exit.inBlock]
      split
      · rename_i hi
        rw [if_pos hi] at q3
        exact hn .n φ' s' a' w' q1 q2 q3
      · rename_i hi
        rw [if_neg hi] at q3
        exact hn (.x i) φ' s' a' w' q1 q2 q3
    | r => exact hn .r φ' s' a' w' q1 q2 q3
  | .loop p, x, hx, s, K, hk => by
    simp only [xcode, Option.map_eq_some_iff] at hx
    obtain ⟨y, h1, rfl⟩ := hx
    exact fun φ a w Q hs hn => (hk p h1 φ a w Q hs hn).wp
  | .scope p, x, hx, s, K, hk => by
    intro φ a w Q hs hn
    refine wp_scope_straight (wx_sound p x hx s K hk φ a w _ hs ?_)
    intro e φ' s' a' w' q1 q2 q3
    cases e with
    | n => exact hn .n φ' s' a' w' q1 q2 q3
    | x i => exact hn (.x i) φ' s' a' w' q1 q2 q3
    | r => exact hn .r φ' s' a' w' q1 q2 q3
  | .rangeFunc .., x, hx, s, K, hk => by simp [xcode] at hx
  | .goto l, x, hx, s, K, hk => by simp [xcode] at hx
  | .refuse y, x, hx, s, K, hk => by simp [xcode] at hx
theorem SimLoop.unroll {x : XCode} {s : XSt} {K : XEx → XSt → Prop} (h : wx cx x s fun
    | .n, s' => SimLoop cx x s' K
    | e, s' => K e s') : SimLoop cx x s K := by
  intro c hc φ a w Q hs hn
  refine LoopWp.unroll (wx_sound c x hc s _ h φ a w _ hs ?_)
  intro e φ' s' a' w' q1 q2 q3
  cases e with
  | n => exact q3 c hc φ' a' w' Q q1 (fun e2 φ2 s2 a2 w2 p1 p2 p3 => hn e2 φ2 s2 a2 w2 p1 (q2.trans p2) p3)
  | x i => exact hn (.x i) φ' s' a' w' q1 q2 q3
  | r => exact hn .r φ' s' a' w' q1 q2 q3
theorem SimLoop.forget {x : XCode} {s s' : XSt} {K : XEx → XSt → Prop} (hf : Forgets s s') (h : SimLoop cx x s' K) : SimLoop cx x s K := by
  intro c hc φ a w Q hs hn
  exact h c hc φ a w Q (hf.rep hs) (by rw [hf.1]; exact hn)
def keepL : List Nat → Nat → List AV → List AV
  | _, _, [] => []
  | ks, n, x :: r => (if n ∈ ks then x else .un) :: keepL ks (n + 1) r
theorem keepL_spec (ks : List Nat) : ∀ (l : List AV) (n : Nat), (keepL ks n l).length = l.length ∧ ∀ (t : Nat) x, (keepL ks n l)[t]? = some x → x = .un ∨ l[t]? = some x
  | [], n => ⟨rfl, fun t x h => by simp [keepL] at h⟩
  | y :: r, n => by
    obtain ⟨h1, h2⟩ := keepL_spec ks r (n + 1)
    refine ⟨by simp [keepL, h1], ?_⟩
    intro t x hx
    cases t with
    | zero =>
      simp only [keepL, List.getElem?_cons_zero, Option.some.injEq] at hx
      split at hx
      · exact .inr (by simp [hx])
      · exact .inl hx.symm
    | succ t => exact h2 t x (by simpa [keepL] using hx)
theorem SimLoop.keep {x : XCode} {s : XSt} {K : XEx → XSt → Prop} (ks : List Nat) (h : SimLoop cx x ⟨keepL ks 0 s.fr, s.h⟩ K) : SimLoop cx x s K :=
  SimLoop.forget (s' := ⟨keepL ks 0 s.fr, s.h⟩) ⟨rfl, (keepL_spec ks s.fr 0).1, (keepL_spec ks s.fr 0).2⟩ h
inductive XRes where
  | t (n : Nat)
  | ld1 (n : Nat)
  | lda (m n : Nat)
def xress (P : Program) : List ResultVar → Option (List XRes)
  | [] => some []
  | .tmp t :: r => (xress P r).map (.t t :: ·)
  | .cell a ty :: r => match isAggB P ty, xress P r with
    | some false, some l => some (.ld1 a :: l)
    | some true, some l => (P.info? ty).map fun i => .lda i.size a :: l
    | _, _ => none
def xres1 (s : XSt) : XRes → Option AV
  | .t n => some (s.fr.getD n .un)
  | .ld1 n => xLd1 s.h (s.fr.getD n .un)
  | .lda m n => xLda s.h m (s.fr.getD n .un)
def xresL (s : XSt) : List XRes → Option (List AV)
  | [] => some []
  | r :: l => match xres1 s r, xresL s l with
    | some x, some xs => some (x :: xs)
    | _, _ => none
def oneOr : List AV → AV
  | [x] => x
  | l => .tup l
def resV (tmps : Array Value) : ResultVar → Sem Value
  | .tmp t => pure (tmps.getD t undef)
  | .cell p t => do loadVar t (← asAddr (tmps.getD p undef))
theorem results_eq (fn : Func) (tmps : Array Value) : results fn tmps = (do
    let vs ← fn.results.mapM (resV tmps)
    pure (if h : vs.size = 1 then vs[0] else .tuple vs)) := by
  unfold results
  exact congrArg (fun F : ResultVar → Sem Value => (do
    let vs ← fn.results.mapM F
    pure (if h : vs.size = 1 then vs[0] else .tuple vs) : Sem Value)) (funext fun r => by cases r <;> rfl)
theorem res_sound {φ : Phi} {s : XSt} {a : Act} {w : World} (hs : RepSt cx φ s a w) : ∀ (rv : List ResultVar) (rs : List XRes) (xs : List AV), xress cx.P rv = some rs → xresL s rs = some xs →
    ∃ vs : List Value, (rv.mapM (resV a.tmps)).run cx.P w = .ok vs w ∧ vs.length = xs.length ∧ ∀ (k : Nat) x v, xs[k]? = some x → vs[k]? = some v → Rep cx.w0 cx.B φ x v
  | [], rs, xs, h1, h2 => by
    simp [xress] at h1; subst h1
    simp [xresL] at h2; subst h2
    exact ⟨[], rfl, rfl, fun k x v h => by simp at h⟩
  | .tmp t :: r, rs, xs, h1, h2 => by
    simp only [xress, Option.map_eq_some_iff] at h1
    obtain ⟨l, h1, rfl⟩ := h1
    simp only [xresL, xres1] at h2
    split at h2
    · rename_i x ys e1 e2
      simp at h2 e1; subst h2; subst e1
      obtain ⟨vs, q1, q2, q3⟩ := res_sound hs r l ys h1 e2
      refine ⟨a.tmps.getD t undef :: vs, ?_, by simp [q2], ?_⟩
      · rw [List.mapM_cons]
        have e0 : (resV a.tmps (.tmp t)).run cx.P w = .ok (a.tmps.getD t undef) w := rfl
        simp only [Sem.run_bind]
        rw [e0]
        simp only [Result.andThen_ok]
        rw [q1]; rfl
      · intro k x v hx hv
        cases k with
        | zero => simp only [List.getElem?_cons_zero, Option.some.injEq] at hx hv; subst hx; subst hv; exact hs.ev (.tmp t)
        | succ k => exact q3 k x v (by simpa using hx) (by simpa using hv)
    · cases h2
  | .cell p t :: r, rs, xs, h1, h2 => by
    have hv := hs.ev (.tmp p)
    have main : ∀ (c : Bool) (i : TypeInfo) (l : List XRes) (y : AV) (ys : List AV), isAggB cx.P t = some c → (c = true → cx.P.info? t = some i) → xress cx.P r = some l → xresL s l = some ys →
        (if c = true then xLda s.h i.size (s.fr.getD p .un) else xLd1 s.h (s.fr.getD p .un)) = some y →
        ∃ vs : List Value, ((ResultVar.cell p t :: r).mapM (resV a.tmps)).run cx.P w = .ok vs w ∧ vs.length = (y :: ys).length ∧ ∀ (k : Nat) x v, (y :: ys)[k]? = some x → vs[k]? = some v → Rep cx.w0 cx.B φ x v := by
      intro c i l y ys hc hi hl hys hy
      obtain ⟨u, g1, g2⟩ := load_sound hs.world hv hc hi hy
      obtain ⟨vs, q1, q2, q3⟩ := res_sound hs r l ys hl hys
      have hA : (do loadVar t (← asAddr (a.tmps.getD p undef)) : Sem Value).run cx.P w = .ok u w := by
        rw [← g1]
        simp only [Act.eval, Instr.loadAt, Sem.run_bind]
        have : ∃ A, a.tmps.getD p undef = .pointer (some A) := by
          cases c with
          | true => obtain ⟨A, _, h, _⟩ := lda_sound hs.world hv (by simpa [XSt.ev, opd] using hy); exact ⟨A, h⟩
          | false => obtain ⟨A, _, h, _⟩ := ld1_sound hs.world hv (by simpa [XSt.ev, opd] using hy); exact ⟨A, h⟩
        obtain ⟨A, hA⟩ := this
        rw [hA]
        rfl
      refine ⟨u :: vs, ?_, by simp [q2], ?_⟩
      · rw [List.mapM_cons]
        have e0 : (resV a.tmps (.cell p t)).run cx.P w = .ok u w := hA
        simp only [Sem.run_bind]
        rw [e0]
        simp only [Result.andThen_ok]
        rw [q1]; rfl
      · intro k x v hx hv
        cases k with
        | zero => simp only [List.getElem?_cons_zero, Option.some.injEq] at hx hv; subst hx; subst hv; exact g2
        | succ k => exact q3 k x v (by simpa using hx) (by simpa using hv)
    simp only [xress] at h1
    split at h1
    · rename_i l hc hl
      simp at h1; subst h1
      simp only [xresL, xres1] at h2
      split at h2
      · rename_i y ys e1 e2
        simp at h2; subst h2
        exact main false default l y ys hc (fun h => by cases h) hl e2 (by simpa using e1)
      · cases h2
    · rename_i l hc hl
      simp only [Option.map_eq_some_iff] at h1
      obtain ⟨i, hi, rfl⟩ := h1
      simp only [xresL, xres1] at h2
      split at h2
      · rename_i y ys e1 e2
        simp at h2; subst h2
        exact main true i l y ys hc (fun _ => hi) hl e2 (by simpa using e1)
      · cases h2
    · cases h1
theorem SimCall.intro {f : FuncId} {fn : Func} {c : Code} {x : XCode} {rs : List XRes} {n : Nat} {args : List AV} {h : AH} {Q : AV → AH → Prop} (hf : cx.P.funcs[f]? = some fn) (hcal : callable cx.P f = true) (hb : fn.body = some c) (hx : xcode cx.P c = some x)
    (hr : xress cx.P fn.results.toList = some rs) (hn : fn.ntmps = n)
    (hw : wx cx x ⟨args ++ List.replicate (n - args.length) .und, h⟩ fun e s => match e with
      | .x _ => False
      | _ => ∃ xs, xresL s rs = some xs ∧ Q (oneOr xs) s.h) : SimCall cx f args h Q := by
  subst hn
  refine ⟨hcal, ?_⟩
  intro φ w vs hl hv hW
  refine calls_of_wp hf hb ?_
  have hs : RepSt cx φ ⟨args ++ List.replicate (fn.ntmps - args.length) .und, h⟩ { tmps := vs ++ Array.replicate (fn.ntmps - vs.size) undef, defers := [] } w := by
    refine ⟨by simp [hl], ?_, rfl, hW⟩
    intro t y u hy hu
    simp only at hy hu
    by_cases ht : t < args.length
    · rw [List.getElem?_append_left ht] at hy
      rw [Array.getElem?_append_left (by omega)] at hu
      exact hv t y u hy hu
    · rw [List.getElem?_append_right (by omega)] at hy
      rw [Array.getElem?_append_right (by omega)] at hu
      rw [List.getElem?_replicate] at hy
      rw [Array.getElem?_replicate] at hu
      split at hy
      · split at hu
        · simp at hy hu
          subst hy; subst hu
          exact .und
        · cases hu
      · cases hy
  refine wx_sound c x hx _ _ hw φ _ w _ hs ?_
  intro e φ' s' a' w' q1 q2 q3
  have fin : (∃ xs, xresL s' rs = some xs ∧ Q (oneOr xs) s'.h) → a'.defers = [] ∧ ∃ v, (results fn a'.tmps).run cx.P w' = .ok v w' ∧ ∃ v_1 r h' φ'_1, Ending.returned v = .returned v_1 ∧ Rep cx.w0 cx.B φ'_1 r v_1 ∧ RepW cx φ'_1 h' w' ∧ Step φ h w φ'_1 h' w' ∧ Q r h' := by
    rintro ⟨xs, h1, h2⟩
    obtain ⟨us, g1, g2, g3⟩ := res_sound q1 _ rs xs hr h1
    refine ⟨q1.defers, if h : us.toArray.size = 1 then us.toArray[0] else .tuple us.toArray, ?_, _, oneOr xs, s'.h, φ', rfl, ?_, q1.world, q2, h2⟩
    · rw [results_eq, Array.mapM_eq_mapM_toList]
      simp only [Sem.run_bind, Sem.run_map]
      rw [g1]
      rfl
    · match xs, us, g2, g3 with
      | [], [], _, _ => exact .tup [] #[] rfl (fun k x v h => by simp at h)
      | [x], [u], _, g3 => exact g3 0 x u rfl rfl
      | x :: y :: r, u1 :: u2 :: r', g2, g3 =>
        refine .tup _ _ (by simpa using g2.symm) ?_
        intro k z v hz hv
        exact g3 k z v hz (by simpa using hv)
  cases e with
  | n => exact fin q3
  | r => exact fin q3
  | x i => exact q3.elim
def resolveF (P : Program) (f : FuncId) : Option (XCode × List XRes × Nat) :=
  if callable P f then (P.funcs[f]?).bind fun fn => fn.body.bind fun c => (xcode P c).bind fun x => (xress P fn.results.toList).map fun rs => (x, rs, fn.ntmps) else none
theorem SimCall.of {P : Program} (hP : cx.P = P) {f : FuncId} {x : XCode} {rs : List XRes} {n : Nat} (hr : resolveF P f = some (x, rs, n)) {args : List AV} {h : AH} {Q : AV → AH → Prop}
    (hw : wx cx x ⟨args ++ List.replicate (n - args.length) .und, h⟩ fun e s => match e with
      | .x _ => False
      | _ => ∃ xs, xresL s rs = some xs ∧ Q (oneOr xs) s.h) : SimCall cx f args h Q := by
  subst hP
  unfold resolveF at hr
  split at hr
  · rename_i hc
    simp only [Option.bind_eq_some_iff, Option.map_eq_some_iff, Prod.mk.injEq] at hr
    obtain ⟨fn, h1, c, h2, x', h3, rs', h4, rfl, rfl, rfl⟩ := hr
    exact SimCall.intro h1 hc h2 h3 h4 rfl hw
  · cases hr
end
end Go.Eng
namespace Go.Eng
open Go.RowKit
section
variable {cx : Cx} {l : List XI} {s s' : XSt} {K : XSt → Prop}
theorem SemL.forget (hf : Forgets s s') (h : SemL cx l s' K) : SemL cx l s K := by
  intro ops is h1 h2 φ a w Q hs hn
  exact h ops is h1 h2 φ a w Q (hf.rep hs) (by rw [hf.1]; exact hn)
theorem SemL.nil (h : K s) : SemL cx [] s K := SemL.of h
theorem SemL.cons {i : XI} (h : wl cx [i] s fun s1 => SemL cx l s1 K) : SemL cx (i :: l) s K := by
  intro ops is h1 h2 φ a w Q hs hn
  cases is with
  | nil => simp at h1
  | cons j is =>
    obtain ⟨o, ho, hxi⟩ := h2 0 j i rfl rfl
    obtain ⟨dst, gg, b⟩ := i
    have hxi0 := hxi
    unfold xi at hxi
    split at hxi
    · rename_i g b' hg hb
      simp at hxi
      obtain ⟨rfl, rfl, rfl⟩ := hxi
      have ih := fun s' (hk : SemL cx l s' K) => hk ops is (by simpa using h1) (fun k j y hj hy => h2 (k + 1) j y hj hy)
      have hstep : wi cx ⟨o.dst, g, b'⟩ s (fun s' => SemL cx l s' K) → o.wp cx.P a w (wpOps cx.P ops Q is) Q := by
        intro hw
        refine wi_sound hb hw hs ?_
        intro φ' s' a' w' q1 q2 q3
        exact ih s' q3 φ' a' w' Q q1 (fun φ2 s2 a2 w2 p1 p2 p3 => hn φ2 s2 a2 w2 p1 (q2.trans p2) p3)
      have hskip : SemL cx l (s.put o.dst .und s.h) K → wpOps cx.P ops Q is (a.put o.dst undef) w := by
        intro hw
        exact ih _ hw φ _ w Q (put_rep hs (Ext.refl _) hs.world o.dst .und) (fun φ2 s2 a2 w2 p1 p2 p3 => hn φ2 s2 a2 w2 p1 p2 p3)
      simp only [wpOps, ho]
      cases hgd : o.guard with
      | none =>
        rw [hgd] at hg
        simp [xguard] at hg
        subst hg
        rw [if_pos (by simp [Region.wanted, hgd])]
        exact .inl (hstep h)
      | some p =>
        obtain ⟨j2, want⟩ := p
        rw [hgd] at hg
        simp only [xguard, Option.map_eq_some_iff] at hg
        obtain ⟨t, ht, rfl⟩ := hg
        have hyield : ∀ v, a.tmps[t]? = some v → yielded ops a.tmps j2 = (match v with | .bool b => some b | _ => none) := by
          intro v hv
          simp only [yielded, ht, Option.bind_some, hv]
          cases v <;> rfl
        have hslot : ∀ y, s.fr.getD t .un = y → y ≠ .un → ∃ v, a.tmps[t]? = some v ∧ Rep cx.w0 cx.B φ y v := by
          intro y hy hne
          rw [List.getD_eq_getElem?_getD] at hy
          cases h1 : s.fr[t]? with
          | none => rw [h1] at hy; simp at hy; exact (hne hy.symm).elim
          | some z =>
            rw [h1] at hy
            simp at hy
            subst hy
            have hlt : t < a.tmps.size := by rw [← hs.len]; exact (List.getElem?_eq_some_iff.1 h1).1
            exact ⟨_, Array.getElem?_eq_getElem hlt, hs.slot t _ _ h1 (Array.getElem?_eq_getElem hlt)⟩
        simp only [wl] at h
        split at h
        · rename_i c hc
          obtain ⟨v, hv, hr⟩ := hslot _ hc (by simp)
          have := rep_v hr
          subst this
          by_cases hcb : c = want
          · rw [if_pos (by simp [Region.wanted, hgd, hyield _ hv, hcb])]
            exact .inl (hstep (h.1 hcb))
          · rw [if_neg (by simp [Region.wanted, hgd, hyield _ hv, hcb])]
            exact hskip (h.2 (by cases c <;> cases want <;> simp_all))
        · rename_i hc
          obtain ⟨v, hv, hr⟩ := hslot _ hc (by simp)
          have := rep_und hr
          subst this
          rw [if_neg (by simp [Region.wanted, hgd, hyield _ hv, undef])]
          exact hskip h
        · exact h.elim
    · cases hxi
theorem wi_mono {i : XI} {K K2 : XSt → Prop} (hk : ∀ s, K s → K2 s) (h : wi cx i s K) : wi cx i s K2 := by
  obtain ⟨dst, g, body⟩ := i
  cases body with
  | op x => obtain ⟨r, h', h1, h2⟩ := h; exact ⟨r, h', h1, hk _ h2⟩
  | call f args => obtain ⟨g, caps, h1, h2⟩ := h; exact ⟨g, caps, h1, h2.mono fun r h' => hk _⟩
theorem wl_app : ∀ (l1 l2 : List XI) (s : XSt) (K : XSt → Prop), wl cx l1 s (fun s1 => wl cx l2 s1 K) → wl cx (l1 ++ l2) s K
  | [], l2, s, K, h => h
  | i :: l1, l2, s, K, h => by
    simp only [List.cons_append, wl] at h ⊢
    cases hg : i.guard with
    | none => rw [hg] at h; exact wi_mono (fun s1 => wl_app l1 l2 s1 K) h
    | some p =>
      obtain ⟨t, b⟩ := p
      rw [hg] at h
      simp only at h ⊢
      split at h
      · exact ⟨fun e => wi_mono (fun s1 => wl_app l1 l2 s1 K) (h.1 e), fun e => wl_app l1 l2 _ K (h.2 e)⟩
      · exact wl_app l1 l2 _ K h
      · exact h.elim
theorem SemL.app : ∀ (l1 : List XI) {l2 : List XI} {s : XSt}, wl cx l1 s (fun s1 => SemL cx l2 s1 K) → SemL cx (l1 ++ l2) s K
  | [], l2, s, h => h
  | i :: l1, l2, s, h => by
    refine SemL.cons ?_
    simp only [wl] at h ⊢
    cases hg : i.guard with
    | none => rw [hg] at h; exact wi_mono (fun s1 => SemL.app l1) h
    | some p =>
      obtain ⟨t, b⟩ := p
      rw [hg] at h
      simp only at h ⊢
      split at h
      · exact ⟨fun e => wi_mono (fun s1 => SemL.app l1) (h.1 e), fun e => SemL.app l1 (h.2 e)⟩
      · exact SemL.app l1 h
      · exact h.elim
theorem SemL.split (n : Nat) (h : wl cx (l.take n) s fun s1 => SemL cx (l.drop n) s1 K) : SemL cx l s K := by
  rw [← List.take_append_drop n l]
  exact SemL.app _ h
end
def dsts : List XI → List Nat
  | [] => []
  | i :: r => match i.dst with
    | some t => t :: dsts r
    | none => dsts r
def unguard : List XI → List XI
  | [] => []
  | i :: r => ⟨i.dst, none, i.body⟩ :: unguard r
def dropG : List Nat → List AV → List AV
  | _, [] => []
  | [], x :: r => x :: r
  | 0 :: gs, _ :: r => .un :: dropG gs r
  | (g + 1) :: gs, x :: r => x :: dropG (g :: gs) r
def gapsOf : Nat → List Nat → Option (List Nat)
  | _, [] => some []
  | n, t :: r => if n ≤ t then (gapsOf (t + 1) r).map ((t - n) :: ·) else none
theorem dropG_nil {gs : List Nat} : dropG gs [] = [] := by cases gs <;> rfl
theorem dropG_len : ∀ (l : List AV) (gs : List Nat), (dropG gs l).length = l.length
  | [], gs => by rw [dropG_nil]
  | x :: r, [] => rfl
  | x :: r, 0 :: gs => by simp [dropG, dropG_len r gs]
  | x :: r, (g + 1) :: gs => by simp [dropG, dropG_len r (g :: gs)]
theorem dropG_get : ∀ (l : List AV) (n : Nat) (ts gs : List Nat) (j : Nat) x, gapsOf n ts = some gs → (dropG gs l)[j]? = some x → x = .un ∨ ((n + j) ∉ ts ∧ l[j]? = some x)
  | [], n, ts, gs, j, x, hg, h => by rw [dropG_nil] at h; simp at h
  | y :: r, n, ts, gs, j, x, hg, h => by
    cases ts with
    | nil =>
      simp [gapsOf] at hg
      subst hg
      exact .inr ⟨by simp, h⟩
    | cons t ts =>
      simp only [gapsOf] at hg
      split at hg
      · rename_i hnt
        simp only [Option.map_eq_some_iff] at hg
        obtain ⟨gs', hg', rfl⟩ := hg
        have hge : ∀ (m : Nat) (us vs : List Nat), gapsOf m us = some vs → ∀ u ∈ us, m ≤ u := by
          intro m us
          induction us generalizing m with
          | nil => intro _ _ u hu; cases hu
          | cons u0 us ih =>
            intro vs hv u hu
            simp only [gapsOf] at hv
            split at hv
            · simp only [Option.map_eq_some_iff] at hv
              obtain ⟨v', hv', _⟩ := hv
              rcases List.mem_cons.1 hu with rfl | hu
              · assumption
              · have := ih (u0 + 1) v' hv' u hu; omega
            · cases hv
        by_cases he : t = n
        · subst he
          rw [Nat.sub_self] at h
          cases j with
          | zero => simp only [dropG, List.getElem?_cons_zero, Option.some.injEq] at h; exact .inl h.symm
          | succ j =>
            simp only [dropG, List.getElem?_cons_succ] at h ⊢
            rcases dropG_get r (t + 1) ts gs' j x hg' h with h1 | ⟨h1, h2⟩
            · exact .inl h1
            · refine .inr ⟨?_, h2⟩
              rw [show t + (j + 1) = t + 1 + j by omega]
              intro hm
              rcases List.mem_cons.1 hm with h3 | h3
              · omega
              · exact h1 h3
        · obtain ⟨g, hgg⟩ : ∃ g, t - n = g + 1 := ⟨t - n - 1, by omega⟩
          rw [hgg] at h
          cases j with
          | zero =>
            simp only [dropG, List.getElem?_cons_zero] at h ⊢
            refine .inr ⟨?_, h⟩
            intro hm
            rcases List.mem_cons.1 hm with h3 | h3
            · omega
            · have := hge _ _ _ hg' _ h3
              omega
          | succ j =>
            simp only [dropG, List.getElem?_cons_succ] at h ⊢
            have hgn : gapsOf (n + 1) (t :: ts) = some (g :: gs') := by
              simp only [gapsOf]
              rw [if_pos (by omega), hg']
              simp; omega
            rcases dropG_get r (n + 1) (t :: ts) (g :: gs') j x hgn h with h1 | ⟨h1, h2⟩
            · exact .inl h1
            · exact .inr ⟨by rw [show n + (j + 1) = n + 1 + j by omega]; exact h1, h2⟩
      · cases hg
def sameGuard (t : Nat) (b : Bool) : List XI → Bool
  | [] => true
  | i :: r => (match i.guard with | some (t', b') => t' == t && b' == b | none => false) && (match i.dst with | some u => u != t | none => true) && sameGuard t b r
def scShape (l : List XI) (m : Nat) : Option (Nat × Bool × Nat × Nat × Bool) :=
  match l with
  | ⟨_, some (t, b), _⟩ :: _ => if sameGuard t b (l.take m) then (match l.drop m with
      | ⟨some d, none, .op (.pick (.t t') (.k (.bool k)) (.t x))⟩ :: _ => if t' = t ∧ b = false then some (t, b, d, x, k) else none
      | ⟨some d, none, .op (.pick (.t t') (.t x) (.k (.bool k)))⟩ :: _ => if t' = t ∧ b = true then some (t, b, d, x, k) else none
      | _ => none) else none
  | _ => none
section
variable {cx : Cx} {l : List XI} {s s' : XSt} {K : XSt → Prop}
theorem wi_guard {dst : Option Nat} {g : Option (Nat × Bool)} {body : XBody} : wi cx ⟨dst, g, body⟩ s K = wi cx ⟨dst, none, body⟩ s K := by cases body <;> rfl
theorem wi_put {i : XI} (h : wi cx i s K) : wi cx i s fun s1 => K s1 ∧ ∃ r h, s1 = s.put i.dst r h := by
  obtain ⟨dst, g, body⟩ := i
  cases body with
  | op x => obtain ⟨r, h', h1, h2⟩ := h; exact ⟨r, h', h1, h2, r, h', rfl⟩
  | call f args => obtain ⟨g, caps, h1, h2⟩ := h; exact ⟨g, caps, h1, h2.mono fun r h' hk => ⟨hk, r, h', rfl⟩⟩
def Agree (ts : List Nat) (s s1 : XSt) : Prop := s1.fr.length = s.fr.length ∧ ∀ (j : Nat), j ∉ ts → s1.fr[j]? = s.fr[j]?
theorem agree_put (s : XSt) (d : Option Nat) (x : AV) (h : AH) : Agree (match d with | some t => [t] | none => []) s (s.put d x h) := by
  cases d with
  | none => exact ⟨rfl, fun _ _ => rfl⟩
  | some t => exact ⟨by simp [XSt.put], fun j hj => by simp only [XSt.put]; rw [List.getElem?_set_ne (by simp at hj; omega)]⟩
theorem Agree.trans {t1 t2 ts : List Nat} {s s1 s2 : XSt} (a : Agree t1 s s1) (c : Agree t2 s1 s2) (h1 : ∀ j ∈ t1, j ∈ ts) (h2 : ∀ j ∈ t2, j ∈ ts) : Agree ts s s2 :=
  ⟨c.1.trans a.1, fun j hj => (c.2 j (fun e => hj (h2 j e))).trans (a.2 j (fun e => hj (h1 j e)))⟩
theorem dsts_cons (i : XI) (r : List XI) : (∀ j ∈ (match i.dst with | some t => [t] | none => []), j ∈ dsts (i :: r)) ∧ ∀ j ∈ dsts r, j ∈ dsts (i :: r) := by
  simp only [dsts]
  cases i.dst with
  | none => simp
  | some t => exact ⟨fun j h => by simp at h; simp [h], fun j h => by simp [h]⟩
theorem getD_of_get {t : Nat} (h : s'.fr[t]? = s.fr[t]?) : s'.fr.getD t .un = s.fr.getD t .un := by
  rw [List.getD_eq_getElem?_getD, List.getD_eq_getElem?_getD, h]
theorem wl_guarded {t : Nat} {b : Bool} : ∀ (seg : List XI) (s : XSt), sameGuard t b seg = true → s.fr.getD t .un = .v (.bool b) → wl cx (unguard seg) s K → wl cx seg s fun s1 => K s1 ∧ Agree (dsts seg) s s1
  | [], s, _, _, h => ⟨h, rfl, fun _ _ => rfl⟩
  | ⟨dst, g, body⟩ :: r, s, hg, hs, h => by
    simp only [sameGuard, Bool.and_eq_true] at hg
    obtain ⟨⟨g1, g2⟩, g3⟩ := hg
    cases g with
    | none => cases g1
    | some p =>
      obtain ⟨t', b'⟩ := p
      simp only [Bool.and_eq_true, beq_iff_eq] at g1
      obtain ⟨rfl, rfl⟩ := g1
      simp only [unguard, wl] at h ⊢
      rw [hs]
      refine ⟨fun _ => ?_, fun e => by cases b' <;> simp at e⟩
      have h2 := wi_put h
      rw [wi_guard (g := some (t', b'))]
      refine wi_mono ?_ h2
      rintro s1 ⟨hk, re, hh, rfl⟩
      have hag := agree_put s dst re hh
      have hs1 : (s.put dst re hh).fr.getD t' .un = .v (.bool b') := by
        rw [getD_of_get (s := s) (hag.2 t' ?_)]
        · exact hs
        · cases dst with
          | none => simp
          | some u => simp at g2; simp; exact fun e => g2 e.symm
      obtain ⟨d1, d2⟩ := dsts_cons ⟨dst, some (t', b'), body⟩ r
      have ih := wl_guarded r _ g3 hs1 hk
      exact wl_mono (fun s2 ⟨q1, q2⟩ => ⟨q1, hag.trans q2 d1 d2⟩) ih
where wl_mono {K K2 : XSt → Prop} : ∀ {l : List XI} {s : XSt}, (∀ s, K s → K2 s) → wl cx l s K → wl cx l s K2
  | [], s, hk, h => hk s h
  | i :: r, s, hk, h => by
    simp only [wl] at h ⊢
    cases hg : i.guard with
    | none => rw [hg] at h; exact wi_mono (fun s1 h1 => wl_mono hk h1) h
    | some p =>
      obtain ⟨t, b⟩ := p
      rw [hg] at h
      simp only at h ⊢
      split at h
      · exact ⟨fun e => wi_mono (fun s1 h1 => wl_mono hk h1) (h.1 e), fun e => wl_mono hk (h.2 e)⟩
      · exact wl_mono hk h
      · exact h.elim
theorem wl_skipped {t : Nat} {b : Bool} : ∀ (seg : List XI) (s : XSt), sameGuard t b seg = true → s.fr.getD t .un = .v (.bool !b) → wl cx seg s fun s1 => s1.h = s.h ∧ Agree (dsts seg) s s1
  | [], s, _, _ => ⟨rfl, rfl, fun _ _ => rfl⟩
  | ⟨dst, g, body⟩ :: r, s, hg, hs => by
    simp only [sameGuard, Bool.and_eq_true] at hg
    obtain ⟨⟨g1, g2⟩, g3⟩ := hg
    cases g with
    | none => cases g1
    | some p =>
      obtain ⟨t', b'⟩ := p
      simp only [Bool.and_eq_true, beq_iff_eq] at g1
      obtain ⟨rfl, rfl⟩ := g1
      simp only [wl]
      rw [hs]
      refine ⟨fun e => by cases b' <;> simp at e, fun _ => ?_⟩
      have hag := agree_put s dst .und s.h
      have hs1 : (s.put dst .und s.h).fr.getD t' .un = .v (.bool !b') := by
        rw [getD_of_get (s := s) (hag.2 t' ?_)]
        · exact hs
        · cases dst with
          | none => simp
          | some u => simp at g2; simp; exact fun e => g2 e.symm
      obtain ⟨d1, d2⟩ := dsts_cons ⟨dst, some (t', b'), body⟩ r
      exact wl_guarded.wl_mono (fun s2 ⟨q1, q2⟩ => ⟨q1, hag.trans q2 d1 d2⟩) (wl_skipped r _ g3 hs1)
theorem forgets_sc {s1 : XSt} {ts gs : List Nat} (hgs : gapsOf 0 ts = some gs) {d : Nat} {z : AV} (hh : s1.h = s.h) (ha : Agree ts s s1) : Forgets (s1.put (some d) z s1.h) ⟨(dropG gs s.fr).set d z, s.h⟩ := by
  refine ⟨hh.symm, by simp [XSt.put, dropG_len, ha.1], ?_⟩
  intro j x hx
  simp only [XSt.put] at hx ⊢
  by_cases hj : d = j
  · subst hj
    have hlt := (List.getElem?_eq_some_iff.1 hx).1
    simp only [List.length_set, dropG_len] at hlt
    rw [List.getElem?_set_self (by rw [dropG_len]; exact hlt)] at hx
    rw [List.getElem?_set_self (by rw [ha.1]; exact hlt)]
    exact .inr hx
  · rw [List.getElem?_set_ne hj] at hx ⊢
    rcases dropG_get _ _ _ _ _ _ hgs hx with h1 | ⟨h1, h2⟩
    · exact .inl h1
    · rw [Nat.zero_add] at h1
      exact .inr ((ha.2 j h1).trans h2)
theorem scShape_spec {m : Nat} {t : Nat} {b : Bool} {d x : Nat} {k : Bool} (hsh : scShape l m = some (t, b, d, x, k)) :
    sameGuard t b (l.take m) = true ∧ ∃ P Q, l.drop m = ⟨some d, none, .op (.pick (.t t) P Q)⟩ :: l.drop (m + 1) ∧ (if b then P else Q) = .t x ∧ (if b then Q else P) = .k (.bool k) := by
  have hdd : ∀ z r, l.drop m = z :: r → r = l.drop (m + 1) := by
    intro z r hz
    have := congrArg List.tail hz
    simpa using this.symm
  generalize hl2 : l.take m = l2 at hsh ⊢
  unfold scShape at hsh
  split at hsh
  · rw [hl2] at hsh
    split at hsh
    · rename_i hg
      split at hsh
      · rename_i hd
        split at hsh
        · rename_i h1
          simp at hsh
          obtain ⟨rfl, rfl, rfl, rfl, rfl⟩ := hsh
          obtain ⟨rfl, rfl⟩ := h1
          exact ⟨hg, _, _, by rw [hd, hdd _ _ hd], rfl, rfl⟩
        · cases hsh
      · rename_i hd
        split at hsh
        · rename_i h1
          simp at hsh
          obtain ⟨rfl, rfl, rfl, rfl, rfl⟩ := hsh
          obtain ⟨rfl, rfl⟩ := h1
          exact ⟨hg, _, _, by rw [hd, hdd _ _ hd], rfl, rfl⟩
        · cases hsh
      · cases hsh
    · cases hsh
  · cases hsh
theorem SemL.sc (m : Nat) {t : Nat} {b : Bool} {d x : Nat} {k : Bool} (hsh : scShape l m = some (t, b, d, x, k)) {gs : List Nat} (hgs : gapsOf 0 (dsts (l.take m)) = some gs) {c e : Bool} (hc : s.fr.getD t .un = .v (.bool c))
    (hrun : c = b → wl cx (unguard (l.take m)) s fun s1 => s1.h = s.h ∧ s1.fr.getD x .un = .v (.bool e))
    (hk : SemL cx (l.drop (m + 1)) ⟨(dropG gs s.fr).set d (.v (.bool (if c = b then e else k))), s.h⟩ K) : SemL cx l s K := by
  have hl : l = l.take m ++ l.drop m := (List.take_append_drop m l).symm
  obtain ⟨hg, P, Q, hd, e1, e2⟩ := scShape_spec hsh
  rw [hl, hd]
  have hkk : ∀ s1, s1.h = s.h → Agree (dsts (l.take m)) s s1 → (c = b → s1.fr.getD x .un = .v (.bool e)) → SemL cx (⟨some d, none, .op (.pick (.t t) P Q)⟩ :: l.drop (m + 1)) s1 K := by
    intro s1 hh ha hx
    refine SemL.cons ?_
    have hc1 : s1.fr.getD t .un = .v (.bool c) := by
      rw [getD_of_get (s := s) (ha.2 t ?_)]
      · exact hc
      · intro hm
        have : ∀ seg : List XI, sameGuard t b seg = true → t ∉ dsts seg := by
          intro seg
          induction seg with
          | nil => simp [dsts]
          | cons i r ih =>
            intro h2
            simp only [sameGuard, Bool.and_eq_true] at h2
            obtain ⟨⟨_, g2⟩, g3⟩ := h2
            simp only [dsts]
            cases hd2 : i.dst with
            | none => exact ih g3
            | some u =>
              rw [hd2] at g2
              simp at g2 ⊢
              exact ⟨fun e => g2 e.symm, ih g3⟩
        exact this _ hg hm
    have hz : xev cx s1 (.pick (.t t) P Q) = some (.v (.bool (if c = b then e else k)), s1.h) := by
      simp only [xev, XSt.ev, hc1]
      by_cases hcb : c = b
      · subst hcb
        have := hx rfl
        cases c with
        | true => simp only [if_true] at e1; subst e1; simp only [if_true, Bool.false_eq_true, if_false, XSt.ev]; rw [this]
        | false => simp only [Bool.false_eq_true, if_false] at e1; subst e1; simp only [if_true, Bool.false_eq_true, if_false, XSt.ev]; rw [this]
      · have hne : c = !b := by revert hcb; cases c <;> cases b <;> simp
        subst hne
        cases b with
        | true => simp only [if_true] at e2; subst e2; rfl
        | false => simp only [Bool.false_eq_true, if_false] at e2; subst e2; rfl
    refine ⟨_, _, hz, ?_⟩
    exact SemL.forget (forgets_sc hgs hh ha) hk
  refine SemL.app _ ?_
  by_cases hcb : c = b
  · subst hcb
    exact wl_guarded.wl_mono (fun s1 ⟨⟨q1, q2⟩, q3⟩ => hkk s1 q1 q3 (fun _ => q2)) (wl_guarded _ s hg hc (hrun rfl))
  · have hne : c = !b := by revert hcb; cases c <;> cases b <;> simp
    exact wl_guarded.wl_mono (fun s1 ⟨q1, q3⟩ => hkk s1 q1 q3 (fun e => absurd e hcb)) (wl_skipped _ s hg (by rw [hc, hne]))
end
end Go.Eng
namespace Go.Eng
open Go.RowKit
def bK (o : Option (AV × AH)) (K : AV → AH → Prop) : Prop := ∃ r h, o = some (r, h) ∧ K r h
def fK (v : AV) (K : FuncId → List AV → Prop) : Prop := ∃ g caps, v = .fn g caps ∧ K g caps
def cK (v : AV) (A B : Prop) : Prop := ∃ t, v = .v (.bool t) ∧ (t = true → A) ∧ (t = false → B)
def rK (o : Option (List AV)) (K : AV → Prop) : Prop := ∃ xs, o = some xs ∧ K (oneOr xs)
def dK (cx : Cx) (g : FuncId) (args : List AV) (h : AH) (K : AV → AH → Prop) : Prop := ∃ r g', SimCall cx g args h (fun r2 h2 => r2 = r ∧ h2 = h ++ g') ∧ K r g'
@[go_sem] theorem bK_some {r : AV} {h : AH} {K : AV → AH → Prop} : bK (some (r, h)) K = K r h := by
  refine propext ⟨fun ⟨r', h', e, k⟩ => ?_, fun k => ⟨r, h, rfl, k⟩⟩
  cases e
  exact k
@[go_sem] theorem fK_fn {g : FuncId} {caps : List AV} {K : FuncId → List AV → Prop} : fK (.fn g caps) K = K g caps := by
  refine propext ⟨fun ⟨r', h', e, k⟩ => ?_, fun k => ⟨g, caps, rfl, k⟩⟩
  cases e
  exact k
theorem cK_b {t : Bool} {A B : Prop} : cK (.v (.bool t)) A B = ((t = true → A) ∧ (t = false → B)) := by
  refine propext ⟨fun ⟨r', e, k⟩ => ?_, fun k => ⟨t, rfl, k⟩⟩
  cases e
  exact k
@[go_sem] theorem cK_true {A B : Prop} : cK (.v (.bool true)) A B = A := by simp [cK_b]
@[go_sem] theorem cK_false {A B : Prop} : cK (.v (.bool false)) A B = B := by simp [cK_b]
@[go_sem] theorem rK_some {xs : List AV} {K : AV → Prop} : rK (some xs) K = K (oneOr xs) := by
  refine propext ⟨fun ⟨r', e, k⟩ => ?_, fun k => ⟨xs, rfl, k⟩⟩
  cases e
  exact k
@[congr] theorem bK_congr {o o' : Option (AV × AH)} {K : AV → AH → Prop} (h : o = o') : bK o K = bK o' K := by rw [h]
@[congr] theorem fK_congr {o o' : AV} {K : FuncId → List AV → Prop} (h : o = o') : fK o K = fK o' K := by rw [h]
@[congr] theorem cK_congr {o o' : AV} {A B : Prop} (h : o = o') : cK o A B = cK o' A B := by rw [h]
@[congr] theorem rK_congr {o o' : Option (List AV)} {K : AV → Prop} (h : o = o') : rK o K = rK o' K := by rw [h]
@[congr] theorem dK_congr {cx : Cx} {g : FuncId} {a a' : List AV} {h h' : AH} {K : AV → AH → Prop} (e : a = a') (e' : h = h') : dK cx g a h K = dK cx g a' h' K := by rw [e, e']
@[congr] theorem SimCall_congr {cx : Cx} {g : FuncId} {a a' : List AV} {h h' : AH} {K : AV → AH → Prop} (e : a = a') (e' : h = h') : SimCall cx g a h K = SimCall cx g a' h' K := by rw [e, e']
@[congr] theorem SimLoop_congr {cx : Cx} {x : XCode} {s s' : XSt} {K : XEx → XSt → Prop} (e : s = s') : SimLoop cx x s K = SimLoop cx x s' K := by rw [e]
@[congr] theorem wx_congr {cx : Cx} {x : XCode} {s s' : XSt} {K : XEx → XSt → Prop} (e : s = s') : wx cx x s K = wx cx x s' K := by rw [e]
@[congr] theorem wl_congr {cx : Cx} {x : List XI} {s s' : XSt} {K : XSt → Prop} (e : s = s') : wl cx x s K = wl cx x s' K := by rw [e]
@[congr] theorem SemL_congr {cx : Cx} {x : List XI} {s s' : XSt} {K : XSt → Prop} (e : s = s') : SemL cx x s K = SemL cx x s' K := by rw [e]
@[congr] theorem SemD_congr {cx : Cx} {sl : Option (List Nat)} {x : List XI} {s s' : XSt} {K : XSt → Prop} (e : s = s') : SemD cx sl x s K = SemD cx sl x s' K := by rw [e]
@[congr] theorem wds_congr {cx : Cx} {pr pr' : Option Pr} {x x' : List DI} {s s' : XSt} {K : XSt → Prop} (e1 : pr = pr') (e2 : x = x') (e : s = s') : wds cx pr x s K = wds cx pr' x' s' K := by rw [e, e1, e2]
section
variable {cx : Cx} {s : XSt} {K : XSt → Prop} {l : List XI} {d : Option Nat}
@[go_sem] theorem wl_nil : wl cx [] s K = K s := rfl
def opK (cx : Cx) (l : List XI) (s : XSt) (d : Option Nat) (K : XSt → Prop) (r : AV) (h : AH) : Prop := wl cx l (s.put d r h) K
def callK (cx : Cx) (a : List XO) (l : List XI) (s : XSt) (d : Option Nat) (K : XSt → Prop) (g : FuncId) (caps : List AV) : Prop := SimCall cx g (a.map (s.ev cx) ++ caps) s.h (opK cx l s d K)
@[go_sem] theorem opK_at {r : AV} {h : AH} : opK cx l s d K r h = wl cx l (s.put d r h) K := rfl
@[go_sem] theorem callK_at {a : List XO} {g : FuncId} {caps : List AV} : callK cx a l s d K g caps = SimCall cx g (a.map (s.ev cx) ++ caps) s.h (opK cx l s d K) := rfl
@[go_sem] theorem wl_op {x : XOp} : wl cx (⟨d, none, .op x⟩ :: l) s K = bK (xev cx s x) (opK cx l s d K) := rfl
@[go_sem] theorem wl_call {f : XO} {a : List XO} : wl cx (⟨d, none, .call f a⟩ :: l) s K = fK (s.ev cx f) (callK cx a l s d K) := rfl
@[go_sem] theorem wl_run {t : Nat} {b : Bool} {body : XBody} (hs : s.fr.getD t .un = .v (.bool b)) : wl cx (⟨d, some (t, b), body⟩ :: l) s K = wl cx (⟨d, none, body⟩ :: l) s K := by
  simp only [wl, hs]
  rw [wi_guard]
  simp
@[go_sem] theorem wl_pass {t : Nat} {b : Bool} {body : XBody} (hs : s.fr.getD t .un = .v (.bool !b)) : wl cx (⟨d, some (t, b), body⟩ :: l) s K = wl cx l (s.put d .und s.h) K := by
  simp only [wl, hs]
  simp
@[go_sem] theorem wl_und {t : Nat} {b : Bool} {body : XBody} (hs : s.fr.getD t .un = .und) : wl cx (⟨d, some (t, b), body⟩ :: l) s K = wl cx l (s.put d .und s.h) K := by
  simp only [wl, hs]
@[go_sem] theorem put_some {t : Nat} {x : AV} {h h' : AH} {fr : List AV} : (⟨fr, h⟩ : XSt).put (some t) x h' = ⟨fr.set t x, h'⟩ := rfl
@[go_sem] theorem put_none {x : AV} {h h' : AH} {fr : List AV} : (⟨fr, h⟩ : XSt).put none x h' = ⟨fr, h'⟩ := rfl
theorem XSt.put_h {x : AV} {h : AH} : (s.put d x h).h = h := rfl
def seqK (cx : Cx) (y : XCode) (K : XEx → XSt → Prop) : XEx → XSt → Prop
  | .n, s' => wx cx y s' K
  | e, s' => K e s'
def blkK (id : Nat) (K : XEx → XSt → Prop) : XEx → XSt → Prop
  | .x i, s' => if i = id then K .n s' else K (.x i) s'
  | e, s' => K e s'
def endK (rs : List XRes) (Q : AV → AH → Prop) : XEx → XSt → Prop
  | .x _, _ => False
  | _, s => rK (xresL s rs) fun r => Q r s.h
variable {K2 : XEx → XSt → Prop} {x y : XCode}
@[go_sem] theorem seqK_n : seqK cx y K2 .n s = wx cx y s K2 := rfl
@[go_sem] theorem seqK_x {i : Nat} : seqK cx y K2 (.x i) s = K2 (.x i) s := rfl
@[go_sem] theorem seqK_r : seqK cx y K2 .r s = K2 .r s := rfl
@[go_sem] theorem blkK_n {id : Nat} : blkK id K2 .n s = K2 .n s := rfl
@[go_sem] theorem blkK_x {id i : Nat} : blkK id K2 (.x i) s = if i = id then K2 .n s else K2 (.x i) s := rfl
@[go_sem] theorem blkK_r {id : Nat} : blkK id K2 .r s = K2 .r s := rfl
@[go_sem] theorem endK_n {rs : List XRes} {Q : AV → AH → Prop} : endK rs Q .n s = rK (xresL s rs) fun r => Q r s.h := rfl
@[go_sem] theorem endK_r {rs : List XRes} {Q : AV → AH → Prop} : endK rs Q .r s = rK (xresL s rs) fun r => Q r s.h := rfl
@[go_sem] theorem wx_skip : wx cx .skip s K2 = K2 .n s := rfl
@[go_sem] theorem wx_ret : wx cx .ret s K2 = K2 .r s := rfl
@[go_sem] theorem wx_exit {id : Nat} : wx cx (.exit id) s K2 = K2 (.x id) s := rfl
@[go_sem] theorem wx_seq : wx cx (.seq x y) s K2 = wx cx x s (seqK cx y K2) := by
  simp only [wx]
  exact congrArg (wx cx x s) (funext fun e => funext fun s' => by cases e <;> rfl)
@[go_sem] theorem wx_block {id : Nat} : wx cx (.block id x) s K2 = wx cx x s (blkK id K2) := by
  simp only [wx]
  exact congrArg (wx cx x s) (funext fun e => funext fun s' => by cases e <;> rfl)
@[go_sem] theorem wx_true {c : XO} (h : s.ev cx c = .v (.bool true)) : wx cx (.cond c x y) s K2 = wx cx x s K2 := by
  refine propext ⟨fun ⟨t, h1, h2, _⟩ => ?_, fun k => ⟨true, h, fun _ => k, fun e => by cases e⟩⟩
  rw [h] at h1
  cases h1
  exact h2 rfl
@[go_sem] theorem wx_false {c : XO} (h : s.ev cx c = .v (.bool false)) : wx cx (.cond c x y) s K2 = wx cx y s K2 := by
  refine propext ⟨fun ⟨t, h1, _, h2⟩ => ?_, fun k => ⟨false, h, (fun e => by cases e), fun _ => k⟩⟩
  rw [h] at h1
  cases h1
  exact h2 rfl
theorem wx_if {c : XO} {b : Bool} (h : s.ev cx c = .v (.bool b)) (h1 : b = true → wx cx x s K2) (h2 : b = false → wx cx y s K2) : wx cx (.cond c x y) s K2 := ⟨b, h, h1, h2⟩
@[go_sem] theorem wx_loop : wx cx (.loop x) s K2 = SimLoop cx x s K2 := rfl
@[go_sem] theorem wx_reg (hg : noGuard l = true) : wx cx (.reg l) s K2 = wl cx l s (K2 .n) := by simp only [wx, hg, if_true]
@[go_sem] theorem wx_regG (hg : noGuard l = false) : wx cx (.reg l) s K2 = SemL cx l s (K2 .n) := by simp only [wx, hg, Bool.false_eq_true, if_false]
@[go_sem] theorem wx_drw {sl : Option (List Nat)} (hg : noGuard l = true) : wx cx (.drw sl l) s K2 = wdr cx sl l s (K2 .n) := by simp only [wx, hg, if_true]
@[go_sem] theorem wx_drwG {sl : Option (List Nat)} (hg : noGuard l = false) : wx cx (.drw sl l) s K2 = SemD cx sl l s (K2 .n) := by simp only [wx, hg, Bool.false_eq_true, if_false]
def dopK (cx : Cx) (pr : Option Pr) (l : List DI) (s : XSt) (d : Option Nat) (K : XSt → Prop) (r : AV) (h : AH) : Prop := wds cx pr l (s.put d r h) K
def dcaK (cx : Cx) (pr : Option Pr) (l : List DI) (s : XSt) (d : Option Nat) (K : XSt → Prop) (r : AV) (g' : AH) : Prop := wds cx pr l (s.put d r (s.h ++ g')) K
def dcallK (cx : Cx) (pr : Option Pr) (a : List XO) (l : List DI) (s : XSt) (d : Option Nat) (K : XSt → Prop) (g : FuncId) (caps : List AV) : Prop := dK cx g (a.map (s.ev cx) ++ caps) s.h (dcaK cx pr l s d K)
@[go_sem] theorem dopK_at {pr : Option Pr} {l : List DI} {r : AV} {h : AH} : dopK cx pr l s d K r h = wds cx pr l (s.put d r h) K := rfl
@[go_sem] theorem dcaK_at {pr : Option Pr} {l : List DI} {r : AV} {h : AH} : dcaK cx pr l s d K r h = wds cx pr l (s.put d r (s.h ++ h)) K := rfl
@[go_sem] theorem dcallK_at {pr : Option Pr} {l : List DI} {a : List XO} {g : FuncId} {caps : List AV} : dcallK cx pr a l s d K g caps = dK cx g (a.map (s.ev cx) ++ caps) s.h (dcaK cx pr l s d K) := rfl
@[go_sem] theorem wds_nil {pr : Option Pr} : wds cx pr [] s K = K s := rfl
@[go_sem] theorem wds_real {pr : Option Pr} {id : Nat} {z : List Value} {r : List DI} : wds cx pr (.real d id z :: r) s K = wds cx pr r (s.put d (.ptr id 0 0) s.h) K := rfl
@[go_sem] theorem wds_op {x : XOp} {r : List DI} : wds cx none (.i ⟨d, none, .op x⟩ :: r) s K = bK (xev cx s x) (dopK cx none r s d K) := by
  simp only [wds, tagP, true_and]; rfl
@[go_sem] theorem wds_opP {pr : Pr} {x : XOp} {r : List DI} : wds cx (some pr) (.i ⟨d, none, .op x⟩ :: r) s K = (tagP cx (some pr) ⟨d, none, .op x⟩ s ∧ bK (xev cx s x) (dopK cx (some pr) r s d K)) := rfl
@[go_sem] theorem wds_call {f : XO} {a : List XO} {r : List DI} : wds cx none (.i ⟨d, none, .call f a⟩ :: r) s K = fK (s.ev cx f) (dcallK cx none a r s d K) := by
  simp only [wds, tagP, true_and]
  rfl
@[go_sem] theorem wds_callP {pr : Pr} {f : XO} {a : List XO} {r : List DI} : wds cx (some pr) (.i ⟨d, none, .call f a⟩ :: r) s K = fK (s.ev cx f) (dcallK cx (some pr) a r s d K) := by
  simp only [wds, tagP, true_and]
  rfl
def isAlloc (i : XI) : Bool := match i.body, i.guard with
  | .op (.alloc _), none => true
  | _, _ => false
@[go_sem] theorem hoist_nil {n : Nat} : hoist [] n = ([], []) := rfl
@[go_sem] theorem hoist_alloc {z : List Value} {n : Nat} : hoist (⟨d, none, .op (.alloc z)⟩ :: l) n = (.real d n z :: (hoist l (n + 1)).1, .cells 0 (z.map .v) :: (hoist l (n + 1)).2) := rfl
@[go_sem] theorem hoist_i {i : XI} {n : Nat} (h : isAlloc i = false) : hoist (i :: l) n = (.i i :: (hoist l n).1, (hoist l n).2) := by
  rw [hoist]
  split
  · rename_i h1 h2
    simp [isAlloc, h1, h2] at h
  · rfl
attribute [go_sem] noGuard wdr prOf tagP DI.isPs XOp.rdOf AV.at_ xev XSt.ev ofV xresL xres1 oneOr Value.oneCell' setCells xApp xMks xCpy xBytes xLenM
  List.all_cons List.all_nil Bool.and_true Bool.true_and Bool.and_self if_true if_false List.cons_append List.nil_append List.append_nil List.length_cons List.length_nil List.replicate List.set_cons_succ List.set_cons_zero List.getD_cons_succ List.getD_cons_zero
  Option.map_some Option.map_none Option.bind_some Option.bind_none Option.isNone_none Option.isNone_some List.getElem?_cons_succ List.getElem?_cons_zero List.getElem?_nil List.getElem?_append_right Nat.le_refl Nat.sub_self Nat.zero_add Nat.add_zero List.map_cons List.map_nil
  List.take_succ_cons List.take_zero List.drop_succ_cons List.drop_zero List.take_nil List.drop_nil Bool.false_eq_true Bool.not_true Bool.not_false true_and and_true
def kand (k : IntKind) (a b : Int) : Int := k.wrap (BitVec.ofInt k.bits a &&& BitVec.ofInt k.bits b).toNat
def kor (k : IntKind) (a b : Int) : Int := k.wrap (BitVec.ofInt k.bits a ||| BitVec.ofInt k.bits b).toNat
def kxor (k : IntKind) (a b : Int) : Int := k.wrap (BitVec.ofInt k.bits a ^^^ BitVec.ofInt k.bits b).toNat
def kandNot (k : IntKind) (a b : Int) : Int := k.wrap (BitVec.ofInt k.bits a &&& ~~~ BitVec.ofInt k.bits b).toNat
section equations
variable {h g : AH} {id ver off len sz n m : Nat} {cs : List AV} {f : Nat → List AV} {k : IntKind} {i a b : Int} {lo hi : Option AV} {x y : AV} {v : Value} {o : AO} {fi : FuncId} {t u : Bool} {st st' : ByteArray} {op : BinOp}
@[go_sem] theorem xFad_ptr : xFad n (.ptr id ver off) = some (.ptr id ver (off + n)) := rfl
@[go_sem] theorem xFad_rp : xFad n (.rp cs) = some (.rp (cs.drop n)) := rfl
@[go_sem] theorem xFld_none : xFld off none (.agg cs) = cs[off]? := rfl
@[go_sem] theorem xFld_some : xFld off (some n) (.agg cs) = if off + n ≤ cs.length then some (.agg ((cs.drop off).take n)) else none := rfl
@[go_sem] theorem xLd1_ptr : xLd1 h (.ptr id ver off) = (h.rd id ver).bind (·[off]?) := rfl
@[go_sem] theorem xLd1_rp : xLd1 h (.rp cs) = cs[0]? := rfl
@[go_sem] theorem xLda_ptr : xLda h n (.ptr id ver off) = (h.rd id ver).bind fun cs => if off + n ≤ cs.length then some (.agg ((cs.drop off).take n)) else none := rfl
@[go_sem] theorem xLda_rp : xLda h n (.rp cs) = if n ≤ cs.length then some (.agg (cs.take n)) else none := rfl
@[go_sem] theorem xSt_ptr : xSt h n (.ptr id ver off) x = match x.cellsOf with
  | some vs => (h.get id ver).bind fun cs => if vs.length = n ∧ off + n ≤ cs.length then some (h.set id (.cells ver (setCells cs off vs))) else none
  | none => none := by
  unfold xSt
  cases x.cellsOf <;> rfl
@[go_sem] theorem xIad_sl : xIad sz (.sl id ver off len m) (.v (.int k i)) = if m = sz ∧ 0 ≤ i ∧ i < len then some (.ptr id ver (off + i.toNat * sz)) else none := rfl
@[go_sem] theorem xIad_ro : xIad sz (.ro m n f) (.v (.int k i)) = if m = sz ∧ 0 ≤ i ∧ i < n then some (.rp (f i.toNat)) else none := rfl
@[go_sem] theorem xIaa_ptr : xIaa sz n (.ptr id ver off) (.v (.int k i)) = if 0 ≤ i ∧ i < n then some (.ptr id ver (off + i.toNat * sz)) else none := rfl
@[go_sem] theorem xIaa_rp : xIaa sz n (.rp cs) (.v (.int k i)) = if 0 ≤ i ∧ i < n then some (.rp (cs.drop (i.toNat * sz))) else none := rfl
@[go_sem] theorem xLenS_v : xLenS (.v (.string st)) = some (.v (.int .i64 st.size)) := rfl
@[go_sem] theorem xLenL_sl : xLenL (.sl id ver off len sz) = some (.v (.int .i64 len)) := rfl
@[go_sem] theorem xLenL_ro : xLenL (.ro sz n f) = some (.v (.int .i64 n)) := rfl
@[go_sem] theorem xLenL_v {z : Option Addr} : xLenL (.v (.slice z n m)) = some (.v (.int .i64 n)) := rfl
@[go_sem] theorem xSls_sl : xSls sz (.sl id ver off len m) lo hi = if m = sz then (xHi hi len).bind fun h => (xLo lo h).bind fun l => if l < h ∨ l = 0 then some (.sl id ver (off + l * sz) (h - l) sz) else some (.ro sz 0 fun _ => []) else none := rfl
@[go_sem] theorem xSls_ro : xSls sz (.ro m n f) lo hi = if m = sz then (xHi hi n).bind fun h => (xLo lo h).bind fun l => some (.ro sz (h - l) fun i => f (l + i)) else none := rfl
@[go_sem] theorem xSla_rp : xSla sz n (.rp cs) none none = if cs.length = n * sz then some (.ro sz n fun i => (cs.drop (i * sz)).take sz) else none := rfl
@[go_sem] theorem xSlt_v : xSlt (.v (.string st)) lo hi = (xHi hi st.size).bind fun h => (xLo lo h).bind fun l => some (.v (.string (st.extract l h))) := rfl
@[go_sem] theorem xLo_none : xLo none n = some 0 := rfl
@[go_sem] theorem xLo_some : xLo (some (.v (.int k i))) n = if 0 ≤ i ∧ i ≤ n then some i.toNat else none := rfl
@[go_sem] theorem xHi_none : xHi none n = some n := rfl
@[go_sem] theorem xHi_some : xHi (some (.v (.int k i))) n = if 0 ≤ i ∧ i ≤ n then some i.toNat else none := rfl
@[go_sem] theorem xMx_v : xMx t (.v (.int k a)) (.v (.int k b)) = some (.v (.int k (if t then (if b < a then b else a) else (if a < b then b else a)))) := by simp [xMx]
@[go_sem] theorem xNo_nil {z : Nat} : xNo (.v (.slice none n z)) = some true := rfl
@[go_sem] theorem xNo_sl : xNo (.sl id ver off len sz) = some false := rfl
@[go_sem] theorem xNo_ro : xNo (.ro sz n f) = if 0 < n then some false else none := rfl
@[go_sem] theorem cells_v : (AV.v v).cellsOf = if v.oneCell' then some [.v v] else none := rfl
@[go_sem] theorem cells_agg : (AV.agg cs).cellsOf = if cs.all AV.cell then some cs else none := rfl
@[go_sem] theorem cells_ptr : (AV.ptr id ver off).cellsOf = some [.ptr id ver off] := rfl
@[go_sem] theorem cells_sl : (AV.sl id ver off len sz).cellsOf = some [.sl id ver off len sz] := rfl
@[go_sem] theorem cells_ro : (AV.ro sz n f).cellsOf = some [.ro sz n f] := rfl
@[go_sem] theorem cells_rp : (AV.rp cs).cellsOf = some [.rp cs] := rfl
@[go_sem] theorem cells_fn : (AV.fn fi cs).cellsOf = some [.fn fi cs] := rfl
@[go_sem] theorem cells_mp : (AV.mp id).cellsOf = some [.mp id] := rfl
@[go_sem] theorem cell_v : (AV.v v).cell = v.oneCell' := rfl
@[go_sem] theorem cell_ptr : (AV.ptr id ver off).cell = true := rfl
@[go_sem] theorem cell_sl : (AV.sl id ver off len sz).cell = true := rfl
@[go_sem] theorem cell_ro : (AV.ro sz n f).cell = true := rfl
@[go_sem] theorem cell_rp : (AV.rp cs).cell = true := rfl
@[go_sem] theorem cell_fn : (AV.fn fi cs).cell = true := rfl
@[go_sem] theorem cell_mp : (AV.mp id).cell = true := rfl
@[go_sem] theorem rd_self {l : AH} : AH.rd (h ++ l) h.length ver = AH.rd l 0 ver := by
  unfold AH.rd
  rw [List.getElem?_append_right (Nat.le_refl _), Nat.sub_self]
@[go_sem] theorem rd_plus {l : AH} : AH.rd (h ++ l) (h.length + n) ver = AH.rd l n ver := by
  unfold AH.rd
  rw [List.getElem?_append_right (by omega), Nat.add_sub_cancel_left]
@[go_sem] theorem rd_zero {l : AH} : AH.rd (.cells ver cs :: l) 0 ver = some cs := by simp [AH.rd]
@[go_sem] theorem rd_froz {l : AH} : AH.rd (.froz cs :: l) 0 0 = some cs := by simp [AH.rd]
@[go_sem] theorem rd_succ {l : AH} : AH.rd (o :: l) (n + 1) ver = AH.rd l n ver := rfl
theorem rd_old {l : AH} (hid : id < h.length) : AH.rd (h ++ l) id ver = AH.rd h id ver := by
  unfold AH.rd
  rw [List.getElem?_append_left hid]
@[go_sem] theorem get_self {l : AH} : AH.get (h ++ l) h.length ver = AH.get l 0 ver := by
  unfold AH.get
  rw [List.getElem?_append_right (Nat.le_refl _), Nat.sub_self]
@[go_sem] theorem get_plus {l : AH} : AH.get (h ++ l) (h.length + n) ver = AH.get l n ver := by
  unfold AH.get
  rw [List.getElem?_append_right (by omega), Nat.add_sub_cancel_left]
@[go_sem] theorem get_zero {l : AH} : AH.get (.cells ver cs :: l) 0 ver = some cs := by simp [AH.get]
@[go_sem] theorem get_succ {l : AH} : AH.get (o :: l) (n + 1) ver = AH.get l n ver := rfl
theorem get_old {l : AH} (hid : id < h.length) : AH.get (h ++ l) id ver = AH.get h id ver := by
  unfold AH.get
  rw [List.getElem?_append_left hid]
@[go_sem] theorem set_self {l : AH} : List.set (h ++ l) h.length o = h ++ List.set l 0 o := by
  have := List.set_append_right (s := h) (t := l) (x := o) h.length (Nat.le_refl _)
  rw [Nat.sub_self] at this
  exact this
@[go_sem] theorem set_plus {l : AH} : List.set (h ++ l) (h.length + n) o = h ++ List.set l n o := by
  have := List.set_append_right (s := h) (t := l) (x := o) (h.length + n) (by omega)
  rw [Nat.add_sub_cancel_left] at this
  exact this
@[go_sem] theorem bin_eql : xBin .eql (.int k a) (.int k b) = some (.bool (decide (a = b))) := by simp [xBin]
@[go_sem] theorem bin_neq : xBin .neq (.int k a) (.int k b) = some (.bool (!decide (a = b))) := by simp [xBin]
@[go_sem] theorem bin_lss : xBin .lss (.int k a) (.int k b) = some (.bool (decide (a < b))) := by simp [xBin]
@[go_sem] theorem bin_leq : xBin .leq (.int k a) (.int k b) = some (.bool (decide (a ≤ b))) := by simp [xBin]
@[go_sem] theorem bin_gtr : xBin .gtr (.int k a) (.int k b) = some (.bool (decide (b < a))) := by simp [xBin]
@[go_sem] theorem bin_geq : xBin .geq (.int k a) (.int k b) = some (.bool (decide (b ≤ a))) := by simp [xBin]
@[go_sem] theorem bin_add : xBin .add (.int k a) (.int k b) = some (.int k (k.wrap (a + b))) := by simp [xBin]
@[go_sem] theorem bin_sub : xBin .sub (.int k a) (.int k b) = some (.int k (k.wrap (a - b))) := by simp [xBin]
@[go_sem] theorem bin_mul : xBin .mul (.int k a) (.int k b) = some (.int k (k.wrap (a * b))) := by simp [xBin]
@[go_sem] theorem bin_quo : xBin .quo (.int k a) (.int k b) = if b ≠ 0 then some (.int k (k.wrap (a.tdiv b))) else none := by simp [xBin]
@[go_sem] theorem bin_rem : xBin .rem (.int k a) (.int k b) = if b ≠ 0 then some (.int k (a.tmod b)) else none := by simp [xBin]
@[go_sem] theorem bin_and : xBin .and (.int k a) (.int k b) = some (.int k (kand k a b)) := by simp [xBin, kand]
@[go_sem] theorem bin_or : xBin .or (.int k a) (.int k b) = some (.int k (kor k a b)) := by simp [xBin, kor]
@[go_sem] theorem bin_xor : xBin .xor (.int k a) (.int k b) = some (.int k (kxor k a b)) := by simp [xBin, kxor]
@[go_sem] theorem bin_andNot : xBin .andNot (.int k a) (.int k b) = some (.int k (kandNot k a b)) := by simp [xBin, kandNot]
@[go_sem] theorem bin_shl {q : IntKind} : xBin .shl (.int k a) (.int q b) = if 0 ≤ b then some (.int k (k.wrap (a * 2 ^ min b.toNat k.bits))) else none := by simp [xBin]
@[go_sem] theorem bin_shr {q : IntKind} : xBin .shr (.int k a) (.int q b) = if 0 ≤ b then some (.int k (a.fdiv (2 ^ min b.toNat k.bits))) else none := by simp [xBin]
@[go_sem] theorem bin_eqls : xBin .eql (.string st) (.string st') = some (.bool (decide (st = st'))) := rfl
@[go_sem] theorem bin_neqs : xBin .neq (.string st) (.string st') = some (.bool (!decide (st = st'))) := rfl
@[go_sem] theorem bin_leqs : xBin .leq (.string st) (.string st') = some (.bool (Op.bytesLess st.toList st'.toList || decide (st = st'))) := rfl
@[go_sem] theorem bin_lsss : xBin .lss (.string st) (.string st') = some (.bool (Op.bytesLess st.toList st'.toList)) := rfl
@[go_sem] theorem bin_gtrs : xBin .gtr (.string st) (.string st') = some (.bool (!(Op.bytesLess st.toList st'.toList || decide (st = st')))) := rfl
@[go_sem] theorem bin_adds : xBin .add (.string st) (.string st') = if ((st.size + st'.size : Nat) : Int) ≤ IntKind.i64.max then some (.string (st ++ st')) else none := rfl
@[go_sem] theorem un_not : xUn .not (.bool t) = some (.bool !t) := rfl
@[go_sem] theorem un_neg : xUn .neg (.int k a) = some (.int k (k.wrap (0 - a))) := rfl
@[go_sem] theorem un_xor : xUn .xor (.int k a) = some (.int k (k.wrap (BitVec.ofInt k.bits (if k.signed then -1 else k.max) ^^^ BitVec.ofInt k.bits a).toNat)) := rfl
attribute [go_sem] xFill
end equations
theorem xif {c : Bool} {A B : Prop} : cK (.v (.bool c)) A B = ((c = true → A) ∧ (c = false → B)) := cK_b
theorem SimCall.by {P : Program} (hP : cx.P = P) {f : FuncId} {x : XCode} {rs : List XRes} {n : Nat} (hr : resolveF P f = some (x, rs, n)) {args : List AV} {h : AH} {Q : AV → AH → Prop}
    (hw : wx cx x ⟨args ++ List.replicate (n - args.length) .und, h⟩ (endK rs Q)) : SimCall cx f args h Q := by
  refine SimCall.of hP hr (cast (congrArg (wx cx x _) (funext fun e => funext fun s => ?_)) hw)
  cases e <;> rfl
end
end Go.Eng
namespace Go.Eng
open Go.RowKit
section
variable {cx : Cx}
theorem SemL.mono {l : List XI} {s : XSt} {K K2 : XSt → Prop} (hk : ∀ s, K s → K2 s) (h : SemL cx l s K) : SemL cx l s K2 :=
  fun ops is h1 h2 φ a w Q hs hn => h ops is h1 h2 φ a w Q hs (fun φ' s' a' w' p1 p2 p3 => hn φ' s' a' w' p1 p2 (hk _ p3))
theorem wdi_mono {i : XI} {s : XSt} {K K2 : XSt → Prop} (hk : ∀ s, K s → K2 s) (h : wdi cx i s K) : wdi cx i s K2 := by
  obtain ⟨dst, g, body⟩ := i
  cases body with
  | op x => obtain ⟨r, h', h1, h2⟩ := h; exact ⟨r, h', h1, hk _ h2⟩
  | call f args => obtain ⟨g, caps, h1, r, g', h2, h3⟩ := h; exact ⟨g, caps, h1, r, g', h2, hk _ h3⟩
theorem wds_mono {pr : Option Pr} {K K2 : XSt → Prop} (hk : ∀ s, K s → K2 s) : ∀ {l : List DI} {s : XSt}, wds cx pr l s K → wds cx pr l s K2
  | [], s, h => hk s h
  | .real d id z :: r, s, h => wds_mono hk (l := r) h
  | .i x :: r, s, h => by
    simp only [wds] at h ⊢
    refine ⟨h.1, ?_⟩
    replace h := h.2
    cases hg : x.guard with
    | none => rw [hg] at h; exact wdi_mono (fun s1 h1 => wds_mono hk h1) h
    | some p =>
      obtain ⟨t, b⟩ := p
      rw [hg] at h
      simp only at h ⊢
      split at h
      · exact ⟨fun e => wdi_mono (fun s1 h1 => wds_mono hk h1) (h.1 e), fun e => wds_mono hk (h.2 e)⟩
      · exact wds_mono hk h
      · exact h.elim
theorem SemD.mono {sl : Option (List Nat)} {l : List XI} {s : XSt} {K K2 : XSt → Prop} (hk : ∀ s, K s → K2 s) (h : SemD cx sl l s K) : SemD cx sl l s K2 := by
  obtain ⟨K3, h1, h2⟩ := h
  refine ⟨K3, h1, fun s' h3 => ?_⟩
  obtain ⟨T, h4, h5⟩ := h2 s' h3
  exact ⟨T, h4, hk _ h5⟩
theorem SimLoop.mono {x : XCode} {s : XSt} {K K2 : XEx → XSt → Prop} (hk : ∀ e s, K e s → K2 e s) (h : SimLoop cx x s K) : SimLoop cx x s K2 :=
  fun c hc φ a w Q hs hn => h c hc φ a w Q hs (fun e φ' s' a' w' p1 p2 p3 => hn e φ' s' a' w' p1 p2 (hk _ _ p3))
theorem wx_mono : ∀ (x : XCode) {s : XSt} {K K2 : XEx → XSt → Prop}, (∀ e s, K e s → K2 e s) → wx cx x s K → wx cx x s K2
  | .skip, s, K, K2, hk, h => hk _ _ h
  | .ret, s, K, K2, hk, h => hk _ _ h
  | .exit id, s, K, K2, hk, h => hk _ _ h
  | .reg l, s, K, K2, hk, h => by
    simp only [wx] at h ⊢
    split at h
    · rename_i h1; rw [if_pos h1]; exact wl_guarded.wl_mono (hk .n) h
    · rename_i h1; rw [if_neg h1]; exact SemL.mono (hk .n) h
  | .drw sl l, s, K, K2, hk, h => by
    simp only [wx] at h ⊢
    split at h
    · rename_i h1; rw [if_pos h1]; exact wds_mono (hk .n) h
    · rename_i h1; rw [if_neg h1]; exact SemD.mono (hk .n) h
  | .seq x y, s, K, K2, hk, h => wx_mono x (fun e s' h1 => by
      cases e with
      | n => exact wx_mono y hk h1
      | x i => exact hk _ _ h1
      | r => exact hk _ _ h1) h
  | .cond c x y, s, K, K2, hk, h => by
    obtain ⟨t, h1, h2, h3⟩ := h
    exact ⟨t, h1, fun e => wx_mono x hk (h2 e), fun e => wx_mono y hk (h3 e)⟩
  | .block id x, s, K, K2, hk, h => wx_mono x (fun e s' h1 => by
      cases e with
      | n => exact hk _ _ h1
      | x i => simp only at h1 ⊢; split at h1 <;> (rename_i h2; simp only [h2, if_true, if_false]; exact hk _ _ h1)
      | r => exact hk _ _ h1) h
  | .loop x, s, K, K2, hk, h => SimLoop.mono hk h
def loopK (L : XSt → Prop) (K : XEx → XSt → Prop) : XEx → XSt → Prop
  | .n, s => L s
  | e, s => K e s
@[go_sem] theorem loopK_n {L : XSt → Prop} {K : XEx → XSt → Prop} {s : XSt} : loopK L K .n s = L s := rfl
@[go_sem] theorem loopK_x {L : XSt → Prop} {K : XEx → XSt → Prop} {s : XSt} {i : Nat} : loopK L K (.x i) s = K (.x i) s := rfl
@[go_sem] theorem loopK_r {L : XSt → Prop} {K : XEx → XSt → Prop} {s : XSt} : loopK L K .r s = K .r s := rfl
def unL : List AV → List AV
  | [] => []
  | _ :: r => .un :: unL r
def keepG : List Nat → List AV → List AV
  | _, [] => []
  | [], _ :: r => .un :: unL r
  | 0 :: gs, x :: r => x :: keepG gs r
  | (g + 1) :: gs, _ :: r => .un :: keepG (g :: gs) r
@[go_sem] theorem unL_nil : unL [] = [] := rfl
@[go_sem] theorem unL_cons {x : AV} {r : List AV} : unL (x :: r) = .un :: unL r := rfl
@[go_sem] theorem keepG_nil {gs : List Nat} : keepG gs [] = [] := by cases gs <;> rfl
@[go_sem] theorem keepG_none {x : AV} {r : List AV} : keepG [] (x :: r) = .un :: unL r := rfl
@[go_sem] theorem keepG_zero {gs : List Nat} {x : AV} {r : List AV} : keepG (0 :: gs) (x :: r) = x :: keepG gs r := rfl
@[go_sem] theorem keepG_succ {g : Nat} {gs : List Nat} {x : AV} {r : List AV} : keepG ((g + 1) :: gs) (x :: r) = .un :: keepG (g :: gs) r := rfl
@[go_sem] theorem dropG_nil' {gs : List Nat} : dropG gs [] = [] := dropG_nil
@[go_sem] theorem dropG_none {x : AV} {r : List AV} : dropG [] (x :: r) = x :: r := rfl
@[go_sem] theorem dropG_zero {gs : List Nat} {x : AV} {r : List AV} : dropG (0 :: gs) (x :: r) = .un :: dropG gs r := rfl
@[go_sem] theorem dropG_succ {g : Nat} {gs : List Nat} {x : AV} {r : List AV} : dropG ((g + 1) :: gs) (x :: r) = x :: dropG (g :: gs) r := rfl
attribute [go_sem] unguard
theorem unL_spec : ∀ (l : List AV), (unL l).length = l.length ∧ ∀ (t : Nat) x, (unL l)[t]? = some x → x = .un
  | [] => ⟨rfl, fun t x h => by simp [unL] at h⟩
  | y :: r => by
    obtain ⟨h1, h2⟩ := unL_spec r
    refine ⟨by simp [unL, h1], fun t x h => ?_⟩
    cases t with
    | zero => simpa [unL] using h.symm
    | succ t => exact h2 t x (by simpa [unL] using h)
theorem keepG_spec : ∀ (l : List AV) (gs : List Nat), (keepG gs l).length = l.length ∧ ∀ (t : Nat) x, (keepG gs l)[t]? = some x → x = .un ∨ l[t]? = some x
  | [], gs => by rw [keepG_nil]; exact ⟨rfl, fun t x h => by simp at h⟩
  | y :: r, [] => by
    obtain ⟨h1, h2⟩ := unL_spec (y :: r)
    exact ⟨h1, fun t x h => .inl (h2 t x h)⟩
  | y :: r, 0 :: gs => by
    obtain ⟨h1, h2⟩ := keepG_spec r gs
    refine ⟨by simp [keepG, h1], fun t x h => ?_⟩
    cases t with
    | zero => exact .inr (by simpa [keepG] using h)
    | succ t => simpa using h2 t x (by simpa [keepG] using h)
  | y :: r, (g + 1) :: gs => by
    obtain ⟨h1, h2⟩ := keepG_spec r (g :: gs)
    refine ⟨by simp [keepG, h1], fun t x h => ?_⟩
    cases t with
    | zero => exact .inl (by simpa [keepG] using h.symm)
    | succ t => simpa using h2 t x (by simpa [keepG] using h)
theorem SimLoop.gaps {x : XCode} {s : XSt} {K : XEx → XSt → Prop} (gs : List Nat) (h : SimLoop cx x ⟨Eng.keepG gs s.fr, s.h⟩ K) : SimLoop cx x s K :=
  SimLoop.forget (s' := ⟨Eng.keepG gs s.fr, s.h⟩) ⟨rfl, (keepG_spec s.fr gs).1, (keepG_spec s.fr gs).2⟩ h
theorem SimLoop.inv (gs : List Nat) {x : XCode} {K : XEx → XSt → Prop} (Inv : Nat → XSt → Prop) (hstep : ∀ k s, Inv k s → wx cx x s (loopK (fun s' => ∃ k', k' < k ∧ Inv k' ⟨keepG gs s'.fr, s'.h⟩) K))
    (k : Nat) {s : XSt} (h0 : Inv k ⟨keepG gs s.fr, s.h⟩) : SimLoop cx x s K := by
  have main : ∀ n k s, k < n → Inv k s → SimLoop cx x s K := by
    intro n
    induction n with
    | zero => intro k s h; omega
    | succ n ih =>
      intro k s hk hi
      refine SimLoop.unroll (wx_mono x ?_ (hstep k s hi))
      intro e s' h1
      cases e with
      | n =>
        obtain ⟨k', h2, h3⟩ := h1
        exact SimLoop.gaps gs (ih k' _ (by omega) h3)
      | x i => exact h1
      | r => exact h1
  exact SimLoop.gaps gs (main (k + 1) k _ (by omega) h0)
end
end Go.Eng
namespace Go.Eng
open Go.RowKit
attribute [go_sem] List.append_assoc List.length_append
@[go_sem 3000] theorem set16 {a0 a1 a2 a3 a4 a5 a6 a7 a8 a9 a10 a11 a12 a13 a14 a15 y : AV} {r : List AV} {n : Nat} : List.set (a0 :: a1 :: a2 :: a3 :: a4 :: a5 :: a6 :: a7 :: a8 :: a9 :: a10 :: a11 :: a12 :: a13 :: a14 :: a15 :: r) (n + 16) y = a0 :: a1 :: a2 :: a3 :: a4 :: a5 :: a6 :: a7 :: a8 :: a9 :: a10 :: a11 :: a12 :: a13 :: a14 :: a15 :: List.set r n y := rfl
@[go_sem 3000] theorem getD16 {a0 a1 a2 a3 a4 a5 a6 a7 a8 a9 a10 a11 a12 a13 a14 a15 y : AV} {r : List AV} {n : Nat} : List.getD (a0 :: a1 :: a2 :: a3 :: a4 :: a5 :: a6 :: a7 :: a8 :: a9 :: a10 :: a11 :: a12 :: a13 :: a14 :: a15 :: r) (n + 16) y = List.getD r n y := rfl
@[go_sem high] theorem set4 {a0 a1 a2 a3 y : AV} {r : List AV} {n : Nat} : List.set (a0 :: a1 :: a2 :: a3 :: r) (n + 4) y = a0 :: a1 :: a2 :: a3 :: List.set r n y := rfl
@[go_sem high] theorem getD4 {a0 a1 a2 a3 y : AV} {r : List AV} {n : Nat} : List.getD (a0 :: a1 :: a2 :: a3 :: r) (n + 4) y = List.getD r n y := rfl
def preN : List XI → Nat
  | [] => 0
  | ⟨_, none, _⟩ :: r => preN r + 1
  | ⟨_, some _, _⟩ :: _ => 0
def segN : List XI → Nat
  | [] => 0
  | ⟨_, some _, _⟩ :: r => segN r + 1
  | ⟨_, none, _⟩ :: _ => 0
section
variable {cx : Cx} {l : List XI} {s : XSt} {K : XSt → Prop} {d : Option Nat} {b : XBody} {g : Nat × Bool}
@[go_sem] theorem preN_nil : preN [] = 0 := rfl
@[go_sem] theorem preN_none : preN (⟨d, none, b⟩ :: l) = preN l + 1 := rfl
@[go_sem] theorem preN_some : preN (⟨d, some g, b⟩ :: l) = 0 := rfl
@[go_sem] theorem segN_nil : segN [] = 0 := rfl
@[go_sem] theorem segN_some : segN (⟨d, some g, b⟩ :: l) = segN l + 1 := rfl
@[go_sem] theorem segN_none : segN (⟨d, none, b⟩ :: l) = 0 := rfl
def semK (cx : Cx) (l : List XI) (K : XSt → Prop) (s : XSt) : Prop := SemL cx l s K
theorem SemL.pre (h : wl cx (l.take (preN l)) s (semK cx (l.drop (preN l)) K)) : SemL cx l s K := SemL.split _ h
@[go_sem] theorem semK_cons {i : XI} : semK cx (i :: l) K s = SemL cx (i :: l) s K := rfl
theorem semK_of (h : K s) : semK cx [] K s := SemL.nil h
theorem SemL.sc1 {t : Nat} {b : Bool} {d x : Nat} {k : Bool} (hsh : scShape l (segN l) = some (t, b, d, x, k)) {gs : List Nat} (hgs : gapsOf 0 (dsts (l.take (segN l))) = some gs) {c e : Bool} (hc : s.fr.getD t .un = .v (.bool c))
    (hrun : c = b → wl cx (unguard (l.take (segN l))) s fun s1 => s1.h = s.h ∧ s1.fr.getD x .un = .v (.bool e))
    (hk : SemL cx (l.drop (segN l + 1)) ⟨(dropG gs s.fr).set d (.v (.bool (if c = b then e else k))), s.h⟩ K) : SemL cx l s K := SemL.sc _ hsh hgs hc hrun hk
end
end Go.Eng
namespace Go.Eng
open Go.RowKit
def frcN {α : Type} (n : Nat) (k : Nat → α) : α := Nat.casesOn n (k 0) fun m => k (Nat.succ m)
def frcI {α : Type} (n : Int) (k : Int → α) : α := Int.casesOn n (fun m => frcN m fun m => k (.ofNat m)) fun m => frcN m fun m => k (.negSucc m)
def frcB {α : Type} (b : Bool) (k : Bool → α) : α := Bool.casesOn b (k false) (k true)
def frcV {α : Type} (v : Value) (k : Value → α) : α := match v with
  | .int d n => frcI n fun n => k (.int d n)
  | .bool b => frcB b fun b => k (.bool b)
  | v => k v
def frcA {α : Type} (x : AV) (k : AV → α) : α := match x with
  | .v v => frcV v fun v => k (.v v)
  | .ptr a b c => frcN a fun a => frcN b fun b => frcN c fun c => k (.ptr a b c)
  | .sl a b c d e => frcN a fun a => frcN b fun b => frcN c fun c => frcN d fun d => k (.sl a b c d e)
  | x => k x
noncomputable def frcL {α : Type} (l : List AV) : (List AV → α) → α := List.rec (fun k => k []) (fun x _ ih k => frcA x fun x => ih fun r => k (x :: r)) l
noncomputable def setK {α : Type} (l : List AV) : Nat → AV → (List AV → α) → α := List.rec (fun _ _ k => k []) (fun y r ih n x k => Nat.casesOn n (k (x :: r)) fun m => ih m x fun r' => k (y :: r')) l
noncomputable def frcO {α : Type} (o : AO) (k : AO → α) : α := match o with
  | .cells v cs => frcN v fun v => frcL cs fun cs => k (.cells v cs)
  | o => k o
noncomputable def frcH {α : Type} (l : AH) : Nat → (AH → α) → α := List.rec (fun _ k => k []) (fun y _ ih n k => Nat.casesOn n (frcO y fun y => ih n fun r' => k (y :: r')) fun m => ih m fun r' => k (y :: r')) l
theorem frcN_eq {α : Type} (n : Nat) (k : Nat → α) : frcN n k = k n := by cases n <;> rfl
theorem frcI_eq {α : Type} (n : Int) (k : Int → α) : frcI n k = k n := by
  cases n with
  | ofNat m => exact frcN_eq m fun m => k (.ofNat m)
  | negSucc m => exact frcN_eq m fun m => k (.negSucc m)
theorem frcB_eq {α : Type} (n : Bool) (k : Bool → α) : frcB n k = k n := by cases n <;> rfl
theorem frcV_eq {α : Type} (v : Value) (k : Value → α) : frcV v k = k v := by
  unfold frcV
  split
  · exact frcI_eq _ _
  · exact frcB_eq _ _
  · rfl
theorem frcA_eq {α : Type} (v : AV) (k : AV → α) : frcA v k = k v := by
  unfold frcA
  split
  · exact frcV_eq _ _
  · simp only [frcN_eq]
  · simp only [frcN_eq]
  · rfl
theorem frcL_eq {α : Type} : ∀ (l : List AV) (k : List AV → α), frcL l k = k l
  | [], k => rfl
  | x :: r, k => by
    have h : frcL (x :: r) k = frcA x fun x => frcL r fun r => k (x :: r) := rfl
    rw [h, frcA_eq, frcL_eq r]
theorem setK_eq {α : Type} : ∀ (l : List AV) (n : Nat) (x : AV) (k : List AV → α), setK l n x k = k (l.set n x)
  | [], n, x, k => by cases n <;> rfl
  | y :: r, 0, x, k => rfl
  | y :: r, n + 1, x, k => by
    have h : setK (y :: r) (n + 1) x k = setK r n x fun r' => k (y :: r') := rfl
    rw [h, setK_eq r]
    rfl
theorem frcO_eq {α : Type} (v : AO) (k : AO → α) : frcO v k = k v := by
  unfold frcO
  split
  · rw [frcN_eq, frcL_eq]
  · rfl
theorem frcH_eq {α : Type} : ∀ (l : AH) (n : Nat) (k : AH → α), frcH l n k = k l
  | [], n, k => rfl
  | y :: r, 0, k => by
    have h : frcH (y :: r) 0 k = frcO y fun y => frcH r 0 fun r' => k (y :: r') := rfl
    rw [h, frcO_eq, frcH_eq r]
  | y :: r, n + 1, k => by
    have h : frcH (y :: r) (n + 1) k = frcH r n fun r' => k (y :: r') := rfl
    rw [h, frcH_eq r]
def pure' : XBody → Bool
  | .op x => match x with
    | .mov _ | .pick _ _ _ | .ld1 _ | .lda _ _ | .bin _ _ _ | .fad _ _ | .fld _ _ _ | .iad _ _ _ | .cvi _ _ | .ext _ _ | .lenl _ | .lens _ | .ixs _ _ | .un _ _ | .mkf _ _ | .sls _ _ _ _ | .slt _ _ _ | .sla _ _ _ _ _ | .iaa _ _ _ _ | .beq _ _ _ | .lenk _ | .mx _ _ _ | .sno _ _ | .lenm _ | .seq _ _ _ _ => true
    | _ => false
  | _ => false
def touch (cx : Cx) (s : XSt) : XBody → Nat
  | .op (.st _ a _) => match s.ev cx a with
    | .ptr id _ _ => id
    | _ => s.h.length
  | _ => s.h.length
noncomputable def frcS {α : Type} (cx : Cx) (b : XBody) (s : XSt) (d : Option Nat) (x : AV) (h : AH) (k : XSt → α) : α := match d with
  | some t => frcA x fun x => setK s.fr t x fun fr => if pure' b then k ⟨fr, h⟩ else frcH h (touch cx s b) fun h => k ⟨fr, h⟩
  | none => if pure' b then k ⟨s.fr, h⟩ else frcH h (touch cx s b) fun h => k ⟨s.fr, h⟩
theorem frcS_eq {α : Type} {cx : Cx} {b : XBody} {s : XSt} {d : Option Nat} {x : AV} {h : AH} {k : XSt → α} : frcS cx b s d x h k = k (s.put d x h) := by
  unfold frcS
  cases d <;> simp only [frcA_eq, setK_eq, frcH_eq, XSt.put] <;> split <;> rfl
abbrev FT := FuncId → Option (XCode × List XRes × Nat)
section
variable (cx : Cx) (call : FuncId → List AV → AH → Option (AV × AH))
def runI (i : XI) (s : XSt) : Option (AV × AH) :=
  match i.body with
  | .op x => xev cx s x
  | .call f args => match s.ev cx f with
    | .fn g caps => call g (args.map (s.ev cx) ++ caps) s.h
    | _ => none
noncomputable def runL : List XI → XSt → Option XSt
  | [], s => some s
  | i :: r, s => match i.guard with
    | none => (runI cx call i s).bind fun p => frcS cx i.body s i.dst p.1 p.2 fun s' => runL r s'
    | some (t, b) => match s.fr.getD t .un with
      | .v (.bool c) => if c = b then (runI cx call i s).bind fun p => frcS cx i.body s i.dst p.1 p.2 fun s' => runL r s' else runL r (s.put i.dst .und s.h)
      | .und => runL r (s.put i.dst .und s.h)
      | _ => none
def sameW : Value → Value → Bool
  | .nilFunc, .nilFunc => true
  | .map none, .map none => true
  | .bool a, .bool b => decide (a = b)
  | .int k a, .int k' b => decide (k = k') && decide (a = b)
  | .string a, .string b => decide (a = b)
  | .pointer none, .pointer none => true
  | .slice none 0 0, .slice none 0 0 => true
  | _, _ => false
def sameWs : List Value → List Value → Bool
  | [], [] => true
  | x :: r, y :: q => sameW x y && sameWs r q
  | _, _ => false
def sameV : Value → Value → Bool
  | .agg a, .agg b => sameWs a.toList b.toList
  | x, y => sameW x y
def sameB : AV → AV → Bool
  | .v x, .v y => sameV x y
  | .ptr a b c, .ptr a' b' c' => decide (a = a') && decide (b = b') && decide (c = c')
  | .sl a b c d e, .sl a' b' c' d' e' => decide (a = a') && decide (b = b') && decide (c = c') && decide (d = d') && decide (e = e')
  | .mp a, .mp a' => decide (a = a')
  | .un, .un => true
  | .und, .und => true
  | _, _ => false
def sameM : List AV → List AV → Bool
  | [], [] => true
  | x :: r, y :: q => sameB x y && sameM r q
  | _, _ => false
def sameA : AV → AV → Bool
  | .fn f c, .fn g d => decide (f = g) && sameM c d
  | .agg c, .agg d => sameM c d
  | .tup c, .tup d => sameM c d
  | x, y => sameB x y
def sameL : List AV → List AV → Bool
  | [], [] => true
  | x :: r, y :: q => sameA x y && sameL r q
  | _, _ => false
def sameE : List (Nat × Value × AV) → List (Nat × Value × AV) → Bool
  | [], [] => true
  | (a, x, y) :: r, (b, u, v) :: q => decide (a = b) && sameV x u && sameA y v && sameE r q
  | _, _ => false
def sameO : AO → AO → Bool
  | .cells v c, .cells v' c' => decide (v = v') && sameL c c'
  | .froz c, .froz c' => sameL c c'
  | .map c e, .map c' e' => decide (c = c') && sameE e e'
  | _, _ => false
def behind : AH → AH → Option AH
  | [], g => some g
  | o :: h, o' :: h' => if sameO o o' then behind h h' else none
  | _ :: _, [] => none
def runJ (i : XI) (s : XSt) : Option (AV × AH) :=
  match i.body with
  | .op x => xev cx s x
  | .call f args => match s.ev cx f with
    | .fn g caps => (call g (args.map (s.ev cx) ++ caps) s.h).bind fun p => (behind s.h p.2).map fun g' => (p.1, s.h ++ g')
    | _ => none
def tagB (pr : Option Pr) (x : XI) (s : XSt) : Bool :=
  match pr with
  | none => true
  | some pr => match x.body with
    | .op o => (match o.rdOf with
      | some y => match (s.ev cx y).at_ with
        | some id => decide (id < pr.lo) || decide (pr.hi ≤ id)
        | none => true
      | none => true) && match o with
      | .st _ a _ => !(DI.isPs pr.sl (.i x)) || match s.ev cx a with
        | .ptr id _ _ => decide (pr.lo ≤ id) && decide (id < pr.hi)
        | _ => false
      | _ => true
    | _ => true
noncomputable def runD (pr : Option Pr) : List DI → XSt → Option XSt
  | [], s => some s
  | .real d id _ :: r, s => runD pr r (s.put d (.ptr id 0 0) s.h)
  | .i x :: r, s => if tagB cx pr x s then match x.guard with
    | none => (runJ cx call x s).bind fun p => frcS cx x.body s x.dst p.1 p.2 fun s' => runD pr r s'
    | some (t, b) => match s.fr.getD t .un with
      | .v (.bool c) => if c = b then (runJ cx call x s).bind fun p => frcS cx x.body s x.dst p.1 p.2 fun s' => runD pr r s' else runD pr r (s.put x.dst .und s.h)
      | .und => runD pr r (s.put x.dst .und s.h)
      | _ => none
    else none
end
section
variable (cx : Cx) (pm : FuncId → List AV → Option AV) (ft : FT)
noncomputable def callX (ih : XCode → XSt → Option (XEx × XSt)) (g : FuncId) (args : List AV) (h : AH) : Option (AV × AH) :=
  match pm g args with
  | some v => some (v, h)
  | none => match ft g with
  | some (x, rs, m) => match ih x ⟨args ++ List.replicate (m - args.length) .und, h⟩ with
    | some (.x _, _) => none
    | some (_, s) => (xresL s rs).map fun xs => (oneOr xs, s.h)
    | none => none
  | none => none
noncomputable def stepX (ih : XCode → XSt → Option (XEx × XSt)) (x : XCode) (s : XSt) : Option (XEx × XSt) :=
  match x with
  | .skip => some (.n, s)
  | .reg l => (runL cx (callX pm ft ih) l s).map fun s => (.n, s)
  | .drw sl l => (runD cx (callX pm ft ih) (prOf sl l s.h.length) (hoist l s.h.length).1 ⟨s.fr, s.h ++ (hoist l s.h.length).2⟩).map fun s => (.n, s)
  | .seq a b => match ih a s with
    | some (.n, s') => ih b s'
    | r => r
  | .cond c a b => match s.ev cx c with
    | .v (.bool t) => if t then ih a s else ih b s
    | _ => none
  | .block id c => match ih c s with
    | some (.x i, s') => if i = id then some (.n, s') else some (.x i, s')
    | r => r
  | .loop c => match ih c s with
    | some (.n, s') => ih (.loop c) s'
    | r => r
  | .exit id => some (.x id, s)
  | .ret => some (.r, s)
noncomputable def runX (n : Nat) : XCode → XSt → Option (XEx × XSt) := Nat.rec (fun _ _ => none) (fun _ ih => stepX cx pm ft ih) n
noncomputable def runF (n : Nat) : FuncId → List AV → AH → Option (AV × AH) := callX pm ft (runX cx pm ft n)
end
section
variable {cx : Cx} {call : FuncId → List AV → AH → Option (AV × AH)}
def CallOk (cx : Cx) (call : FuncId → List AV → AH → Option (AV × AH)) : Prop := ∀ g args h r h', call g args h = some (r, h') → SimCall cx g args h fun r2 h2 => r2 = r ∧ h2 = h'
theorem runI_sound (hc : CallOk cx call) {i : XI} {s : XSt} {r : AV} {h : AH} {K : XSt → Prop} (he : runI cx call i s = some (r, h)) (hk : K (s.put i.dst r h)) : wi cx i s K := by
  unfold runI at he
  unfold wi
  cases hb : i.body with
  | op x => rw [hb] at he; exact ⟨r, h, he, hk⟩
  | call f args =>
    rw [hb] at he
    simp only at he ⊢
    split at he
    · rename_i g caps hg
      exact ⟨g, caps, hg, (hc _ _ _ _ _ he).mono fun r2 h2 ⟨e1, e2⟩ => by rw [e1, e2]; exact hk⟩
    · cases he
theorem runL_sound (hc : CallOk cx call) : ∀ (l : List XI) (s s' : XSt) (K : XSt → Prop), runL cx call l s = some s' → K s' → wl cx l s K
  | [], s, s', K, he, hk => by simp [runL] at he; subst he; exact hk
  | i :: r, s, s', K, he, hk => by
    have hrun : ((runI cx call i s).bind fun p => frcS cx i.body s i.dst p.1 p.2 fun s' => runL cx call r s') = some s' → wi cx i s fun s' => wl cx r s' K := by
      intro he
      simp only [Option.bind_eq_some_iff] at he
      obtain ⟨⟨x, h⟩, h1, h2⟩ := he
      rw [frcS_eq] at h2
      exact runI_sound hc h1 (runL_sound hc r _ s' K h2 hk)
    simp only [runL] at he
    simp only [wl]
    cases hg : i.guard with
    | none => rw [hg] at he; exact hrun he
    | some p =>
      obtain ⟨t, b⟩ := p
      rw [hg] at he
      simp only at he ⊢
      split at he
      · rename_i c hcc
        rw [hcc]
        split at he
        · rename_i hcb
          exact ⟨fun _ => hrun he, fun e => by subst hcb; cases c <;> simp at e⟩
        · rename_i hcb
          exact ⟨fun e => absurd e hcb, fun _ => runL_sound hc r _ s' K he hk⟩
      · rename_i hcc
        rw [hcc]
        exact runL_sound hc r _ s' K he hk
      · cases he
theorem sameW_eq {x y : Value} (h : sameW x y = true) : x = y := by
  unfold sameW at h
  split at h <;> simp_all
theorem sameWs_eq : ∀ {x y : List Value}, sameWs x y = true → x = y
  | [], [], _ => rfl
  | x :: r, y :: q, h => by
    simp only [sameWs, Bool.and_eq_true] at h
    rw [sameW_eq h.1, sameWs_eq h.2]
  | [], _ :: _, h => by simp [sameWs] at h
  | _ :: _, [], h => by simp [sameWs] at h
theorem sameV_eq {x y : Value} (h : sameV x y = true) : x = y := by
  unfold sameV at h
  split at h
  · rw [Array.toList_inj.1 (sameWs_eq h)]
  · exact sameW_eq h
theorem sameB_eq {x y : AV} (h : sameB x y = true) : x = y := by
  unfold sameB at h
  split at h <;> simp_all
  exact sameV_eq h
theorem sameM_eq : ∀ {x y : List AV}, sameM x y = true → x = y
  | [], [], _ => rfl
  | x :: r, y :: q, h => by
    simp only [sameM, Bool.and_eq_true] at h
    rw [sameB_eq h.1, sameM_eq h.2]
  | [], _ :: _, h => by simp [sameM] at h
  | _ :: _, [], h => by simp [sameM] at h
theorem sameA_eq {x y : AV} (h : sameA x y = true) : x = y := by
  unfold sameA at h
  split at h
  · simp only [Bool.and_eq_true, decide_eq_true_eq] at h
    rw [h.1, sameM_eq h.2]
  · rw [sameM_eq h]
  · rw [sameM_eq h]
  · exact sameB_eq h
theorem sameL_eq : ∀ {x y : List AV}, sameL x y = true → x = y
  | [], [], _ => rfl
  | x :: r, y :: q, h => by
    simp only [sameL, Bool.and_eq_true] at h
    rw [sameA_eq h.1, sameL_eq h.2]
  | [], _ :: _, h => by simp [sameL] at h
  | _ :: _, [], h => by simp [sameL] at h
theorem sameE_eq : ∀ {x y : List (Nat × Value × AV)}, sameE x y = true → x = y
  | [], [], _ => rfl
  | (a, x, y) :: r, (b, u, v) :: q, h => by
    simp only [sameE, Bool.and_eq_true, decide_eq_true_eq] at h
    rw [h.1.1.1, sameV_eq h.1.1.2, sameA_eq h.1.2, sameE_eq h.2]
  | [], _ :: _, h => by simp [sameE] at h
  | _ :: _, [], h => by simp [sameE] at h
theorem sameO_eq {x y : AO} (h : sameO x y = true) : x = y := by
  unfold sameO at h
  split at h
  · simp only [Bool.and_eq_true, decide_eq_true_eq] at h
    rw [h.1, sameL_eq h.2]
  · rw [sameL_eq h]
  · simp only [Bool.and_eq_true, decide_eq_true_eq] at h
    rw [h.1, sameE_eq h.2]
  · cases h
theorem behind_eq : ∀ {h h' g : AH}, behind h h' = some g → h' = h ++ g
  | [], g', g, he => by simp [behind] at he; simp [he]
  | o :: h, o' :: h', g, he => by
    simp only [behind] at he
    split at he
    · rename_i hs
      rw [behind_eq he, sameO_eq hs]
      rfl
    · cases he
  | _ :: _, [], g, he => by simp [behind] at he
theorem runJ_sound (hc : CallOk cx call) {i : XI} {s : XSt} {r : AV} {h : AH} {K : XSt → Prop} (he : runJ cx call i s = some (r, h)) (hk : K (s.put i.dst r h)) : wdi cx i s K := by
  unfold runJ at he
  unfold wdi
  cases hb : i.body with
  | op x => rw [hb] at he; exact ⟨r, h, he, hk⟩
  | call f args =>
    rw [hb] at he
    simp only at he ⊢
    split at he
    · rename_i g caps hg
      simp only [Option.bind_eq_some_iff, Option.map_eq_some_iff] at he
      obtain ⟨⟨r1, h1⟩, e1, g', e2, e3⟩ := he
      cases e3
      refine ⟨g, caps, hg, _, g', ?_, hk⟩
      have h2 := behind_eq e2
      simp only at h2
      subst h2
      exact hc _ _ _ _ _ e1
    · cases he
theorem tagB_sound {pr : Option Pr} {x : XI} {s : XSt} (h : tagB cx pr x s = true) : tagP cx pr x s := by
  cases pr with
  | none => trivial
  | some pr =>
    obtain ⟨dst, guard, body⟩ := x
    cases body with
    | call => trivial
    | op o =>
      simp only [tagB, Bool.and_eq_true] at h
      simp only [tagP]
      refine ⟨?_, ?_⟩
      · have h1 := h.1
        cases hy : o.rdOf with
        | none => trivial
        | some y =>
          rw [hy] at h1
          simp only at h1 ⊢
          cases hid : (s.ev cx y).at_ with
          | none => trivial
          | some id =>
            rw [hid] at h1
            simpa using h1
      · have h2 := h.2
        cases o with
        | st n a z =>
          simp only at h2 ⊢
          intro hp
          rw [hp] at h2
          simp only [Bool.not_true, Bool.false_or] at h2
          cases ha : s.ev cx a with
          | ptr id ver off => rw [ha] at h2; simpa using h2
          | _ => rw [ha] at h2; cases h2
        | _ => trivial
theorem runD_sound (hc : CallOk cx call) {pr : Option Pr} : ∀ (l : List DI) (s s' : XSt) (K : XSt → Prop), runD cx call pr l s = some s' → K s' → wds cx pr l s K
  | [], s, s', K, he, hk => by simp [runD] at he; subst he; exact hk
  | .real d id z :: r, s, s', K, he, hk => runD_sound hc r _ s' K he hk
  | .i i :: r, s, s', K, he, hk => by
    have hrun : ((runJ cx call i s).bind fun p => frcS cx i.body s i.dst p.1 p.2 fun s' => runD cx call pr r s') = some s' → wdi cx i s fun s' => wds cx pr r s' K := by
      intro he
      simp only [Option.bind_eq_some_iff] at he
      obtain ⟨⟨x, h⟩, h1, h2⟩ := he
      rw [frcS_eq] at h2
      exact runJ_sound hc h1 (runD_sound hc r _ s' K h2 hk)
    simp only [runD] at he
    split at he
    · rename_i htag
      simp only [wds]
      refine ⟨tagB_sound htag, ?_⟩
      cases hg : i.guard with
      | none => rw [hg] at he; exact hrun he
      | some p =>
        obtain ⟨t, b⟩ := p
        rw [hg] at he
        simp only at he ⊢
        split at he
        · rename_i c hcc
          rw [hcc]
          split at he
          · rename_i hcb
            exact ⟨fun _ => hrun he, fun e => by subst hcb; cases c <;> simp at e⟩
          · rename_i hcb
            exact ⟨fun e => absurd e hcb, fun _ => runD_sound hc r _ s' K he hk⟩
        · rename_i hcc
          rw [hcc]
          exact runD_sound hc r _ s' K he hk
        · cases he
    · cases he
def XOk (cx : Cx) (ih : XCode → XSt → Option (XEx × XSt)) : Prop := ∀ x s e s' (K : XEx → XSt → Prop), ih x s = some (e, s') → K e s' → wx cx x s K
variable {ft : FT} {pm : FuncId → List AV → Option AV}
def PrimOk (cx : Cx) (pm : FuncId → List AV → Option AV) : Prop := ∀ g args v, pm g args = some v → ∀ h, SimCall cx g args h fun r h' => h' = h ∧ r = v
theorem callX_sound {P : Program} (hP : cx.P = P) (hpm : PrimOk cx pm) (hft : ∀ g r, ft g = some r → resolveF P g = some r) {ih : XCode → XSt → Option (XEx × XSt)} (hi : XOk cx ih) : CallOk cx (callX pm ft ih) := by
  intro g args h r h' he
  unfold callX at he
  split at he
  · rename_i v hv
    simp only [Option.some.injEq, Prod.mk.injEq] at he
    obtain ⟨rfl, rfl⟩ := he
    exact (hpm g args _ hv _).mono fun r2 h2 ⟨e1, e2⟩ => ⟨e2, e1⟩
  split at he
  · rename_i x rs m hg
    have hr := hft g _ hg
    have key : ∀ e s, ih x ⟨args ++ List.replicate (m - args.length) .und, h⟩ = some (e, s) → (∀ id, e ≠ .x id) → ((xresL s rs).map fun xs => (oneOr xs, s.h)) = some (r, h') → SimCall cx g args h fun r2 h2 => r2 = r ∧ h2 = h' := by
      intro e s h1 h2 h3
      simp only [Option.map_eq_some_iff, Prod.mk.injEq] at h3
      obtain ⟨xs, h4, rfl, rfl⟩ := h3
      refine SimCall.of hP hr (hi _ _ _ _ _ h1 ?_)
      cases e with
      | x id => exact absurd rfl (h2 id)
      | n => exact ⟨xs, h4, rfl, rfl⟩
      | r => exact ⟨xs, h4, rfl, rfl⟩
    split at he
    · cases he
    · rename_i e s hn h1
      exact key e s h1 hn he
    · cases he
  · cases he
theorem stepX_sound {P : Program} (hP : cx.P = P) (hpm : PrimOk cx pm) (hft : ∀ g r, ft g = some r → resolveF P g = some r) {ih : XCode → XSt → Option (XEx × XSt)} (hi : XOk cx ih) : XOk cx (stepX cx pm ft ih) := by
  have hc := callX_sound hP hpm hft hi
  intro x s e s' K he hk
  cases x with
  | skip => simp [stepX] at he; obtain ⟨rfl, rfl⟩ := he; exact hk
  | exit id => simp [stepX] at he; obtain ⟨rfl, rfl⟩ := he; exact hk
  | ret => simp [stepX] at he; obtain ⟨rfl, rfl⟩ := he; exact hk
  | reg l =>
    simp only [stepX, Option.map_eq_some_iff, Prod.mk.injEq] at he
    obtain ⟨s2, h1, rfl, rfl⟩ := he
    have := runL_sound hc l s s2 (K .n) h1 hk
    simp only [wx]
    split
    · exact this
    · exact SemL.of this
  | drw sl l =>
    simp only [stepX, Option.map_eq_some_iff, Prod.mk.injEq] at he
    obtain ⟨s2, h1, rfl, rfl⟩ := he
    have : wdr cx sl l s (K .n) := runD_sound hc _ _ s2 (K .n) h1 hk
    simp only [wx]
    split
    · exact this
    · exact SemD.of this
  | seq a b =>
    simp only [stepX] at he
    simp only [wx]
    split at he
    · rename_i s2 h1
      exact hi _ _ _ _ _ h1 (hi _ _ _ _ _ he hk)
    · rename_i hn
      refine hi _ _ _ _ _ he ?_
      cases e with
      | n => exact absurd he (hn _)
      | x id => exact hk
      | r => exact hk
  | cond c a b =>
    simp only [stepX] at he
    simp only [wx]
    split at he
    · rename_i t ht
      refine ⟨t, ht, fun e1 => ?_, fun e1 => ?_⟩
      · rw [e1] at he; exact hi _ _ _ _ _ he hk
      · rw [e1] at he; exact hi _ _ _ _ _ he hk
    · cases he
  | block id c =>
    simp only [stepX] at he
    simp only [wx]
    split at he
    · rename_i i s2 h1
      refine hi _ _ _ _ _ h1 ?_
      simp only
      split at he
      · rename_i hid
        simp only [Option.some.injEq, Prod.mk.injEq] at he
        obtain ⟨rfl, rfl⟩ := he
        rw [if_pos hid]; exact hk
      · rename_i hid
        simp only [Option.some.injEq, Prod.mk.injEq] at he
        obtain ⟨rfl, rfl⟩ := he
        rw [if_neg hid]; exact hk
    · rename_i hn
      refine hi _ _ _ _ _ he ?_
      cases e with
      | x id => exact absurd he (hn _ _)
      | n => exact hk
      | r => exact hk
  | loop c =>
    simp only [stepX] at he
    simp only [wx]
    refine SimLoop.unroll ?_
    split at he
    · rename_i s2 h1
      exact hi _ _ _ _ _ h1 (hi (.loop c) _ _ _ _ he hk)
    · rename_i hn
      refine hi _ _ _ _ _ he ?_
      cases e with
      | n => exact absurd he (hn _)
      | x id => exact hk
      | r => exact hk
theorem runX_sound {P : Program} (hP : cx.P = P) (hpm : PrimOk cx pm) (hft : ∀ g r, ft g = some r → resolveF P g = some r) : ∀ n, XOk cx (runX cx pm ft n)
  | 0 => fun x s e s' K he hk => by simp [runX] at he
  | n + 1 => stepX_sound hP hpm hft (runX_sound hP hpm hft n)
theorem SimCall.run {P : Program} (hP : cx.P = P) (hpm : PrimOk cx pm) (hft : ∀ g r, ft g = some r → resolveF P g = some r) (n : Nat) {g : FuncId} {args : List AV} {h : AH} {r : AV} {h' : AH} (he : runF cx pm ft n g args h = some (r, h')) :
    SimCall cx g args h fun r2 h2 => r2 = r ∧ h2 = h' := callX_sound hP hpm hft (runX_sound hP hpm hft n) g args h r h' he
end
end Go.Eng
namespace Go.Eng
open Go.RowKit
def Hole (F : AV → AV) : Prop := ∀ (w0 : World) (B : Nat) (φ : Phi) x v, Rep w0 B φ (F x) v → ∃ u, Rep w0 B φ x u ∧ ∀ φ2 x2, Ext φ φ2 ∨ True → Rep w0 B φ2 x2 u → Rep w0 B φ2 (F x2) v
theorem hole_id : Hole fun x => x := fun w0 B φ x v h => ⟨v, h, fun _ _ _ h => h⟩
theorem hole_tup {y : AV} (hy : Plain y) : Hole fun x => .tup [x, y] := by
  intro w0 B φ x v h
  cases h with
  | tup _ vs hl hr =>
    have h0 : 0 < vs.size := by simp at hl; omega
    have h1 : 1 < vs.size := by simp at hl; omega
    refine ⟨vs[0], hr 0 x vs[0] rfl (Array.getElem?_eq_getElem h0), fun φ2 x2 _ h2 => .tup _ vs (by simpa using hl) ?_⟩
    intro k z u hz hu
    match k, hz with
    | 0, hz =>
      simp at hz
      subst hz
      rw [Array.getElem?_eq_getElem h0] at hu
      cases hu
      exact h2
    | 1, hz =>
      simp at hz
      subst hz
      exact hy.rep (hr 1 y u rfl hu)
theorem SimCall.gc1 {cx : Cx} {h : AH} {F : AV → AV} (hF : Hole F) {f : FuncId} {args : List AV} {Q : Nat → Nat → List AV → Prop}
    (hc : SimCall cx f args h fun r h' => ∃ g, h' = h ++ g ∧ ∃ id ver n sz cs, r = F (.sl id ver 0 n sz) ∧ h.length ≤ id ∧ AH.get h' id ver = some cs ∧ (∀ x ∈ cs, Plain x) ∧ Q n sz cs) :
    SimCall cx f args h fun r h' => ∃ n sz cs, Q n sz cs ∧ r = F (.sl h.length 0 0 n sz) ∧ h' = h ++ [.cells 0 cs] := by
  refine ⟨hc.1, fun φ w vs h1 h2 h3 => (hc.2 φ w vs h1 h2 h3).mono ?_⟩
  rintro e w' ⟨v, r, h', φ', he, hv, hw', hst, g, rfl, id, ver, n, sz, cs, rfl, hid, hget, hp, hq⟩
  obtain ⟨u, hu, hback⟩ := hF _ _ _ _ _ hv
  cases hu with
  | sl _ _ _ _ _ b N cap hφ a1 a2 a3 a4 =>
  have ho : (h ++ g)[id]? = some (.cells ver cs) := by
    unfold AH.get at hget
    split at hget
    · rename_i v' cs' hh
      split at hget
      · rename_i hv'
        simp only [Option.some.injEq] at hget
        rw [hh, hv', hget]
      · cases hget
    · cases hget
  have hnone : ∀ v, φ h.length v = none := fun v => h3.none_of (fun o ho => by have := (List.getElem?_eq_some_iff.1 ho).1; omega)
  have hext : Ext φ (newPhi φ h.length 0 b N) := newPhi_ext (hnone 0) b N
  have hold : ∀ (i v : Nat), i ≠ h.length → newPhi φ h.length 0 b N i v = φ i v := by
    intro i v hi
    unfold newPhi
    rw [if_neg (by omega)]
  have hnew : ∀ (v bb : Nat) m, newPhi φ h.length 0 b N h.length v = some (bb, m) → v = 0 ∧ bb = b ∧ m = N := by
    intro v bb m he
    unfold newPhi at he
    split at he
    · rename_i hc
      simp at he
      exact ⟨hc.2, he.1.symm, he.2.symm⟩
    · rw [hnone] at he; cases he
  have hself : newPhi φ h.length 0 b N h.length 0 = some (b, N) := by unfold newPhi; simp
  have hsplit : ∀ (i : Nat) o, (h ++ [AO.cells 0 cs])[i]? = some o → (i < h.length ∧ h[i]? = some o) ∨ (i = h.length ∧ o = .cells 0 cs) := by
    intro i o hi
    by_cases hlt : i < h.length
    · rw [List.getElem?_append_left hlt] at hi
      exact .inl ⟨hlt, hi⟩
    · rw [List.getElem?_append_right (by omega)] at hi
      have h0 : i - h.length = 0 := by
        have := (List.getElem?_eq_some_iff.1 hi).1
        simp at this
        omega
      rw [h0] at hi
      simp at hi
      exact .inr ⟨by omega, hi.symm⟩
  have hob := hw'.obj id _ b N ho hφ
  refine ⟨v, F (.sl h.length 0 0 n sz), h ++ [.cells 0 cs], newPhi φ h.length 0 b N, he, hback _ _ (.inr trivial) (.sl _ _ _ _ _ b N cap hself a1 a2 a3 a4), ?_, ?_, n, sz, cs, hq, rfl, rfl⟩
  · refine ⟨hw'.below, ?_, ?_, ?_, ?_⟩
    · intro i o bb nn hi hb
      rcases hsplit i o hi with ⟨hlt, hi'⟩ | ⟨rfl, rfl⟩
      · rw [hold _ _ (by omega)] at hb
        exact ((h3.obj i o bb nn hi' hb).back hst.ext (hw'.obj i o bb nn (by rw [List.getElem?_append_left hlt]; exact hi') (hst.ext _ _ _ hb))).mono hext rfl
      · obtain ⟨_, rfl, rfl⟩ := hnew _ _ _ hb
        obtain ⟨q1, ccs, T, q2, q3, q4, q5, q6⟩ := hob
        exact ⟨q1, ccs, T, q2, q3, q4, fun k x v hx hv => (hp x (List.mem_of_getElem? hx)).rep (q5 k x v hx hv), q6⟩
    · intro i j x y bb m m' hx hy hb hb'
      rcases hsplit i x hx with ⟨hlt, hx'⟩ | ⟨rfl, rfl⟩ <;> rcases hsplit j y hy with ⟨hlt2, hy'⟩ | ⟨rfl, rfl⟩
      · rw [hold _ _ (by omega)] at hb hb'
        exact h3.inj i j x y bb m m' hx' hy' hb hb'
      · rw [hold _ _ (by omega)] at hb
        obtain ⟨_, rfl, rfl⟩ := hnew _ _ _ hb'
        have := hw'.inj i id x _ bb m m' (by rw [List.getElem?_append_left hlt]; exact hx') ho (hst.ext _ _ _ hb) hφ
        omega
      · rw [hold _ _ (by omega)] at hb'
        obtain ⟨_, rfl, rfl⟩ := hnew _ _ _ hb
        have := hw'.inj j id y _ bb m' m (by rw [List.getElem?_append_left hlt2]; exact hy') ho (hst.ext _ _ _ hb') hφ
        omega
      · rfl
    · intro i v r hr
      by_cases hi : i = h.length
      · subst hi
        obtain ⟨rb, rn⟩ := r
        obtain ⟨rfl, _⟩ := hnew _ _ _ hr
        exact ⟨.cells 0 cs, by simp, Nat.le_refl _⟩
      · rw [hold _ _ hi] at hr
        obtain ⟨o, h5, h6⟩ := h3.dom i v r hr
        exact ⟨o, by rw [List.getElem?_append_left (List.getElem?_eq_some_iff.1 h5).1]; exact h5, h6⟩
    · intro i v bb m hb
      by_cases hi : i = h.length
      · subst hi
        obtain ⟨_, rfl, _⟩ := hnew _ _ _ hb
        exact hw'.hi _ _ _ _ hφ
      · rw [hold _ _ hi] at hb
        have := h3.hi _ _ _ _ hb
        have := hst.size
        omega
  · refine ⟨hext, hst.keep, ?_, hst.size, by simp, ?_⟩
    · intro i o bb m hi hb hlt
      rcases hsplit i o hi with ⟨hl, hi'⟩ | ⟨rfl, rfl⟩
      · rw [hold _ _ (by omega)] at hb
        exact ⟨i, o, m, hi', hb⟩
      · obtain ⟨_, rfl, rfl⟩ := hnew _ _ _ hb
        exact hst.cur id _ bb m ho hφ hlt
    · intro i hi hv v
      rw [hold i v (by omega)]
      exact hv v
end Go.Eng
namespace Go.Eng
open Go.RowKit
section
variable {cx : Cx} {s s' : XSt} {K2 : XEx → XSt → Prop} {K L : XSt → Prop} {e : XEx} {y : XCode} {id : Nat} {rs : List XRes} {Q : AV → AH → Prop} {l : List XI} {dl : List DI} {pr : Option Pr} {d : Option Nat} {r r' : AV} {h h' : AH}
@[congr] theorem seqK_congr (q : s = s') : seqK cx y K2 e s = seqK cx y K2 e s' := by rw [q]
@[congr] theorem blkK_congr (q : s = s') : blkK id K2 e s = blkK id K2 e s' := by rw [q]
@[congr] theorem loopK_congr (q : s = s') : loopK L K2 e s = loopK L K2 e s' := by rw [q]
@[congr] theorem endK_congr (q : s = s') : endK rs Q e s = endK rs Q e s' := by rw [q]
@[congr] theorem semK_congr (q : s = s') : semK cx l K s = semK cx l K s' := by rw [q]
@[congr] theorem opK_congr (q1 : s = s') (q2 : r = r') (q3 : h = h') : opK cx l s d K r h = opK cx l s' d K r' h' := by rw [q1, q2, q3]
@[congr] theorem dopK_congr (q1 : s = s') (q2 : r = r') (q3 : h = h') : dopK cx pr dl s d K r h = dopK cx pr dl s' d K r' h' := by rw [q1, q2, q3]
@[congr] theorem dcaK_congr (q1 : s = s') (q2 : r = r') (q3 : h = h') : dcaK cx pr dl s d K r h = dcaK cx pr dl s' d K r' h' := by rw [q1, q2, q3]
end
section
variable {cx : Cx} {s : XSt} {K : XSt → Prop} {l : List XI} {r : List DI} {d : Option Nat} {t : Nat} {b c : Bool} {body : XBody}
theorem wl_if (hs : s.fr.getD t .un = .v (.bool c)) (h1 : c = b → wl cx (⟨d, none, body⟩ :: l) s K) (h2 : c = !b → wl cx l (s.put d .und s.h) K) : wl cx (⟨d, some (t, b), body⟩ :: l) s K := by
  by_cases hc : c = b
  · rw [wl_run (by rw [hs, hc])]
    exact h1 hc
  · have hc' : c = !b := by cases c <;> cases b <;> simp_all
    rw [wl_pass (by rw [hs, hc'])]
    exact h2 hc'
theorem wl_ifT (hs : s.fr.getD t .un = .v (.bool c)) (h1 : c = true → wl cx (⟨d, none, body⟩ :: l) s K) (h2 : c = false → wl cx l (s.put d .und s.h) K) : wl cx (⟨d, some (t, true), body⟩ :: l) s K := wl_if hs h1 h2
theorem wl_ifF (hs : s.fr.getD t .un = .v (.bool c)) (h1 : c = true → wl cx l (s.put d .und s.h) K) (h2 : c = false → wl cx (⟨d, none, body⟩ :: l) s K) : wl cx (⟨d, some (t, false), body⟩ :: l) s K := wl_if hs h2 h1
@[go_sem] theorem wds_run (hs : s.fr.getD t .un = .v (.bool b)) : wds cx none (.i ⟨d, some (t, b), body⟩ :: r) s K = wds cx none (.i ⟨d, none, body⟩ :: r) s K := by
  simp only [wds, hs, tagP, true_and]
  refine propext ⟨fun h => h.1 trivial, fun h => ⟨fun _ => h, fun e => by cases b <;> simp at e⟩⟩
@[go_sem] theorem wds_pass (hs : s.fr.getD t .un = .v (.bool !b)) : wds cx none (.i ⟨d, some (t, b), body⟩ :: r) s K = wds cx none r (s.put d .und s.h) K := by
  simp only [wds, hs, tagP, true_and]
  cases b <;> simp
@[go_sem] theorem wds_und (hs : s.fr.getD t .un = .und) : wds cx none (.i ⟨d, some (t, b), body⟩ :: r) s K = wds cx none r (s.put d .und s.h) K := by
  simp only [wds, hs, tagP, true_and]
theorem wds_if (hs : s.fr.getD t .un = .v (.bool c)) (h1 : c = b → wds cx none (.i ⟨d, none, body⟩ :: r) s K) (h2 : c = !b → wds cx none r (s.put d .und s.h) K) : wds cx none (.i ⟨d, some (t, b), body⟩ :: r) s K := by
  by_cases hc : c = b
  · rw [wds_run (by rw [hs, hc])]
    exact h1 hc
  · have hc' : c = !b := by cases c <;> cases b <;> simp_all
    rw [wds_pass (by rw [hs, hc'])]
    exact h2 hc'
theorem wds_ifT (hs : s.fr.getD t .un = .v (.bool c)) (h1 : c = true → wds cx none (.i ⟨d, none, body⟩ :: r) s K) (h2 : c = false → wds cx none r (s.put d .und s.h) K) : wds cx none (.i ⟨d, some (t, true), body⟩ :: r) s K := wds_if hs h1 h2
theorem wds_ifF (hs : s.fr.getD t .un = .v (.bool c)) (h1 : c = true → wds cx none r (s.put d .und s.h) K) (h2 : c = false → wds cx none (.i ⟨d, none, body⟩ :: r) s K) : wds cx none (.i ⟨d, some (t, false), body⟩ :: r) s K := wds_if hs h2 h1
theorem dK_of {g : FuncId} {args : List AV} {h : AH} {Kd : AV → AH → Prop} (r : AV) (hc : SimCall cx g args h fun r2 h2 => h2 = h ∧ r2 = r) (hk : Kd r []) : dK cx g args h Kd :=
  ⟨r, [], hc.mono fun _ _ ⟨e1, e2⟩ => ⟨e2, by rw [e1, List.append_nil]⟩, hk⟩
theorem plain_v (x : Value) : Plain (.v x) := .v x
theorem plain_tup {l : List AV} (h : ∀ x ∈ l, Plain x) : Plain (.tup l) := .tup l h
theorem more_nil {h : AH} : ∃ g, h = h ++ g := ⟨[], (List.append_nil h).symm⟩
theorem more_one {h g : AH} : ∃ g', h ++ g = h ++ g' := ⟨g, rfl⟩
theorem SemL.pre1 {n : Nat} (hn : preN l = n + 1) (h : wl cx (l.take (n + 1)) s (semK cx (l.drop (n + 1)) K)) : SemL cx l s K := SemL.split (n + 1) h
end
end Go.Eng
namespace Go.Eng
open Go.RowKit
@[go_sem] theorem isAlloc_mov {d : Option Nat} {g : Option (Nat × Bool)} {a0} : isAlloc ⟨d, g, .op (.mov a0)⟩ = false := by cases g <;> rfl
@[go_sem] theorem isAlloc_pick {d : Option Nat} {g : Option (Nat × Bool)} {a0} {a1} {a2} : isAlloc ⟨d, g, .op (.pick a0 a1 a2)⟩ = false := by cases g <;> rfl
@[go_sem] theorem isAlloc_box {d : Option Nat} {g : Option (Nat × Bool)} {a0} : isAlloc ⟨d, g, .op (.box a0)⟩ = false := by cases g <;> rfl
@[go_sem] theorem isAlloc_build {d : Option Nat} {g : Option (Nat × Bool)} {a0} {a1} : isAlloc ⟨d, g, .op (.build a0 a1)⟩ = false := by cases g <;> rfl
@[go_sem] theorem isAlloc_bsl {d : Option Nat} {g : Option (Nat × Bool)} {a0} {a1} {a2} {a3} : isAlloc ⟨d, g, .op (.bsl a0 a1 a2 a3)⟩ = false := by cases g <;> rfl
@[go_sem] theorem isAlloc_ld1 {d : Option Nat} {g : Option (Nat × Bool)} {a0} : isAlloc ⟨d, g, .op (.ld1 a0)⟩ = false := by cases g <;> rfl
@[go_sem] theorem isAlloc_lda {d : Option Nat} {g : Option (Nat × Bool)} {a0} {a1} : isAlloc ⟨d, g, .op (.lda a0 a1)⟩ = false := by cases g <;> rfl
@[go_sem] theorem isAlloc_st {d : Option Nat} {g : Option (Nat × Bool)} {a0} {a1} {a2} : isAlloc ⟨d, g, .op (.st a0 a1 a2)⟩ = false := by cases g <;> rfl
@[go_sem] theorem isAlloc_nck {d : Option Nat} {g : Option (Nat × Bool)} {a0} : isAlloc ⟨d, g, .op (.nck a0)⟩ = false := by cases g <;> rfl
@[go_sem] theorem isAlloc_bin {d : Option Nat} {g : Option (Nat × Bool)} {a0} {a1} {a2} : isAlloc ⟨d, g, .op (.bin a0 a1 a2)⟩ = false := by cases g <;> rfl
@[go_sem] theorem isAlloc_beq {d : Option Nat} {g : Option (Nat × Bool)} {a0} {a1} {a2} : isAlloc ⟨d, g, .op (.beq a0 a1 a2)⟩ = false := by cases g <;> rfl
@[go_sem] theorem isAlloc_un {d : Option Nat} {g : Option (Nat × Bool)} {a0} {a1} : isAlloc ⟨d, g, .op (.un a0 a1)⟩ = false := by cases g <;> rfl
@[go_sem] theorem isAlloc_cvi {d : Option Nat} {g : Option (Nat × Bool)} {a0} {a1} : isAlloc ⟨d, g, .op (.cvi a0 a1)⟩ = false := by cases g <;> rfl
@[go_sem] theorem isAlloc_cvs {d : Option Nat} {g : Option (Nat × Bool)} {a0} : isAlloc ⟨d, g, .op (.cvs a0)⟩ = false := by cases g <;> rfl
@[go_sem] theorem isAlloc_mkf {d : Option Nat} {g : Option (Nat × Bool)} {a0} {a1} : isAlloc ⟨d, g, .op (.mkf a0 a1)⟩ = false := by cases g <;> rfl
@[go_sem] theorem isAlloc_sls {d : Option Nat} {g : Option (Nat × Bool)} {a0} {a1} {a2} {a3} : isAlloc ⟨d, g, .op (.sls a0 a1 a2 a3)⟩ = false := by cases g <;> rfl
@[go_sem] theorem isAlloc_slt {d : Option Nat} {g : Option (Nat × Bool)} {a0} {a1} {a2} : isAlloc ⟨d, g, .op (.slt a0 a1 a2)⟩ = false := by cases g <;> rfl
@[go_sem] theorem isAlloc_sla {d : Option Nat} {g : Option (Nat × Bool)} {a0} {a1} {a2} {a3} {a4} : isAlloc ⟨d, g, .op (.sla a0 a1 a2 a3 a4)⟩ = false := by cases g <;> rfl
@[go_sem] theorem isAlloc_fad {d : Option Nat} {g : Option (Nat × Bool)} {a0} {a1} : isAlloc ⟨d, g, .op (.fad a0 a1)⟩ = false := by cases g <;> rfl
@[go_sem] theorem isAlloc_fld {d : Option Nat} {g : Option (Nat × Bool)} {a0} {a1} {a2} : isAlloc ⟨d, g, .op (.fld a0 a1 a2)⟩ = false := by cases g <;> rfl
@[go_sem] theorem isAlloc_iad {d : Option Nat} {g : Option (Nat × Bool)} {a0} {a1} {a2} : isAlloc ⟨d, g, .op (.iad a0 a1 a2)⟩ = false := by cases g <;> rfl
@[go_sem] theorem isAlloc_iaa {d : Option Nat} {g : Option (Nat × Bool)} {a0} {a1} {a2} {a3} : isAlloc ⟨d, g, .op (.iaa a0 a1 a2 a3)⟩ = false := by cases g <;> rfl
@[go_sem] theorem isAlloc_ixs {d : Option Nat} {g : Option (Nat × Bool)} {a0} {a1} : isAlloc ⟨d, g, .op (.ixs a0 a1)⟩ = false := by cases g <;> rfl
@[go_sem] theorem isAlloc_ext {d : Option Nat} {g : Option (Nat × Bool)} {a0} {a1} : isAlloc ⟨d, g, .op (.ext a0 a1)⟩ = false := by cases g <;> rfl
@[go_sem] theorem isAlloc_lens {d : Option Nat} {g : Option (Nat × Bool)} {a0} : isAlloc ⟨d, g, .op (.lens a0)⟩ = false := by cases g <;> rfl
@[go_sem] theorem isAlloc_lenl {d : Option Nat} {g : Option (Nat × Bool)} {a0} : isAlloc ⟨d, g, .op (.lenl a0)⟩ = false := by cases g <;> rfl
@[go_sem] theorem isAlloc_lenk {d : Option Nat} {g : Option (Nat × Bool)} {a0} : isAlloc ⟨d, g, .op (.lenk a0)⟩ = false := by cases g <;> rfl
@[go_sem] theorem isAlloc_mx {d : Option Nat} {g : Option (Nat × Bool)} {a0} {a1} {a2} : isAlloc ⟨d, g, .op (.mx a0 a1 a2)⟩ = false := by cases g <;> rfl
@[go_sem] theorem isAlloc_app {d : Option Nat} {g : Option (Nat × Bool)} {a0} {a1} {a2} {a3} : isAlloc ⟨d, g, .op (.app a0 a1 a2 a3)⟩ = false := by cases g <;> rfl
@[go_sem] theorem isAlloc_mks {d : Option Nat} {g : Option (Nat × Bool)} {a0} {a1} {a2} {a3} {a4} : isAlloc ⟨d, g, .op (.mks a0 a1 a2 a3 a4)⟩ = false := by cases g <;> rfl
@[go_sem] theorem isAlloc_cpy {d : Option Nat} {g : Option (Nat × Bool)} {a0} {a1} {a2} : isAlloc ⟨d, g, .op (.cpy a0 a1 a2)⟩ = false := by cases g <;> rfl
@[go_sem] theorem isAlloc_seq {d : Option Nat} {g : Option (Nat × Bool)} {a0} {a1} {a2} {a3} : isAlloc ⟨d, g, .op (.seq a0 a1 a2 a3)⟩ = false := by cases g <;> rfl
@[go_sem] theorem isAlloc_sno {d : Option Nat} {g : Option (Nat × Bool)} {a0} {a1} : isAlloc ⟨d, g, .op (.sno a0 a1)⟩ = false := by cases g <;> rfl
@[go_sem] theorem isAlloc_bts {d : Option Nat} {g : Option (Nat × Bool)} {a0} : isAlloc ⟨d, g, .op (.bts a0)⟩ = false := by cases g <;> rfl
@[go_sem] theorem isAlloc_stb {d : Option Nat} {g : Option (Nat × Bool)} {a0} : isAlloc ⟨d, g, .op (.stb a0)⟩ = false := by cases g <;> rfl
@[go_sem] theorem isAlloc_mkm {d : Option Nat} {g : Option (Nat × Bool)} {a0} : isAlloc ⟨d, g, .op (.mkm a0)⟩ = false := by cases g <;> rfl
@[go_sem] theorem isAlloc_lku {d : Option Nat} {g : Option (Nat × Bool)} {a0} {a1} {a2} {a3} {a4} : isAlloc ⟨d, g, .op (.lku a0 a1 a2 a3 a4)⟩ = false := by cases g <;> rfl
@[go_sem] theorem isAlloc_mup {d : Option Nat} {g : Option (Nat × Bool)} {a0} {a1} {a2} {a3} : isAlloc ⟨d, g, .op (.mup a0 a1 a2 a3)⟩ = false := by cases g <;> rfl
@[go_sem] theorem isAlloc_men {d : Option Nat} {g : Option (Nat × Bool)} {a0} {a1} {a2} {a3} : isAlloc ⟨d, g, .op (.men a0 a1 a2 a3)⟩ = false := by cases g <;> rfl
@[go_sem] theorem isAlloc_mes {d : Option Nat} {g : Option (Nat × Bool)} {a0} {a1} {a2} : isAlloc ⟨d, g, .op (.mes a0 a1 a2)⟩ = false := by cases g <;> rfl
@[go_sem] theorem isAlloc_lenm {d : Option Nat} {g : Option (Nat × Bool)} {a0} : isAlloc ⟨d, g, .op (.lenm a0)⟩ = false := by cases g <;> rfl
@[go_sem] theorem isAlloc_del {d : Option Nat} {g : Option (Nat × Bool)} {a0} {a1} {a2} : isAlloc ⟨d, g, .op (.del a0 a1 a2)⟩ = false := by cases g <;> rfl
@[go_sem] theorem isAlloc_call {d : Option Nat} {g : Option (Nat × Bool)} {f : XO} {a : List XO} : isAlloc ⟨d, g, .call f a⟩ = false := by cases g <;> rfl
@[go_sem] theorem isAlloc_guard {d : Option Nat} {g : Nat × Bool} {b : XBody} : isAlloc ⟨d, some g, b⟩ = false := by
  cases b with
  | op x => cases x <;> rfl
  | call f a => rfl
section
variable {cx : Cx} {s : XSt} {K : XSt → Prop} {d : Option Nat} {t : Nat} {p c e : Bool} {x : XOp} {r : AV} {f : XO} {as caps : List AV} {args : List XO} {g : FuncId}
@[go_sem] theorem pick_or : (if c = true then AV.v (.bool true) else if (!c) = true then AV.v (.bool e) else .und) = AV.v (.bool (c || e)) := by cases c <;> rfl
@[go_sem] theorem pick_and : (if c = true then (if c = true then AV.v (.bool e) else .und) else AV.v (.bool false)) = AV.v (.bool (c && e)) := by cases c <;> rfl
@[go_sem] theorem pick_orI {k : IntKind} {a b : Int} : (if c = true then AV.v (.int k a) else if (!c) = true then AV.v (.int k b) else .und) = AV.v (.int k (if c then a else b)) := by cases c <;> rfl
section
variable {l : List XI}
theorem wl_optT (hs : s.fr.getD t .un = .v (.bool c)) (hr : c = true → xev cx s x = some (r, s.h)) (hk : wl cx l (s.put d (if (c) = true then r else .und) s.h) K) : wl cx (⟨d, (some (t, true)), .op x⟩ :: l) s K := by
  cases c with
  | false =>
    rw [wl_pass (by simpa using hs)]
    simpa using hk
  | true =>
    rw [wl_run hs]
    exact ⟨r, s.h, hr rfl, by simpa using hk⟩
theorem wl_optcT (hs : s.fr.getD t .un = .v (.bool c)) (hf : s.ev cx f = .fn g caps) (hr : c = true → SimCall cx g (args.map (s.ev cx) ++ caps) s.h fun r2 h2 => h2 = s.h ∧ r2 = r) (hk : wl cx l (s.put d (if (c) = true then r else .und) s.h) K) : wl cx (⟨d, (some (t, true)), .call f args⟩ :: l) s K := by
  cases c with
  | false =>
    rw [wl_pass (by simpa using hs)]
    simpa using hk
  | true =>
    rw [wl_run hs]
    exact ⟨g, caps, hf, (hr rfl).mono fun r2 h2 ⟨q1, q2⟩ => by rw [q1, q2]; simpa using hk⟩
theorem wl_optF (hs : s.fr.getD t .un = .v (.bool c)) (hr : c = false → xev cx s x = some (r, s.h)) (hk : wl cx l (s.put d (if (!c) = true then r else .und) s.h) K) : wl cx (⟨d, (some (t, false)), .op x⟩ :: l) s K := by
  cases c with
  | false =>
    rw [wl_run hs]
    exact ⟨r, s.h, hr rfl, by simpa using hk⟩
  | true =>
    rw [wl_pass (by simpa using hs)]
    simpa using hk
theorem wl_optcF (hs : s.fr.getD t .un = .v (.bool c)) (hf : s.ev cx f = .fn g caps) (hr : c = false → SimCall cx g (args.map (s.ev cx) ++ caps) s.h fun r2 h2 => h2 = s.h ∧ r2 = r) (hk : wl cx l (s.put d (if (!c) = true then r else .und) s.h) K) : wl cx (⟨d, (some (t, false)), .call f args⟩ :: l) s K := by
  cases c with
  | false =>
    rw [wl_run hs]
    exact ⟨g, caps, hf, (hr rfl).mono fun r2 h2 ⟨q1, q2⟩ => by rw [q1, q2]; simpa using hk⟩
  | true =>
    rw [wl_pass (by simpa using hs)]
    simpa using hk
theorem wl_opt2T (hs : s.fr.getD t .un = if p = true then .v (.bool c) else .und) (hr : p = true → c = true → xev cx s x = some (r, s.h)) (hk : wl cx l (s.put d (if (p && c) = true then r else .und) s.h) K) : wl cx (⟨d, (some (t, true)), .op x⟩ :: l) s K := by
  cases p with
  | false =>
    rw [wl_und (by simpa using hs)]
    simpa using hk
  | true =>
    simp only [if_true] at hs
    cases c with
    | false =>
      rw [wl_pass (by simpa using hs)]
      simpa using hk
    | true =>
      rw [wl_run hs]
      exact ⟨r, s.h, hr rfl rfl, by simpa using hk⟩
theorem wl_optc2T (hs : s.fr.getD t .un = if p = true then .v (.bool c) else .und) (hf : s.ev cx f = .fn g caps) (hr : p = true → c = true → SimCall cx g (args.map (s.ev cx) ++ caps) s.h fun r2 h2 => h2 = s.h ∧ r2 = r) (hk : wl cx l (s.put d (if (p && c) = true then r else .und) s.h) K) : wl cx (⟨d, (some (t, true)), .call f args⟩ :: l) s K := by
  cases p with
  | false =>
    rw [wl_und (by simpa using hs)]
    simpa using hk
  | true =>
    simp only [if_true] at hs
    cases c with
    | false =>
      rw [wl_pass (by simpa using hs)]
      simpa using hk
    | true =>
      rw [wl_run hs]
      exact ⟨g, caps, hf, (hr rfl rfl).mono fun r2 h2 ⟨q1, q2⟩ => by rw [q1, q2]; simpa using hk⟩
theorem wl_opt2F (hs : s.fr.getD t .un = if p = true then .v (.bool c) else .und) (hr : p = true → c = false → xev cx s x = some (r, s.h)) (hk : wl cx l (s.put d (if (p && !c) = true then r else .und) s.h) K) : wl cx (⟨d, (some (t, false)), .op x⟩ :: l) s K := by
  cases p with
  | false =>
    rw [wl_und (by simpa using hs)]
    simpa using hk
  | true =>
    simp only [if_true] at hs
    cases c with
    | false =>
      rw [wl_run hs]
      exact ⟨r, s.h, hr rfl rfl, by simpa using hk⟩
    | true =>
      rw [wl_pass (by simpa using hs)]
      simpa using hk
theorem wl_optc2F (hs : s.fr.getD t .un = if p = true then .v (.bool c) else .und) (hf : s.ev cx f = .fn g caps) (hr : p = true → c = false → SimCall cx g (args.map (s.ev cx) ++ caps) s.h fun r2 h2 => h2 = s.h ∧ r2 = r) (hk : wl cx l (s.put d (if (p && !c) = true then r else .und) s.h) K) : wl cx (⟨d, (some (t, false)), .call f args⟩ :: l) s K := by
  cases p with
  | false =>
    rw [wl_und (by simpa using hs)]
    simpa using hk
  | true =>
    simp only [if_true] at hs
    cases c with
    | false =>
      rw [wl_run hs]
      exact ⟨g, caps, hf, (hr rfl rfl).mono fun r2 h2 ⟨q1, q2⟩ => by rw [q1, q2]; simpa using hk⟩
    | true =>
      rw [wl_pass (by simpa using hs)]
      simpa using hk
end
section
variable {l : List DI}
theorem wds_optT (hs : s.fr.getD t .un = .v (.bool c)) (hr : c = true → xev cx s x = some (r, s.h)) (hk : wds cx none l (s.put d (if (c) = true then r else .und) s.h) K) : wds cx none (.i ⟨d, (some (t, true)), .op x⟩ :: l) s K := by
  cases c with
  | false =>
    rw [wds_pass (by simpa using hs)]
    simpa using hk
  | true =>
    rw [wds_run hs]
    exact ⟨trivial, r, s.h, hr rfl, by simpa using hk⟩
theorem wds_optcT (hs : s.fr.getD t .un = .v (.bool c)) (hf : s.ev cx f = .fn g caps) (hr : c = true → SimCall cx g (args.map (s.ev cx) ++ caps) s.h fun r2 h2 => h2 = s.h ∧ r2 = r) (hk : wds cx none l (s.put d (if (c) = true then r else .und) s.h) K) : wds cx none (.i ⟨d, (some (t, true)), .call f args⟩ :: l) s K := by
  cases c with
  | false =>
    rw [wds_pass (by simpa using hs)]
    simpa using hk
  | true =>
    rw [wds_run hs]
    exact ⟨trivial, g, caps, hf, r, [], (hr rfl).mono fun r2 h2 ⟨q1, q2⟩ => ⟨q2, by rw [q1, List.append_nil]⟩, by simpa using hk⟩
theorem wds_optF (hs : s.fr.getD t .un = .v (.bool c)) (hr : c = false → xev cx s x = some (r, s.h)) (hk : wds cx none l (s.put d (if (!c) = true then r else .und) s.h) K) : wds cx none (.i ⟨d, (some (t, false)), .op x⟩ :: l) s K := by
  cases c with
  | false =>
    rw [wds_run hs]
    exact ⟨trivial, r, s.h, hr rfl, by simpa using hk⟩
  | true =>
    rw [wds_pass (by simpa using hs)]
    simpa using hk
theorem wds_optcF (hs : s.fr.getD t .un = .v (.bool c)) (hf : s.ev cx f = .fn g caps) (hr : c = false → SimCall cx g (args.map (s.ev cx) ++ caps) s.h fun r2 h2 => h2 = s.h ∧ r2 = r) (hk : wds cx none l (s.put d (if (!c) = true then r else .und) s.h) K) : wds cx none (.i ⟨d, (some (t, false)), .call f args⟩ :: l) s K := by
  cases c with
  | false =>
    rw [wds_run hs]
    exact ⟨trivial, g, caps, hf, r, [], (hr rfl).mono fun r2 h2 ⟨q1, q2⟩ => ⟨q2, by rw [q1, List.append_nil]⟩, by simpa using hk⟩
  | true =>
    rw [wds_pass (by simpa using hs)]
    simpa using hk
theorem wds_opt2T (hs : s.fr.getD t .un = if p = true then .v (.bool c) else .und) (hr : p = true → c = true → xev cx s x = some (r, s.h)) (hk : wds cx none l (s.put d (if (p && c) = true then r else .und) s.h) K) : wds cx none (.i ⟨d, (some (t, true)), .op x⟩ :: l) s K := by
  cases p with
  | false =>
    rw [wds_und (by simpa using hs)]
    simpa using hk
  | true =>
    simp only [if_true] at hs
    cases c with
    | false =>
      rw [wds_pass (by simpa using hs)]
      simpa using hk
    | true =>
      rw [wds_run hs]
      exact ⟨trivial, r, s.h, hr rfl rfl, by simpa using hk⟩
theorem wds_optc2T (hs : s.fr.getD t .un = if p = true then .v (.bool c) else .und) (hf : s.ev cx f = .fn g caps) (hr : p = true → c = true → SimCall cx g (args.map (s.ev cx) ++ caps) s.h fun r2 h2 => h2 = s.h ∧ r2 = r) (hk : wds cx none l (s.put d (if (p && c) = true then r else .und) s.h) K) : wds cx none (.i ⟨d, (some (t, true)), .call f args⟩ :: l) s K := by
  cases p with
  | false =>
    rw [wds_und (by simpa using hs)]
    simpa using hk
  | true =>
    simp only [if_true] at hs
    cases c with
    | false =>
      rw [wds_pass (by simpa using hs)]
      simpa using hk
    | true =>
      rw [wds_run hs]
      exact ⟨trivial, g, caps, hf, r, [], (hr rfl rfl).mono fun r2 h2 ⟨q1, q2⟩ => ⟨q2, by rw [q1, List.append_nil]⟩, by simpa using hk⟩
theorem wds_opt2F (hs : s.fr.getD t .un = if p = true then .v (.bool c) else .und) (hr : p = true → c = false → xev cx s x = some (r, s.h)) (hk : wds cx none l (s.put d (if (p && !c) = true then r else .und) s.h) K) : wds cx none (.i ⟨d, (some (t, false)), .op x⟩ :: l) s K := by
  cases p with
  | false =>
    rw [wds_und (by simpa using hs)]
    simpa using hk
  | true =>
    simp only [if_true] at hs
    cases c with
    | false =>
      rw [wds_run hs]
      exact ⟨trivial, r, s.h, hr rfl rfl, by simpa using hk⟩
    | true =>
      rw [wds_pass (by simpa using hs)]
      simpa using hk
theorem wds_optc2F (hs : s.fr.getD t .un = if p = true then .v (.bool c) else .und) (hf : s.ev cx f = .fn g caps) (hr : p = true → c = false → SimCall cx g (args.map (s.ev cx) ++ caps) s.h fun r2 h2 => h2 = s.h ∧ r2 = r) (hk : wds cx none l (s.put d (if (p && !c) = true then r else .und) s.h) K) : wds cx none (.i ⟨d, (some (t, false)), .call f args⟩ :: l) s K := by
  cases p with
  | false =>
    rw [wds_und (by simpa using hs)]
    simpa using hk
  | true =>
    simp only [if_true] at hs
    cases c with
    | false =>
      rw [wds_run hs]
      exact ⟨trivial, g, caps, hf, r, [], (hr rfl rfl).mono fun r2 h2 ⟨q1, q2⟩ => ⟨q2, by rw [q1, List.append_nil]⟩, by simpa using hk⟩
    | true =>
      rw [wds_pass (by simpa using hs)]
      simpa using hk
end
end
end Go.Eng
namespace Go.Eng
open Go.RowKit
section
variable {cx : Cx}
theorem SimLoop.go {x : XCode} {s : XSt} {K : XEx → XSt → Prop} (h : wx cx x s (loopK (fun s' => SimLoop cx x s' K) K)) : SimLoop cx x s K := by
  refine SimLoop.unroll (wx_mono x ?_ h)
  intro e s' h1
  cases e <;> exact h1
end
attribute [go_sem] Nat.reduceAdd Nat.reduceMul Nat.reduceSub Nat.reduceEqDiff Nat.reduceLeDiff Nat.reduceLT Int.reduceNeg Int.reduceEq Int.reduceLE Int.reduceLT Int.reduceAdd
attribute [go_sem] Nat.zero_ne_one Nat.one_ne_zero and_self decide_true decide_false
attribute [go_sem ↓] reduceIte
end Go.Eng
namespace Go.Eng
open Go.RowKit
def avs {H : Type} (P : Program) : Nat → TypeId → DataW H → List AV
  | 0, _, _ => []
  | n + 1, t, d => match P.underlying t, d with
    | some .bool, .lit (.bool b) => [.v (.bool b)]
    | some (.int _), .lit (.int k x) => [.v (.int k x)]
    | some .string, .lit (.string bs) => [.v (.string ⟨bs.toArray⟩)]
    | some (.slice e), .slice es _ => [.ro (P.cellsOf e) es.length fun i => avs P n e (es.getD i .nil)]
    | some (.slice e), _ => [.ro (P.cellsOf e) 0 fun _ => []]
    | some (.struct fs), .agg ds => (fs.toList.zip ds).flatMap fun x => avs P n x.1.type x.2
    | some (.array _ e), .agg ds => ds.flatMap fun x => avs P n e x
    | _, _ => []
def fieldsOk (P : Program) (ok : TypeId → Bool) : Nat → List Field → Nat → Bool
  | off, [], m => decide (off = m)
  | off, f :: r, m => decide (f.offset = off) && ok f.type && fieldsOk P ok (off + P.cellsOf f.type) r m
def argOk (P : Program) : Nat → TypeId → Bool
  | 0, _ => false
  | n + 1, t => match P.underlying t with
    | some .bool | some (.int _) | some .string => decide (P.cellsOf t = 1)
    | some (.slice e) => decide (P.cellsOf t = 1) && decide (0 < P.cellsOf e) && argOk P n e
    | some (.struct fs) => fieldsOk P (argOk P n) 0 fs.toList (P.cellsOf t)
    | some (.array m e) => decide (P.cellsOf t = m * P.cellsOf e) && argOk P n e
    | _ => false
theorem mapM_all {α β : Type} {f : α → Option β} : ∀ {l : List α} {r : List β}, l.mapM f = some r → r.length = l.length ∧ ∀ (i : Nat) x, l[i]? = some x → ∃ y, r[i]? = some y ∧ f x = some y := by
  intro l r h
  refine ⟨mapM_some_length h, fun i x hx => ?_⟩
  have h1 := mapM_some_get h i x hx
  have h2 := mapM_some_length h
  have hi : i < r.length := by have := (List.getElem?_eq_some_iff.1 hx).1; omega
  exact ⟨_, List.getElem?_eq_getElem hi, by rw [h1]; exact List.getElem?_eq_getElem hi⟩
theorem cells_some {w : World} {b : Nat} {a : Addr} {n : Nat} {cs : List Value} (h : w.cells? b a n = some cs) : cs.length = n ∧ ∀ i, i < n → ∃ v, cs[i]? = some v ∧ w.cell? (a.add i) = some v := by
  unfold World.cells? at h
  split at h
  · obtain ⟨h1, h2⟩ := mapM_all h
    refine ⟨by simpa using h1, fun i hi => h2 i i (by simp [hi])⟩
  · cases h
theorem cell_plain {w : World} {a : Addr} {v : Value} (h : w.cell? a = some v) : a.spot = none ∧ a.block < w.heap.size := by
  unfold World.cell? at h
  split at h
  · rename_i c t z hb
    split at h
    · cases h
    · rename_i hs
      exact ⟨by simpa using hs, (Array.getElem?_eq_some_iff.1 hb).1⟩
  · cases h
theorem addr_add {a : Addr} (hs : a.spot = none) (n : Nat) : a.add n = ⟨a.block, a.off + n, none⟩ := by
  obtain ⟨b, o, s⟩ := a
  simp only at hs
  subst hs
  unfold Addr.add
  split <;> simp_all
def Reps (w0 : World) (B : Nat) (φ : Phi) (xs : List AV) (cs : List Value) : Prop := xs.length = cs.length ∧ (∀ (k : Nat) x v, xs[k]? = some x → cs[k]? = some v → Rep w0 B φ x v) ∧ ∀ v ∈ cs, v.oneCell' = true
section
variable {w0 : World} {B : Nat} {φ : Phi}
theorem Reps.nil : Reps w0 B φ [] [] := ⟨rfl, fun k x v h => by simp at h, fun v h => by cases h⟩
theorem Reps.one {x : AV} {v : Value} (h : Rep w0 B φ x v) (hv : v.oneCell' = true) : Reps w0 B φ [x] [v] := by
  refine ⟨rfl, ?_, fun u hu => by simp at hu; rw [hu]; exact hv⟩
  intro k y u hy hu
  cases k with
  | zero => simp at hy hu; subst hy; subst hu; exact h
  | succ k => simp at hy
theorem Reps.append {xs ys : List AV} {cs ds : List Value} (h : Reps w0 B φ xs cs) (k : Reps w0 B φ ys ds) : Reps w0 B φ (xs ++ ys) (cs ++ ds) := by
  obtain ⟨h1, h2, h3⟩ := h
  obtain ⟨k1, k2, k3⟩ := k
  refine ⟨by simp [h1, k1], ?_, fun v hv => (List.mem_append.1 hv).elim (h3 v) (k3 v)⟩
  intro i x v hx hv
  by_cases hi : i < xs.length
  · rw [List.getElem?_append_left hi] at hx
    rw [List.getElem?_append_left (by omega)] at hv
    exact h2 i x v hx hv
  · rw [List.getElem?_append_right (by omega)] at hx
    rw [List.getElem?_append_right (by omega), ← h1] at hv
    exact k2 _ x v hx hv
end
theorem drop_split {α : Type} (l : List α) (a b : Nat) : l.drop a = (l.drop a).take b ++ l.drop (a + b) := by
  rw [← List.drop_drop]
  exact (List.take_append_drop b (l.drop a)).symm
theorem trod_rep {H : Type} {enc : TypeId × Value → H} {P : Program} {w : World} {b0 : Nat} {sp : Nat → Bool} {hd : Bool} {φ : Phi} : ∀ (n : Nat) (t : TypeId) (m : Nat) (cs : List Value) (d : DataW H) (ps : List MemPlace),
    argOk P n t = true → DataW.trod enc P w b0 sp hd m t cs = some (d, ps) → Reps w w.heap.size φ (avs P n t d) cs ∧ cs.length = P.cellsOf t
  | 0, t, m, cs, d, ps, hok, h => by simp [argOk] at hok
  | n + 1, t, m, cs, d, ps, hok, h => by
    have ih := fun t m cs d ps => trod_rep (enc := enc) (P := P) (w := w) (b0 := b0) (sp := sp) (hd := hd) (φ := φ) n t m cs d ps
    unfold argOk at hok
    split at hok
    · rename_i ht
      obtain ⟨b, rfl, he⟩ := DataW.trod_bool ht h
      cases he
      simp only [avs, ht]
      exact ⟨.one (.v _) rfl, by simpa using (of_decide_eq_true hok).symm⟩
    · rename_i k ht
      obtain ⟨x, rfl, he, _⟩ := DataW.trod_int ht h
      cases he
      simp only [avs, ht]
      exact ⟨.one (.v _) rfl, by simpa using (of_decide_eq_true hok).symm⟩
    · rename_i ht
      obtain ⟨s, rfl, he, _⟩ := DataW.trod_string ht h
      cases he
      simp only [avs, ht]
      exact ⟨.one (.v _) rfl, by simpa using (of_decide_eq_true hok).symm⟩
    · rename_i e ht
      simp only [Bool.and_eq_true, decide_eq_true_eq] at hok
      obtain ⟨⟨h1, h2⟩, h3⟩ := hok
      rcases DataW.trod_slice ht h with ⟨rfl, he⟩ | ⟨a, len, cap, elems, rest, m', rfl, rfl, he, _, hlc, _, hlen, hel, _, _⟩
      · cases he
        simp only [avs, ht]
        refine ⟨.one ?_ rfl, by simpa using h1.symm⟩
        exact .ro _ 0 _ none 0 0 0 (fun _ _ => undef) (Nat.le_refl _) (fun hh => by omega) (fun i hi => by omega) (fun i k hi => by omega) (fun i k hi => by omega) (fun i k x hi => by omega)
      · cases he
        simp only [avs, ht]
        refine ⟨.one ?_ rfl, by simpa using h1.symm⟩
        have hone : ∀ i, i < len → ∃ es x, w.cells? b0 (a.add (i * P.cellsOf e)) (P.cellsOf e) = some es ∧ elems[i]? = some x ∧ Reps w w.heap.size φ (avs P n e x.1) es ∧ es.length = P.cellsOf e := by
          intro i hi
          have h4 := hel i hi
          rw [List.getElem?_eq_getElem (by omega)] at h4
          simp only [Option.bind_eq_some_iff] at h4
          obtain ⟨es, h5, h6⟩ := h4
          obtain ⟨h7, h8⟩ := ih e _ _ _ _ h3 (show DataW.trod enc P w b0 sp hd m' e es = some (elems[i].1, elems[i].2) from h6)
          exact ⟨es, elems[i], h5, List.getElem?_eq_getElem (by omega), h7, h8⟩
        have hgd : ∀ i x, elems[i]? = some x → (elems.map (·.1)).getD i .nil = x.1 := by
          intro i x hx
          rw [List.getD_eq_getElem?_getD, List.getElem?_map, hx]
          rfl
        have hsp : 0 < len → a = ⟨a.block, a.off, none⟩ ∧ a.block < w.heap.size := by
          intro hl
          obtain ⟨es, x, q1, _, _, q4⟩ := hone 0 hl
          obtain ⟨v, _, q5⟩ := (cells_some q1).2 0 h2
          have h0 : (a.add (0 * P.cellsOf e)).add 0 = a := by simp [Addr.add]
          rw [h0] at q5
          obtain ⟨q6, q7⟩ := cell_plain q5
          exact ⟨by obtain ⟨b, o, s⟩ := a; simp only at q6; subst q6; rfl, q7⟩
        have hcell : ∀ i k, i < len → k < P.cellsOf e → ∃ v x, w.cell? ⟨a.block, a.off + i * P.cellsOf e + k, none⟩ = some v ∧ v.oneCell' = true ∧ elems[i]? = some x ∧ ∀ y, (avs P n e x.1)[k]? = some y → Rep w w.heap.size φ y v := by
          intro i k hi hk
          obtain ⟨es, x, q1, q2, q3, q4⟩ := hone i hi
          obtain ⟨v, q5, q6⟩ := (cells_some q1).2 k hk
          obtain ⟨q7, _⟩ := hsp (by omega)
          have q8 : (a.add (i * P.cellsOf e)).add k = ⟨a.block, a.off + i * P.cellsOf e + k, none⟩ := by
            have q9 : a.spot = none := by rw [q7]
            rw [addr_add q9, addr_add rfl]
          rw [q8] at q6
          exact ⟨v, x, q6, q3.2.2 v (List.mem_of_getElem? q5), q2, fun y hy => q3.2.1 k y v hy q5⟩
        have hc : ∀ i k, ∃ v, i < len → k < P.cellsOf e → w.cell? ⟨a.block, a.off + i * P.cellsOf e + k, none⟩ = some v := by
          intro i k
          by_cases hik : i < len ∧ k < P.cellsOf e
          · obtain ⟨v, x, q, _⟩ := hcell i k hik.1 hik.2
            exact ⟨v, fun _ _ => q⟩
          · exact ⟨undef, fun p q => absurd ⟨p, q⟩ hik⟩
        obtain ⟨c, hc'⟩ : ∃ c : Nat → Nat → Value, ∀ i k, i < len → k < P.cellsOf e → w.cell? ⟨a.block, a.off + i * P.cellsOf e + k, none⟩ = some (c i k) :=
          ⟨fun i k => Classical.choose (hc i k), fun i k => Classical.choose_spec (hc i k)⟩
        rw [List.length_map, hlen]
        refine .ro _ len _ (some a) cap a.block a.off c hlc (fun hl => ⟨by rw [← (hsp hl).1], (hsp hl).2⟩) ?_ hc' ?_ ?_
        · intro i hi
          obtain ⟨es, x, q1, q2, q3, q4⟩ := hone i hi
          rw [hgd i x q2, q3.1, q4]
        · intro i k hi hk
          obtain ⟨v, x, q, q2, _⟩ := hcell i k hi hk
          rw [hc' i k hi hk] at q
          cases q
          exact q2
        · intro i k y hi hy
          obtain ⟨es, x, q1, q2, q3, q4⟩ := hone i hi
          rw [hgd i x q2] at hy
          have hk : k < P.cellsOf e := by have := (List.getElem?_eq_some_iff.1 hy).1; rw [q3.1, q4] at this; exact this
          obtain ⟨v, x', q, _, q5, q6⟩ := hcell i k hi hk
          rw [hc' i k hi hk] at q
          cases q
          rw [q2] at q5
          cases q5
          exact q6 y hy
    · rename_i fs ht
      obtain ⟨xs, m', rfl, he, hl, hxl, hf⟩ := DataW.trod_struct ht h
      cases he
      simp only [avs, ht]
      refine ⟨?_, hl⟩
      have key : ∀ (l : List Field) (j off : Nat), (∀ (i : Nat) f, l[i]? = some f → fs[j + i]? = some f) → l.length + j = xs.length → fieldsOk P (argOk P n) off l (P.cellsOf t) = true →
          Reps w w.heap.size φ ((l.zip ((xs.drop j).map (·.1))).flatMap fun x => avs P n x.1.type x.2) (cs.drop off) := by
        intro l
        induction l with
        | nil =>
          intro j off _ hj hok
          simp only [fieldsOk, decide_eq_true_eq] at hok
          rw [List.drop_of_length_le (show cs.length ≤ off by omega)]
          exact .nil
        | cons f r ihr =>
          intro j off hfs hj hok
          simp only [fieldsOk, Bool.and_eq_true, decide_eq_true_eq] at hok
          obtain ⟨⟨q1, q2⟩, q3⟩ := hok
          have hjl : j < xs.length := by simp at hj; omega
          have h4 := hf j f (by simpa using hfs 0 f rfl)
          rw [List.getElem?_eq_getElem hjl] at h4
          obtain ⟨h5, h6⟩ := ih f.type _ _ _ _ q2 (show DataW.trod enc P w b0 sp hd m' f.type _ = some (xs[j].1, xs[j].2) from h4)
          rw [q1] at h5
          rw [List.drop_eq_getElem_cons hjl]
          simp only [List.map_cons, List.zip_cons_cons, List.flatMap_cons]
          rw [drop_split cs off (P.cellsOf f.type)]
          exact h5.append (ihr (j + 1) _ (fun i g hg => by have := hfs (i + 1) g hg; rw [show j + 1 + i = j + (i + 1) by omega]; exact this) (by simp at hj; omega) q3)
      have := key fs.toList 0 0 (fun i f hf => by simpa using hf) (by simpa using hxl.symm) hok
      simpa using this
    · rename_i k e ht
      simp only [Bool.and_eq_true, decide_eq_true_eq] at hok
      obtain ⟨xs, m', rfl, he, hl, hxl, hf⟩ := DataW.trod_array ht h
      cases he
      simp only [avs, ht]
      refine ⟨?_, hl⟩
      have key : ∀ (c j : Nat), c + j = xs.length → Reps w w.heap.size φ (((xs.drop j).map (·.1)).flatMap fun x => avs P n e x) (cs.drop (j * P.cellsOf e)) := by
        intro c
        induction c with
        | zero =>
          intro j hj
          rw [List.drop_of_length_le (show cs.length ≤ j * P.cellsOf e by rw [hl, hok.1, ← hxl, ← hj, Nat.zero_add]; exact Nat.le_refl _), List.drop_of_length_le (show xs.length ≤ j by omega)]
          exact .nil
        | succ c ihc =>
          intro j hj
          have hjl : j < xs.length := by omega
          have h4 := hf j (by omega)
          rw [List.getElem?_eq_getElem hjl] at h4
          obtain ⟨h5, h6⟩ := ih e _ _ _ _ hok.2 (show DataW.trod enc P w b0 sp hd m' e _ = some (xs[j].1, xs[j].2) from h4)
          rw [List.drop_eq_getElem_cons hjl]
          simp only [List.map_cons, List.flatMap_cons]
          rw [drop_split cs (j * P.cellsOf e) (P.cellsOf e)]
          refine h5.append ?_
          have := ihc (j + 1) (by omega)
          rw [Nat.succ_mul] at this
          exact this
      have := key xs.length 0 (by omega)
      simpa using this
    · cases hok
def avOf (P : Program) (n : Nat) (t : TypeId) {H : Type} (d : DataW H) : AV := match P.underlying t with
  | some (.struct _) | some (.array _ _) => .agg (avs P n t d)
  | _ => (avs P n t d).headD .un
end Go.Eng
namespace Go.Eng
open Go.RowKit Go.ChangeShapes
def avArgs {H : Type} (P : Program) (n : Nat) : List TypeId → List (DataW H) → List AV
  | t :: ts, d :: ds => avOf P n t d :: avArgs P n ts ds
  | _, _ => []
theorem cell_not_agg {P : Program} {w : World} {r : Reach} {b : Nat} {t : TypeId} {cs : Array Value} {n : Nat} (hok : argOk P n t = true) (h : Value.okWide P w r b t (.agg cs)) : (∃ fs, P.underlying t = some (.struct fs)) ∨ ∃ n e, P.underlying t = some (.array n e) := by
  unfold Value.okWide at h
  split at h
  · rename_i fs ht; exact .inl ⟨fs, ht⟩
  · rename_i k e ht; exact .inr ⟨k, e, ht⟩
  · rename_i h1 h2
    exfalso
    cases n with
    | zero => simp [argOk] at hok
    | succ n =>
      unfold argOk at hok
      unfold Cell.okWide at h
      split at hok <;> rename_i ht <;> (try (simp only [ht, Cell.ok] at h)) <;> first | exact h1 _ ht | exact h2 _ _ ht | cases hok
theorem trod_arg {H : Type} {enc : TypeId × Value → H} {P : Program} {w : World} {b0 b : Nat} {sp : Nat → Bool} {hd : Bool} {φ : Phi} {n : Nat} {t : TypeId} {v : Value} {d : DataW H} {ps : List MemPlace}
    (hok : argOk P n t = true) (hv : Value.okWide P w .any b t v) (h : DataW.Trod enc P w b0 sp hd t v d ps) : Rep w w.heap.size φ (avOf P n t d) v := by
  obtain ⟨m, h⟩ := h
  obtain ⟨hr, hl⟩ := trod_rep (φ := φ) n t m _ d ps hok h
  by_cases hagg : ∃ cs, v = .agg cs
  · obtain ⟨cs, rfl⟩ := hagg
    have hag : Rep w w.heap.size φ (.agg (avs P n t d)) (.agg cs) := by
      have h1 : (Value.cells (.agg cs)).toList = cs.toList := rfl
      rw [h1] at hr
      exact .agg _ cs (by simpa using hr.1) (fun k x u hx hu => hr.2.1 k x u hx (by simpa using hu))
    unfold avOf
    rcases cell_not_agg hok hv with ⟨fs, ht⟩ | ⟨k, e, ht⟩ <;> (rw [ht]; exact hag)
  · have hc : v.cells = #[v] := by
      cases v <;> first | rfl | exact absurd ⟨_, rfl⟩ hagg
    rw [hc] at hr hl
    unfold avOf
    split
    · rename_i fs ht
      unfold Value.okWide at hv
      rw [ht] at hv
      obtain ⟨cs, rfl, _⟩ := hv
      exact absurd ⟨_, rfl⟩ hagg
    · rename_i k e ht
      unfold Value.okWide at hv
      rw [ht] at hv
      obtain ⟨cs, rfl, _⟩ := hv
      exact absurd ⟨_, rfl⟩ hagg
    · have h1 : (avs P n t d).length = 1 := by simpa using hr.1
      match hx : avs P n t d, h1 with
      | [x], _ =>
        rw [hx] at hr
        exact hr.2.1 0 x v rfl (by simp)
theorem trod_args {H : Type} {enc : TypeId × Value → H} {P : Program} {w : World} {b0 b : Nat} {sp : Nat → Bool} {hd : Bool} {φ : Phi} {n : Nat} : ∀ {ts : List TypeId} {vs : List Value} {ds : List (DataW H)} {ps : List MemPlace},
    (∀ t ∈ ts, argOk P n t = true) → (∀ (j : Nat) t v, ts[j]? = some t → vs[j]? = some v → Value.okWide P w .any b t v) → DataW.TrodAll enc P w b0 sp hd ts vs ds ps →
    (avArgs P n ts ds).length = vs.length ∧ ∀ (k : Nat) x v, (avArgs P n ts ds)[k]? = some x → vs[k]? = some v → Rep w w.heap.size φ x v
  | [], vs, ds, ps, _, _, h => by
    obtain ⟨rfl, rfl, rfl⟩ := trodAll_nil h
    exact ⟨rfl, fun k x v h => by simp [avArgs] at h⟩
  | t :: ts, vs, ds, ps, ht, hv, h => by
    obtain ⟨v, vs1, d, ds1, a, c, rfl, rfl, rfl, h1, h2⟩ := trodAll_cons h
    obtain ⟨q1, q2⟩ := trod_args (φ := φ) (fun t h => ht t (List.mem_cons_of_mem _ h)) (fun j t v h h' => hv (j + 1) t v (by simpa using h) (by simpa using h')) h2
    refine ⟨by simp [avArgs, q1], ?_⟩
    intro k x u hx hu
    cases k with
    | zero =>
      simp only [avArgs, List.getElem?_cons_zero, Option.some.injEq] at hx hu
      subst hx; subst hu
      exact trod_arg (ht t (List.mem_cons_self ..)) (hv 0 t v rfl rfl) h1
    | succ k => exact q2 k x u (by simpa [avArgs] using hx) (by simpa using hu)
theorem below_trodAll {H : Type} {enc : TypeId × Value → H} {P : Program} (hl : laidOutB P = true) {W W' : World} (hb : Below W.heap.size W W') : ∀ {ts : List TypeId} {vs : List Value} {ds : List (DataW H)} {ps : List MemPlace},
    (∀ t ∈ ts, P.readableRec t = true ∧ t < P.types.size) → DataW.TrodAll enc P W 0 (fun _ => true) true ts vs ds ps → (∀ p ∈ ps, p.block < W.heap.size) → DataW.TrodAll enc P W' 0 (fun b => decide (b < W.heap.size)) true ts vs ds ps
  | [], vs, ds, ps, _, h, _ => by
    obtain ⟨rfl, rfl, rfl⟩ := trodAll_nil h
    exact h
  | t :: ts, vs, ds, ps, ht, h, hp => by
    obtain ⟨v, vs1, d, ds1, a, c, rfl, rfl, rfl, h1, h2⟩ := trodAll_cons h
    obtain ⟨q1, q2⟩ := ht t (List.mem_cons_self ..)
    exact trodAll_cons_mk (Below.trod hl q1 q2 h1 hb fun p h => hp p (List.mem_append_left _ h)) (below_trodAll hl hb (fun t h => ht t (List.mem_cons_of_mem _ h)) h2 fun p h => hp p (List.mem_append_right _ h))
theorem RepW.start (cx : Cx) : RepW cx (fun _ _ => none) [] cx.w0 :=
  by
  refine ⟨Blw.refl _ _, ?_, ?_, ?_, ?_⟩
  · intro id o b n h; simp at h
  · intro id id' o o' b n n' h; simp at h
  · intro id ver r h; cases h
  · intro id ver b n h; cases h
theorem SimCall.apart {cx : Cx} {f : FuncId} {args : List AV} {Q : AV → Prop} (hp : ∀ x ∈ args, Plain x) (hq : ∀ r, Q r → Plain r) (hc : SimCall cx f args [] fun r _ => Q r) (h : AH) : SimCall cx f args h fun r h' => h' = h ∧ Q r := by
  refine ⟨hc.1, fun φ w vs h1 h2 h3 => (hc.2 (fun _ _ => none) w vs h1 (fun k x v hx hv => (hp x (List.mem_of_getElem? hx)).rep (h2 k x v hx hv)) ?_).mono ?_⟩
  · refine ⟨h3.below, ?_, ?_, ?_, ?_⟩
    · intro id o b n h; simp at h
    · intro id id' o o' b n n' h; simp at h
    · intro id ver r h; cases h
    · intro id ver b n h; cases h
  · rintro e w' ⟨v, r, h', φ', rfl, hv, hw', hst, hr⟩
    have hold : ∀ b, b < w.heap.size → w'.heap[b]? = w.heap[b]? := fun b hb => hst.keep b hb (fun id o n ho => by simp at ho)
    refine ⟨v, r, h, φ, rfl, (hq r hr).rep hv, ⟨hw'.below, ?_, h3.inj, h3.dom, ?_⟩, ⟨Ext.refl _, fun b hb _ => hold b hb, fun id o b n ho hn _ => ⟨id, o, n, ho, hn⟩, hst.size, Nat.le_refl _, fun _ _ h => h⟩, rfl, hr⟩
    · intro id o b n ho hb
      exact (h3.obj id o b n ho hb).mono (Ext.refl _) (hold b (h3.hi _ _ _ _ hb).2)
    · intro id ver b n hb
      have := h3.hi _ _ _ _ hb
      have := hst.size
      omega
theorem law_post {H : Type} {enc : TypeId × Value → H} {cx : Cx} {f : FuncId} {fn : Func} {s : ChangeSpec} {apart : Bool} {args : Array Value} {ds gs : List (DataW H)} {before : List MemPlace} {n b : Nat} {tb : TypeId} {h0 : AH}
    (hB : cx.B = cx.w0.heap.size) (hW : DataW.Whole enc cx.P fn.params.toList s.vars apart cx.w0 args.toList ds gs before) (hvars : s.vars = []) (hfn : s.fn H (ds ++ gs) = { results := [.lit (.bool true)], args := ds })
    (hl : laidOutB cx.P = true) (hread : ∀ t ∈ fn.params.toList, cx.P.readableRec t = true ∧ t < cx.P.types.size) (hok : ∀ t ∈ fn.params.toList, argOk cx.P n t = true) (hres : fn.resultTypes = #[tb]) (htb : cx.P.underlying tb = some .bool)
    (hval : ∀ (j : Nat) t v, fn.params[j]? = some t → args[j]? = some v → Value.okWide cx.P cx.w0 .any b t v)
    (hsim : SimCall cx f (avArgs cx.P n fn.params.toList ds) [] fun r _ => r = .v (.bool true)) :
    Calls cx.P f args cx.w0 fun e W' => ∃ v, e = .returned v ∧ s.post enc cx.P fn apart true false false cx.w0 args v W' := by
  have hW0 := hW
  obtain ⟨p, q, hA, hV, hpq, hz, hn⟩ := hW
  rw [hvars] at hV
  match gs, hV with
  | [], hV =>
  have hq : q = [] := hV
  subst hq
  obtain ⟨q1, q2⟩ := trod_args (φ := fun _ _ => none) (b := b) hok (fun j t v ht hv => hval j t v (by simpa using ht) (by simpa using hv)) hA
  refine (hsim.2 (fun _ _ => none) cx.w0 args (by simpa using q1) (fun k x v hx hv => by rw [hB]; exact q2 k x v hx (by simpa using hv)) (RepW.start cx)).mono ?_
  rintro e W' ⟨v, r, h', φ', rfl, h1, h2, h3, rfl⟩
  have hvv := rep_v h1
  subst hvv
  have hb : Below cx.w0.heap.size cx.w0 W' := by
    have := h2.below.below
    rw [hB] at this
    exact this
  refine ⟨_, rfl, ds, [], before, [], p, [], hW0, ?_, ?_, ?_, hb.frame _, fun h => by cases h⟩
  · rw [hfn, hres]
    exact trodAll_cons_mk (shut_bool htb _) trodAll_mk0
  · rw [hfn]
    exact below_trodAll hl hb hread hA fun x hx => hW0.lt x (by rw [hpq]; simpa using hx)
  · rw [hvars, hfn]
    exact rfl
theorem tab_rep {w : World} {φ : Phi} {g : Nat} {k : IntKind} {zs : List Int} (hg : g < w.heap.size) (h : ∀ i, i < zs.length → w.cell? ⟨g, i, none⟩ = some (.int k (zs.getD i 0))) : Rep w w.heap.size φ (.rp (zs.map fun z => .v (.int k z))) (.pointer (some ⟨g, 0, none⟩)) := by
  refine .rp _ g 0 (fun i => .int k (zs.getD i 0)) hg (fun i hi => by rw [Nat.zero_add]; exact h i (by simpa using hi)) (fun i hi => rfl) ?_
  intro i x hx
  rw [List.getElem?_map, Option.map_eq_some_iff] at hx
  obtain ⟨z, h1, rfl⟩ := hx
  rw [show zs.getD i 0 = z by rw [List.getD_eq_getElem?_getD, h1]; rfl]
  exact .v _
end Go.Eng
namespace Go.Eng
open Go.RowKit
def fitsD {H : Type} (P : Program) : Nat → TypeId → DataW H → Prop
  | 0, _, _ => False
  | n + 1, t, d => match P.underlying t with
    | some .bool => ∃ b, d = .lit (.bool b)
    | some (.int k) => ∃ x, d = .lit (.int k x) ∧ (Lit.int k x).wf = true
    | some .string => ∃ bs : List UInt8, d = .lit (.string bs) ∧ bs.length ≤ maxLen
    | some (.slice e) => d = .nil ∨ ∃ es sp, d = .slice es sp ∧ es.length ≤ maxLen ∧ ∀ x ∈ es, fitsD P n e x
    | some (.struct fs) => ∃ ds, d = .agg ds ∧ ds.length = fs.size ∧ ∀ (i : Nat) f x, fs[i]? = some f → ds[i]? = some x → fitsD P n f.type x
    | some (.array m e) => ∃ ds, d = .agg ds ∧ ds.length = m ∧ ∀ x ∈ ds, fitsD P n e x
    | _ => False
theorem fieldsOk_mem {P : Program} {ok : TypeId → Bool} : ∀ {l : List Field} {off m : Nat}, fieldsOk P ok off l m = true → ∀ f ∈ l, ok f.type = true
  | [], _, _, _, f, hf => by cases hf
  | g :: r, off, m, h, f, hf => by
    simp only [fieldsOk, Bool.and_eq_true] at h
    rcases List.mem_cons.1 hf with rfl | hf
    · exact h.1.2
    · exact fieldsOk_mem h.2 f hf
theorem trod_fits {H : Type} {enc : TypeId × Value → H} {P : Program} {w : World} {b0 : Nat} {sp : Nat → Bool} {hd : Bool} : ∀ (n : Nat) (t : TypeId) (m : Nat) (cs : List Value) (d : DataW H) (ps : List MemPlace),
    argOk P n t = true → DataW.trod enc P w b0 sp hd m t cs = some (d, ps) → fitsD P n t d
  | 0, t, m, cs, d, ps, hok, h => by simp [argOk] at hok
  | n + 1, t, m, cs, d, ps, hok, h => by
    have ih := fun t m cs d ps => trod_fits (enc := enc) (P := P) (w := w) (b0 := b0) (sp := sp) (hd := hd) n t m cs d ps
    unfold argOk at hok
    unfold fitsD
    split at hok
    · rename_i ht
      obtain ⟨b, rfl, he⟩ := DataW.trod_bool ht h
      cases he
      rw [ht]
      exact ⟨b, rfl⟩
    · rename_i k ht
      obtain ⟨x, rfl, he, hw⟩ := DataW.trod_int ht h
      cases he
      rw [ht]
      exact ⟨x, rfl, hw⟩
    · rename_i ht
      obtain ⟨s, rfl, he, hs⟩ := DataW.trod_string ht h
      cases he
      rw [ht]
      exact ⟨_, rfl, by rw [Array.length_toList]; exact hs⟩
    · rename_i e ht
      simp only [Bool.and_eq_true, decide_eq_true_eq] at hok
      rw [ht]
      rcases DataW.trod_slice ht h with ⟨rfl, he⟩ | ⟨a, len, cap, elems, rest, m', rfl, rfl, he, _, hlc, hcm, hlen, hel, _, _⟩
      · cases he
        exact .inl rfl
      · cases he
        refine .inr ⟨_, _, rfl, by rw [List.length_map]; omega, ?_⟩
        intro x hx
        obtain ⟨y, hy, rfl⟩ := List.mem_map.1 hx
        obtain ⟨i, hi⟩ := List.mem_iff_getElem?.1 hy
        have hil : i < len := by have := (List.getElem?_eq_some_iff.1 hi).1; omega
        have h4 := hel i hil
        rw [hi] at h4
        simp only [Option.bind_eq_some_iff] at h4
        obtain ⟨es, h5, h6⟩ := h4
        exact ih e _ _ _ _ hok.2 h6
    · rename_i fs ht
      obtain ⟨xs, m', rfl, he, hl, hxl, hf⟩ := DataW.trod_struct ht h
      cases he
      rw [ht]
      refine ⟨_, rfl, by rw [List.length_map, hxl], ?_⟩
      intro i f x hfi hx
      rw [List.getElem?_map, Option.map_eq_some_iff] at hx
      obtain ⟨y, hy, rfl⟩ := hx
      have h4 := hf i f hfi
      rw [hy] at h4
      exact ih f.type _ _ _ _ (fieldsOk_mem hok f (by simpa using Array.mem_of_getElem? hfi)) h4
    · rename_i k e ht
      simp only [Bool.and_eq_true, decide_eq_true_eq] at hok
      obtain ⟨xs, m', rfl, he, hl, hxl, hf⟩ := DataW.trod_array ht h
      cases he
      rw [ht]
      refine ⟨_, rfl, by rw [List.length_map, hxl], ?_⟩
      intro x hx
      obtain ⟨y, hy, rfl⟩ := List.mem_map.1 hx
      obtain ⟨i, hi⟩ := List.mem_iff_getElem?.1 hy
      have h4 := hf i (by have := (List.getElem?_eq_some_iff.1 hi).1; omega)
      rw [hi] at h4
      exact ih e _ _ _ _ hok.2 h4
    · cases hok
def dInt {H : Type} : DataW H → Int
  | .lit (.int _ n) => n
  | _ => 0
def dBool {H : Type} : DataW H → Bool
  | .lit (.bool b) => b
  | _ => false
def dStr {H : Type} : DataW H → ByteArray
  | .lit (.string bs) => ⟨bs.toArray⟩
  | _ => .empty
def dList {H : Type} : DataW H → List (DataW H)
  | .slice es _ => es
  | _ => []
theorem fits_int {H : Type} {P : Program} {n : Nat} {t : TypeId} {k : IntKind} {d : DataW H} (ht : P.underlying t = some (.int k)) (h : fitsD P (n + 1) t d) : d = .lit (.int k (dInt d)) ∧ (Lit.int k (dInt d)).wf = true ∧ avs P (n + 1) t d = [.v (.int k (dInt d))] := by
  unfold fitsD at h
  rw [ht] at h
  obtain ⟨x, rfl, hw⟩ := h
  exact ⟨rfl, hw, by simp only [avs, ht]; rfl⟩
theorem fits_str {H : Type} {P : Program} {n : Nat} {t : TypeId} {d : DataW H} (ht : P.underlying t = some .string) (h : fitsD P (n + 1) t d) : ∃ bs : List UInt8, d = .lit (.string bs) ∧ bs.length ≤ maxLen ∧ dStr d = ⟨bs.toArray⟩ ∧ avs P (n + 1) t d = [.v (.string (dStr d))] := by
  unfold fitsD at h
  rw [ht] at h
  obtain ⟨x, rfl, hw⟩ := h
  exact ⟨x, rfl, hw, rfl, by simp only [avs, ht]; rfl⟩
theorem fits_slice {H : Type} {P : Program} {n : Nat} {t e : TypeId} {d : DataW H} (ht : P.underlying t = some (.slice e)) (h : fitsD P (n + 1) t d) :
    (∀ x ∈ dList d, fitsD P n e x) ∧ (d = .nil ∨ ∃ sp, d = .slice (dList d) sp) ∧ ∃ fn, avs P (n + 1) t d = [.ro (P.cellsOf e) (dList d).length fn] ∧ ∀ (i : Nat) x, (dList d)[i]? = some x → fn i = avs P n e x := by
  unfold fitsD at h
  rw [ht] at h
  rcases h with rfl | ⟨es, sp, rfl, _, h⟩
  · exact ⟨(fun x hx => by cases hx), .inl rfl, fun _ => [], (by simp only [avs, ht]; rfl), (fun i x hx => by simp [dList] at hx)⟩
  · refine ⟨h, .inr ⟨sp, rfl⟩, fun i => avs P n e (es.getD i .nil), (by simp only [avs, ht]; rfl), ?_⟩
    intro i x hx
    simp only [dList] at hx
    show avs P n e (es.getD i .nil) = _
    rw [List.getD_eq_getElem?_getD, hx]
    rfl
theorem fits_struct {H : Type} {P : Program} {n : Nat} {t : TypeId} {fs : Array Field} {d : DataW H} (ht : P.underlying t = some (.struct fs)) (h : fitsD P (n + 1) t d) :
    ∃ ds, d = .agg ds ∧ ds.length = fs.size ∧ (∀ (i : Nat) f x, fs[i]? = some f → ds[i]? = some x → fitsD P n f.type x) ∧ avs P (n + 1) t d = (fs.toList.zip ds).flatMap fun x => avs P n x.1.type x.2 := by
  unfold fitsD at h
  rw [ht] at h
  obtain ⟨ds, rfl, h1, h2⟩ := h
  exact ⟨ds, rfl, h1, h2, by simp only [avs, ht]⟩
end Go.Eng
namespace Go.Tidy
open Go Go.Eng Go.Proofs
set_option maxRecDepth 100000
def x7 : XCode := .seq (.reg [⟨(some 1), none, (.op (.box (.t 0)))⟩,
   ⟨(some 2), none, (.op (.mov (.k (.bool false))))⟩])
 (.seq (.seq (.reg [⟨(some 10), none, (.call (.f 20) [])⟩,
     ⟨(some 11), none, (.op (.un .not (.t 10)))⟩])
   (.cond (.t 11) (.seq (.reg [⟨(some 2), none, (.op (.mov (.k (.bool false))))⟩])
     (.ret))
    (.skip)))
  (.seq (.reg [⟨(some 13), none, (.op (.lda 4 (.t 1)))⟩,
     ⟨(some 14), none, (.call (.f 28) [(.t 13)])⟩,
     ⟨(some 15), none, (.call (.f 23) [(.t 14)])⟩,
     ⟨(some 12), none, (.op (.mov (.t 15)))⟩,
     ⟨(some 16), none, (.op (.ext 0 (.t 12)))⟩,
     ⟨(some 17), none, (.op (.ext 1 (.t 12)))⟩,
     ⟨(some 3), none, (.op (.alloc [(.slice none 0 0), (.slice none 0 0), (.slice none 0 0), (.int .i64 0)]))⟩,
     ⟨none, none, (.op (.st 4 (.t 3) (.t 16)))⟩,
     ⟨(some 4), none, (.op (.mov (.t 17)))⟩])
   (.seq (.seq (.reg [⟨(some 18), none, (.op (.mov (.t 4)))⟩,
       ⟨(some 19), none, (.call (.f 16) [(.t 18)])⟩,
       ⟨(some 20), none, (.op (.bin .neq (.t 19) (.k (.int .i64 0))))⟩])
     (.cond (.t 20) (.seq (.reg [⟨(some 21), none, (.op (.fad 0 (.t 3)))⟩,
         ⟨(some 22), none, (.op (.ld1 (.t 21)))⟩,
         ⟨(some 23), none, (.op (.lenl (.t 22)))⟩,
         ⟨(some 24), none, (.op (.bin .eql (.t 23) (.k (.int .i64 0))))⟩,
         ⟨(some 2), none, (.op (.mov (.t 24)))⟩])
       (.ret))
      (.skip)))
    (.seq (.reg [⟨(some 26), none, (.op (.lda 4 (.t 3)))⟩,
       ⟨(some 27), none, (.call (.f 28) [(.t 26)])⟩,
       ⟨(some 28), none, (.call (.f 34) [(.t 27)])⟩,
       ⟨(some 25), none, (.op (.mov (.t 28)))⟩,
       ⟨(some 29), none, (.op (.ext 0 (.t 25)))⟩,
       ⟨(some 30), none, (.op (.ext 1 (.t 25)))⟩,
       ⟨(some 31), none, (.op (.ext 2 (.t 25)))⟩,
       ⟨(some 5), none, (.op (.mov (.t 29)))⟩,
       ⟨(some 6), none, (.op (.mov (.t 30)))⟩,
       ⟨(some 7), none, (.op (.mov (.t 31)))⟩])
     (.seq (.reg [⟨(some 33), none, (.op (.lda 4 (.t 3)))⟩,
        ⟨(some 34), none, (.call (.f 28) [(.t 33)])⟩,
        ⟨(some 35), none, (.call (.f 23) [(.t 34)])⟩,
        ⟨(some 32), none, (.op (.mov (.t 35)))⟩,
        ⟨(some 36), none, (.op (.ext 0 (.t 32)))⟩,
        ⟨(some 37), none, (.op (.ext 1 (.t 32)))⟩,
        ⟨(some 8), none, (.op (.alloc [(.slice none 0 0), (.slice none 0 0), (.slice none 0 0), (.int .i64 0)]))⟩,
        ⟨none, none, (.op (.st 4 (.t 8) (.t 36)))⟩,
        ⟨(some 9), none, (.op (.mov (.t 37)))⟩])
      (.seq (.reg [⟨(some 38), none, (.op (.mov (.t 7)))⟩,
         ⟨(some 39), none, (.call (.f 16) [(.t 38)])⟩,
         ⟨(some 40), none, (.op (.bin .eql (.t 39) (.k (.int .i64 0))))⟩,
         ⟨(some 41), none, (.op (.mov (.t 40)))⟩,
         ⟨(some 42), (some (41, true)), (.op (.mov (.t 9)))⟩,
         ⟨(some 43), (some (41, true)), (.call (.f 16) [(.t 42)])⟩,
         ⟨(some 44), (some (41, true)), (.op (.bin .eql (.t 43) (.k (.int .i64 0))))⟩,
         ⟨(some 45), none, (.op (.pick (.t 41) (.t 44) (.k (.bool false))))⟩,
         ⟨(some 46), none, (.op (.mov (.t 45)))⟩,
         ⟨(some 47), (some (46, true)), (.op (.lda 4 (.t 3)))⟩,
         ⟨(some 48), (some (46, true)), (.op (.lda 4 (.t 8)))⟩,
         ⟨(some 49), (some (46, true)), (.call (.f 26) [(.t 47), (.t 48)])⟩,
         ⟨(some 50), none, (.op (.pick (.t 46) (.t 49) (.k (.bool false))))⟩,
         ⟨(some 2), none, (.op (.mov (.t 50)))⟩])
       (.ret)))))))
def r7 : List XRes := [.t 2]
theorem res7 : resolveF Tryz.prog 7 = some (x7, r7, 51) := by kernel_rfl
def x16 : XCode := .seq (.reg [⟨(some 2), none, (.op (.mov (.k (.int .i64 0))))⟩])
 (.seq (.reg [⟨(some 3), none, (.op (.mov (.t 0)))⟩,
    ⟨(some 2), none, (.op (.mov (.t 3)))⟩])
  (.ret))
def r16 : List XRes := [.t 2]
theorem res16 : resolveF Tryz.prog 16 = some (x16, r16, 4) := by kernel_rfl
def x51 : XCode := .seq (.reg [⟨(some 4), none, (.op (.mov (.k (.bool false))))⟩])
 (.seq (.seq (.reg [⟨(some 6), none, (.op (.mov (.t 0)))⟩,
     ⟨(some 7), none, (.op (.lenl (.t 6)))⟩,
     ⟨(some 8), none, (.op (.mov (.t 1)))⟩,
     ⟨(some 9), none, (.op (.lenl (.t 8)))⟩,
     ⟨(some 10), none, (.op (.bin .neq (.t 7) (.t 9)))⟩])
   (.cond (.t 10) (.seq (.reg [⟨(some 4), none, (.op (.mov (.k (.bool false))))⟩])
     (.ret))
    (.skip)))
  (.seq (.seq (.reg [⟨(some 5), none, (.op (.mov (.k (.int .i64 0))))⟩])
    (.block 0 (.loop (.seq (.seq (.reg [⟨(some 11), none, (.op (.mov (.t 5)))⟩,
          ⟨(some 12), none, (.op (.mov (.t 0)))⟩,
          ⟨(some 13), none, (.op (.lenl (.t 12)))⟩,
          ⟨(some 14), none, (.op (.bin .lss (.t 11) (.t 13)))⟩])
        (.cond (.t 14) (.skip)
         (.exit 0)))
       (.seq (.block 1 (.seq (.drw none [⟨(some 17), none, (.op (.mov (.t 0)))⟩,
            ⟨(some 18), none, (.op (.mov (.t 5)))⟩,
            ⟨(some 19), none, (.op (.iad 5 (.t 17) (.t 18)))⟩,
            ⟨(some 20), none, (.op (.lda 5 (.t 19)))⟩,
            ⟨(some 21), none, (.op (.mov (.t 1)))⟩,
            ⟨(some 22), none, (.op (.mov (.t 5)))⟩,
            ⟨(some 23), none, (.op (.iad 5 (.t 21) (.t 22)))⟩,
            ⟨(some 24), none, (.op (.lda 5 (.t 23)))⟩,
            ⟨(some 25), none, (.op (.seq false ⟨true, [2, 1, 1, 1, 1]⟩ (.t 20) (.t 24)))⟩])
          (.cond (.t 25) (.seq (.reg [⟨(some 4), none, (.op (.mov (.k (.bool false))))⟩])
            (.ret))
           (.skip))))
        (.reg [⟨(some 15), none, (.op (.mov (.t 5)))⟩,
          ⟨(some 16), none, (.op (.bin .add (.t 15) (.k (.int .i64 1))))⟩,
          ⟨(some 5), none, (.op (.mov (.t 16)))⟩]))))))
   (.seq (.reg [⟨(some 4), none, (.op (.mov (.k (.bool true))))⟩])
    (.ret))))
def r51 : List XRes := [.t 4]
theorem res51 : resolveF Tryz.prog 51 = some (x51, r51, 26) := by kernel_rfl
def x29 : XCode := .seq (.reg [⟨(some 2), none, (.op (.box (.t 0)))⟩,
   ⟨(some 4), none, (.op (.mov (.k (.slice none 0 0))))⟩])
 (.seq (.drw none [⟨(some 5), none, (.op (.fad 0 (.t 2)))⟩,
    ⟨(some 6), none, (.op (.ld1 (.t 5)))⟩,
    ⟨(some 7), none, (.op (.fad 1 (.t 2)))⟩,
    ⟨(some 8), none, (.op (.ld1 (.t 7)))⟩,
    ⟨(some 9), none, (.op (.mov (.t 1)))⟩,
    ⟨(some 10), none, (.op (.iad 4 (.t 8) (.t 9)))⟩,
    ⟨(some 11), none, (.op (.fad 2 (.t 10)))⟩,
    ⟨(some 12), none, (.op (.ld1 (.t 11)))⟩,
    ⟨(some 13), none, (.op (.fad 1 (.t 2)))⟩,
    ⟨(some 14), none, (.op (.ld1 (.t 13)))⟩,
    ⟨(some 15), none, (.op (.mov (.t 1)))⟩,
    ⟨(some 16), none, (.op (.iad 4 (.t 14) (.t 15)))⟩,
    ⟨(some 17), none, (.op (.fad 2 (.t 16)))⟩,
    ⟨(some 18), none, (.op (.ld1 (.t 17)))⟩,
    ⟨(some 19), none, (.op (.fad 1 (.t 2)))⟩,
    ⟨(some 20), none, (.op (.ld1 (.t 19)))⟩,
    ⟨(some 21), none, (.op (.mov (.t 1)))⟩,
    ⟨(some 22), none, (.op (.iad 4 (.t 20) (.t 21)))⟩,
    ⟨(some 23), none, (.op (.fad 3 (.t 22)))⟩,
    ⟨(some 24), none, (.op (.ld1 (.t 23)))⟩,
    ⟨(some 25), none, (.op (.bin .add (.t 18) (.t 24)))⟩,
    ⟨(some 26), none, (.op (.sls 5 (.t 6) (some (.t 12)) (some (.t 25))))⟩,
    ⟨(some 4), none, (.op (.mov (.t 26)))⟩])
  (.ret))
def r29 : List XRes := [.t 4]
theorem res29 : resolveF Tryz.prog 29 = some (x29, r29, 27) := by kernel_rfl
def x72 : XCode := .seq (.reg [⟨(some 2), none, (.op (.mov (.k (.int .i64 0))))⟩])
 (.seq (.reg [⟨(some 4), none, (.op (.mov (.t 0)))⟩,
    ⟨(some 5), none, (.call (.f 30) [(.t 4)])⟩,
    ⟨(some 3), none, (.op (.mov (.t 5)))⟩])
  (.seq (.reg [⟨(some 6), none, (.op (.mov (.t 3)))⟩,
     ⟨(some 7), none, (.op (.mov (.t 0)))⟩,
     ⟨(some 8), none, (.op (.lenl (.t 7)))⟩,
     ⟨(some 9), none, (.op (.iad 1 (.t 6) (.t 8)))⟩,
     ⟨(some 10), none, (.op (.ld1 (.t 9)))⟩,
     ⟨(some 2), none, (.op (.mov (.t 10)))⟩])
   (.ret)))
def r72 : List XRes := [.t 2]
theorem res72 : resolveF Tryz.prog 72 = some (x72, r72, 11) := by kernel_rfl
def x30 : XCode := .seq (.reg [⟨(some 2), none, (.op (.mov (.k (.slice none 0 0))))⟩])
 (.seq (.reg [⟨(some 3), none, (.op (.mov (.k (.slice none 0 0))))⟩])
  (.seq (.reg [⟨(some 4), none, (.op (.mov (.k (.int .i64 0))))⟩])
   (.seq (.seq (.reg [⟨(some 5), none, (.op (.mov (.k (.int .i64 0))))⟩])
     (.block 0 (.loop (.seq (.seq (.reg [⟨(some 6), none, (.op (.mov (.t 5)))⟩,
           ⟨(some 7), none, (.op (.mov (.t 0)))⟩,
           ⟨(some 8), none, (.op (.lenl (.t 7)))⟩,
           ⟨(some 9), none, (.op (.bin .lss (.t 6) (.t 8)))⟩])
         (.cond (.t 9) (.skip)
          (.exit 0)))
        (.seq (.block 1 (.seq (.reg [⟨(some 12), none, (.op (.mov (.t 3)))⟩,
             ⟨(some 13), none, (.op (.mov (.t 4)))⟩,
             ⟨(some 14), none, (.op (.bsl 1 1 [(.int .i64 0)] [(0, 1, (.t 13))]))⟩,
             ⟨(some 15), none, (.op (.app 1 8 (.t 12) (.t 14)))⟩,
             ⟨(some 3), none, (.op (.mov (.t 15)))⟩])
           (.seq (.reg [⟨(some 16), none, (.op (.mov (.t 4)))⟩,
              ⟨(some 17), none, (.op (.bin .add (.t 16) (.k (.int .i64 1))))⟩,
              ⟨(some 4), none, (.op (.mov (.t 17)))⟩])
            (.seq (.reg [⟨(some 18), none, (.op (.mov (.t 0)))⟩,
               ⟨(some 19), none, (.op (.mov (.t 5)))⟩,
               ⟨(some 20), none, (.op (.iad 5 (.t 18) (.t 19)))⟩,
               ⟨(some 21), none, (.op (.fad 0 (.t 20)))⟩,
               ⟨(some 22), none, (.op (.ld1 (.t 21)))⟩,
               ⟨(some 23), none, (.op (.bin .eql (.t 22) (.k (.int .i64 24))))⟩])
             (.cond (.t 23) (.reg [⟨(some 24), none, (.op (.mov (.t 4)))⟩,
                ⟨(some 25), none, (.op (.bin .add (.t 24) (.k (.int .i64 1))))⟩,
                ⟨(some 4), none, (.op (.mov (.t 25)))⟩])
              (.skip))))))
         (.reg [⟨(some 10), none, (.op (.mov (.t 5)))⟩,
           ⟨(some 11), none, (.op (.bin .add (.t 10) (.k (.int .i64 1))))⟩,
           ⟨(some 5), none, (.op (.mov (.t 11)))⟩]))))))
    (.seq (.reg [⟨(some 26), none, (.op (.mov (.t 3)))⟩,
       ⟨(some 27), none, (.op (.mov (.t 4)))⟩,
       ⟨(some 28), none, (.op (.bsl 1 1 [(.int .i64 0)] [(0, 1, (.t 27))]))⟩,
       ⟨(some 29), none, (.op (.app 1 8 (.t 26) (.t 28)))⟩,
       ⟨(some 2), none, (.op (.mov (.t 29)))⟩])
     (.ret)))))
def r30 : List XRes := [.t 2]
theorem res30 : resolveF Tryz.prog 30 = some (x30, r30, 30) := by kernel_rfl
def x26 : XCode := .seq (.reg [⟨(some 2), none, (.op (.box (.t 0)))⟩,
   ⟨(some 3), none, (.op (.box (.t 1)))⟩,
   ⟨(some 4), none, (.op (.mov (.k (.bool false))))⟩])
 (.seq (.seq (.reg [⟨(some 9), none, (.op (.fad 1 (.t 3)))⟩,
     ⟨(some 10), none, (.op (.ld1 (.t 9)))⟩,
     ⟨(some 11), none, (.op (.lenl (.t 10)))⟩,
     ⟨(some 12), none, (.op (.fad 1 (.t 2)))⟩,
     ⟨(some 13), none, (.op (.ld1 (.t 12)))⟩,
     ⟨(some 14), none, (.op (.lenl (.t 13)))⟩,
     ⟨(some 15), none, (.op (.bin .neq (.t 11) (.t 14)))⟩,
     ⟨(some 16), none, (.op (.mov (.t 15)))⟩,
     ⟨(some 17), (some (16, false)), (.op (.fad 2 (.t 3)))⟩,
     ⟨(some 18), (some (16, false)), (.op (.ld1 (.t 17)))⟩,
     ⟨(some 19), (some (16, false)), (.op (.fad 2 (.t 2)))⟩,
     ⟨(some 20), (some (16, false)), (.op (.ld1 (.t 19)))⟩,
     ⟨(some 21), (some (16, false)), (.call (.f 51) [(.t 18), (.t 20)])⟩,
     ⟨(some 22), (some (16, false)), (.op (.un .not (.t 21)))⟩,
     ⟨(some 23), none, (.op (.pick (.t 16) (.k (.bool true)) (.t 22)))⟩,
     ⟨(some 24), none, (.op (.mov (.t 23)))⟩,
     ⟨(some 25), (some (24, false)), (.op (.fad 3 (.t 3)))⟩,
     ⟨(some 26), (some (24, false)), (.op (.ld1 (.t 25)))⟩,
     ⟨(some 27), (some (24, false)), (.op (.fad 3 (.t 2)))⟩,
     ⟨(some 28), (some (24, false)), (.op (.ld1 (.t 27)))⟩,
     ⟨(some 29), (some (24, false)), (.op (.bin .neq (.t 26) (.t 28)))⟩,
     ⟨(some 30), none, (.op (.pick (.t 24) (.k (.bool true)) (.t 29)))⟩])
   (.cond (.t 30) (.seq (.reg [⟨(some 4), none, (.op (.mov (.k (.bool false))))⟩])
     (.ret))
    (.skip)))
  (.seq (.reg [⟨(some 5), none, (.op (.mov (.k (.int .i64 0))))⟩])
   (.seq (.seq (.reg [⟨(some 6), none, (.op (.mov (.k (.int .i64 0))))⟩])
     (.block 0 (.loop (.seq (.seq (.reg [⟨(some 31), none, (.op (.mov (.t 6)))⟩,
           ⟨(some 32), none, (.op (.fad 1 (.t 2)))⟩,
           ⟨(some 33), none, (.op (.ld1 (.t 32)))⟩,
           ⟨(some 34), none, (.op (.lenl (.t 33)))⟩,
           ⟨(some 35), none, (.op (.bin .lss (.t 31) (.t 34)))⟩])
         (.cond (.t 35) (.skip)
          (.exit 0)))
        (.seq (.block 1 (.seq (.drw (some [7, 8]) [⟨(some 38), none, (.op (.fad 1 (.t 2)))⟩,
             ⟨(some 39), none, (.op (.ld1 (.t 38)))⟩,
             ⟨(some 40), none, (.op (.mov (.t 6)))⟩,
             ⟨(some 41), none, (.op (.iad 4 (.t 39) (.t 40)))⟩,
             ⟨(some 42), none, (.op (.lda 4 (.t 41)))⟩,
             ⟨(some 43), none, (.op (.fad 1 (.t 3)))⟩,
             ⟨(some 44), none, (.op (.ld1 (.t 43)))⟩,
             ⟨(some 45), none, (.op (.mov (.t 6)))⟩,
             ⟨(some 46), none, (.op (.iad 4 (.t 44) (.t 45)))⟩,
             ⟨(some 47), none, (.op (.lda 4 (.t 46)))⟩,
             ⟨(some 7), none, (.op (.alloc [(.string ⟨#[]⟩), (.int .i64 0), (.int .i64 0), (.int .i64 0)]))⟩,
             ⟨(some 8), none, (.op (.alloc [(.string ⟨#[]⟩), (.int .i64 0), (.int .i64 0), (.int .i64 0)]))⟩,
             ⟨none, none, (.op (.st 4 (.t 7) (.t 42)))⟩,
             ⟨none, none, (.op (.st 4 (.t 8) (.t 47)))⟩])
           (.seq (.seq (.reg [⟨(some 48), none, (.op (.fad 0 (.t 7)))⟩,
               ⟨(some 49), none, (.op (.ld1 (.t 48)))⟩,
               ⟨(some 50), none, (.op (.fad 0 (.t 8)))⟩,
               ⟨(some 51), none, (.op (.ld1 (.t 50)))⟩,
               ⟨(some 52), none, (.op (.bin .neq (.t 49) (.t 51)))⟩,
               ⟨(some 53), none, (.op (.mov (.t 52)))⟩,
               ⟨(some 54), (some (53, false)), (.op (.fad 1 (.t 7)))⟩,
               ⟨(some 55), (some (53, false)), (.op (.ld1 (.t 54)))⟩,
               ⟨(some 56), (some (53, false)), (.op (.fad 1 (.t 8)))⟩,
               ⟨(some 57), (some (53, false)), (.op (.ld1 (.t 56)))⟩,
               ⟨(some 58), (some (53, false)), (.op (.bin .neq (.t 55) (.t 57)))⟩,
               ⟨(some 59), none, (.op (.pick (.t 53) (.k (.bool true)) (.t 58)))⟩,
               ⟨(some 60), none, (.op (.mov (.t 59)))⟩,
               ⟨(some 61), (some (60, false)), (.op (.fad 2 (.t 8)))⟩,
               ⟨(some 62), (some (60, false)), (.op (.ld1 (.t 61)))⟩,
               ⟨(some 63), (some (60, false)), (.op (.mov (.t 5)))⟩,
               ⟨(some 64), (some (60, false)), (.op (.bin .neq (.t 62) (.t 63)))⟩,
               ⟨(some 65), none, (.op (.pick (.t 60) (.k (.bool true)) (.t 64)))⟩,
               ⟨(some 66), none, (.op (.mov (.t 65)))⟩,
               ⟨(some 67), (some (66, false)), (.op (.fad 3 (.t 8)))⟩,
               ⟨(some 68), (some (66, false)), (.op (.ld1 (.t 67)))⟩,
               ⟨(some 69), (some (66, false)), (.op (.bin .lss (.t 68) (.k (.int .i64 1))))⟩,
               ⟨(some 70), none, (.op (.pick (.t 66) (.k (.bool true)) (.t 69)))⟩,
               ⟨(some 71), none, (.op (.mov (.t 70)))⟩,
               ⟨(some 72), (some (71, false)), (.op (.fad 3 (.t 8)))⟩,
               ⟨(some 73), (some (71, false)), (.op (.ld1 (.t 72)))⟩,
               ⟨(some 74), (some (71, false)), (.op (.fad 0 (.t 3)))⟩,
               ⟨(some 75), (some (71, false)), (.op (.ld1 (.t 74)))⟩,
               ⟨(some 76), (some (71, false)), (.op (.lenl (.t 75)))⟩,
               ⟨(some 77), (some (71, false)), (.op (.mov (.t 5)))⟩,
               ⟨(some 78), (some (71, false)), (.op (.bin .sub (.t 76) (.t 77)))⟩,
               ⟨(some 79), (some (71, false)), (.op (.bin .gtr (.t 73) (.t 78)))⟩,
               ⟨(some 80), none, (.op (.pick (.t 71) (.k (.bool true)) (.t 79)))⟩])
             (.cond (.t 80) (.seq (.reg [⟨(some 4), none, (.op (.mov (.k (.bool false))))⟩])
               (.ret))
              (.skip)))
            (.seq (.reg [⟨(some 81), none, (.op (.mov (.t 5)))⟩,
               ⟨(some 82), none, (.op (.fad 3 (.t 8)))⟩,
               ⟨(some 83), none, (.op (.ld1 (.t 82)))⟩,
               ⟨(some 84), none, (.op (.bin .add (.t 81) (.t 83)))⟩,
               ⟨(some 5), none, (.op (.mov (.t 84)))⟩])
             (.seq (.drw none [⟨(some 85), none, (.op (.lda 4 (.t 3)))⟩,
                ⟨(some 86), none, (.op (.mov (.t 6)))⟩,
                ⟨(some 87), none, (.call (.f 29) [(.t 85), (.t 86)])⟩,
                ⟨(some 88), none, (.call (.f 72) [(.t 87)])⟩,
                ⟨(some 89), none, (.op (.lda 4 (.t 2)))⟩,
                ⟨(some 90), none, (.op (.mov (.t 6)))⟩,
                ⟨(some 91), none, (.call (.f 29) [(.t 89), (.t 90)])⟩,
                ⟨(some 92), none, (.call (.f 72) [(.t 91)])⟩,
                ⟨(some 93), none, (.op (.bin .gtr (.t 88) (.t 92)))⟩])
              (.cond (.t 93) (.seq (.reg [⟨(some 4), none, (.op (.mov (.k (.bool false))))⟩])
                (.ret))
               (.skip)))))))
         (.reg [⟨(some 36), none, (.op (.mov (.t 6)))⟩,
           ⟨(some 37), none, (.op (.bin .add (.t 36) (.k (.int .i64 1))))⟩,
           ⟨(some 6), none, (.op (.mov (.t 37)))⟩]))))))
    (.seq (.reg [⟨(some 94), none, (.op (.mov (.t 5)))⟩,
       ⟨(some 95), none, (.op (.fad 0 (.t 3)))⟩,
       ⟨(some 96), none, (.op (.ld1 (.t 95)))⟩,
       ⟨(some 97), none, (.op (.lenl (.t 96)))⟩,
       ⟨(some 98), none, (.op (.bin .eql (.t 94) (.t 97)))⟩,
       ⟨(some 4), none, (.op (.mov (.t 98)))⟩])
     (.ret)))))
def r26 : List XRes := [.t 4]
theorem res26 : resolveF Tryz.prog 26 = some (x26, r26, 99) := by kernel_rfl
def x20 : XCode := .seq (.reg [⟨(some 0), none, (.op (.mov (.k (.bool false))))⟩])
 (.seq (.reg [⟨(some 5), none, (.op (.build [(.int .i64 0), (.int .i64 0), (.int .i64 0), (.int .i64 0), (.int .i64 0)] [(0, 1, (.k (.int .i64 183))), (4, 1, (.k (.int .i64 1)))]))⟩,
    ⟨(some 6), none, (.op (.build [(.int .i64 0), (.int .i64 0), (.int .i64 0), (.int .i64 0), (.int .i64 0)] [(0, 1, (.k (.int .i64 5))), (3, 1, (.k (.int .i64 1)))]))⟩,
    ⟨(some 7), none, (.op (.build [(.int .i64 0), (.int .i64 0), (.int .i64 0), (.int .i64 0), (.int .i64 0)] [(0, 1, (.k (.int .i64 183))), (4, 1, (.k (.int .i64 2)))]))⟩,
    ⟨(some 8), none, (.op (.build [(.int .i64 0), (.int .i64 0), (.int .i64 0), (.int .i64 0), (.int .i64 0)] [(0, 1, (.k (.int .i64 149)))]))⟩,
    ⟨(some 9), none, (.op (.bsl 5 4 [(.int .i64 0), (.int .i64 0), (.int .i64 0), (.int .i64 0), (.int .i64 0), (.int .i64 0), (.int .i64 0), (.int .i64 0), (.int .i64 0), (.int .i64 0), (.int .i64 0), (.int .i64 0), (.int .i64 0), (.int .i64 0), (.int .i64 0), (.int .i64 0), (.int .i64 0), (.int .i64 0), (.int .i64 0), (.int .i64 0)] [(0, 5, (.t 5)), (5, 5, (.t 6)), (10, 5, (.t 7)), (15, 5, (.t 8))]))⟩,
    ⟨(some 1), none, (.op (.mov (.t 9)))⟩])
  (.seq (.reg [⟨(some 10), none, (.op (.mov (.t 1)))⟩,
     ⟨(some 11), none, (.op (.build [(.string ⟨#[]⟩), (.int .i64 0), (.int .i64 0), (.int .i64 0)] [(0, 1, (.k (.string ⟨#[102]⟩))), (3, 1, (.k (.int .i64 4)))]))⟩,
     ⟨(some 12), none, (.op (.bsl 4 1 [(.string ⟨#[]⟩), (.int .i64 0), (.int .i64 0), (.int .i64 0)] [(0, 4, (.t 11))]))⟩,
     ⟨(some 13), none, (.op (.build [(.slice none 0 0), (.slice none 0 0), (.slice none 0 0), (.int .i64 0)] [(0, 1, (.t 10)), (1, 1, (.t 12))]))⟩,
     ⟨(some 2), none, (.op (.alloc [(.slice none 0 0), (.slice none 0 0), (.slice none 0 0), (.int .i64 0)]))⟩,
     ⟨none, none, (.op (.st 4 (.t 2) (.t 13)))⟩])
   (.seq (.reg [⟨(some 15), none, (.op (.lda 4 (.t 2)))⟩,
      ⟨(some 16), none, (.call (.f 23) [(.t 15)])⟩,
      ⟨(some 14), none, (.op (.mov (.t 16)))⟩,
      ⟨(some 17), none, (.op (.ext 0 (.t 14)))⟩,
      ⟨(some 18), none, (.op (.ext 1 (.t 14)))⟩,
      ⟨(some 3), none, (.op (.alloc [(.slice none 0 0), (.slice none 0 0), (.slice none 0 0), (.int .i64 0)]))⟩,
      ⟨none, none, (.op (.st 4 (.t 3) (.t 17)))⟩,
      ⟨(some 4), none, (.op (.mov (.t 18)))⟩])
    (.seq (.reg [⟨(some 19), none, (.op (.mov (.t 4)))⟩,
       ⟨(some 20), none, (.call (.f 16) [(.t 19)])⟩,
       ⟨(some 21), none, (.op (.bin .eql (.t 20) (.k (.int .i64 0))))⟩,
       ⟨(some 22), none, (.op (.mov (.t 21)))⟩,
       ⟨(some 23), (some (22, true)), (.op (.lda 4 (.t 2)))⟩,
       ⟨(some 24), (some (22, true)), (.op (.lda 4 (.t 3)))⟩,
       ⟨(some 25), (some (22, true)), (.call (.f 26) [(.t 23), (.t 24)])⟩,
       ⟨(some 26), none, (.op (.pick (.t 22) (.t 25) (.k (.bool false))))⟩,
       ⟨(some 27), none, (.op (.mov (.t 26)))⟩,
       ⟨(some 28), (some (27, true)), (.op (.fad 0 (.t 3)))⟩,
       ⟨(some 29), (some (27, true)), (.op (.ld1 (.t 28)))⟩,
       ⟨(some 30), (some (27, true)), (.call (.f 33) [(.t 29)])⟩,
       ⟨(some 31), none, (.op (.pick (.t 27) (.t 30) (.k (.bool false))))⟩,
       ⟨(some 0), none, (.op (.mov (.t 31)))⟩])
     (.ret)))))
def r20 : List XRes := [.t 0]
theorem res20 : resolveF Tryz.prog 20 = some (x20, r20, 32) := by kernel_rfl
def x28 : XCode := .seq (.reg [⟨(some 1), none, (.op (.box (.t 0)))⟩,
   ⟨(some 2), none, (.op (.alloc [(.slice none 0 0), (.slice none 0 0), (.slice none 0 0), (.int .i64 0)]))⟩])
 (.seq (.drw none [⟨(some 3), none, (.op (.fad 0 (.t 1)))⟩,
    ⟨(some 4), none, (.op (.ld1 (.t 3)))⟩,
    ⟨(some 5), none, (.call (.f 38) [(.t 4)])⟩,
    ⟨(some 6), none, (.op (.fad 1 (.t 1)))⟩,
    ⟨(some 7), none, (.op (.ld1 (.t 6)))⟩,
    ⟨(some 8), none, (.call (.f 75) [(.t 7)])⟩,
    ⟨(some 9), none, (.op (.fad 2 (.t 1)))⟩,
    ⟨(some 10), none, (.op (.ld1 (.t 9)))⟩,
    ⟨(some 11), none, (.call (.f 40) [(.t 10)])⟩,
    ⟨(some 12), none, (.op (.fad 3 (.t 1)))⟩,
    ⟨(some 13), none, (.op (.ld1 (.t 12)))⟩,
    ⟨(some 14), none, (.op (.build [(.slice none 0 0), (.slice none 0 0), (.slice none 0 0), (.int .i64 0)] [(0, 1, (.t 5)), (1, 1, (.t 8)), (2, 1, (.t 11)), (3, 1, (.t 13))]))⟩,
    ⟨none, none, (.op (.st 4 (.t 2) (.t 14)))⟩])
  (.ret))
def r28 : List XRes := [.lda 4 2]
theorem res28 : resolveF Tryz.prog 28 = some (x28, r28, 15) := by kernel_rfl
def x38 : XCode := .seq (.reg [⟨(some 2), none, (.op (.mov (.k (.slice none 0 0))))⟩])
 (.seq (.reg [⟨(some 3), none, (.op (.bsl 5 0 [] []))⟩,
    ⟨(some 4), none, (.op (.mov (.t 0)))⟩,
    ⟨(some 5), none, (.op (.app 5 40 (.t 3) (.t 4)))⟩,
    ⟨(some 2), none, (.op (.mov (.t 5)))⟩])
  (.ret))
def r38 : List XRes := [.t 2]
theorem res38 : resolveF Tryz.prog 38 = some (x38, r38, 6) := by kernel_rfl
def x75 : XCode := .seq (.reg [⟨(some 2), none, (.op (.mov (.k (.slice none 0 0))))⟩])
 (.seq (.reg [⟨(some 3), none, (.op (.bsl 4 0 [] []))⟩,
    ⟨(some 4), none, (.op (.mov (.t 0)))⟩,
    ⟨(some 5), none, (.op (.app 4 40 (.t 3) (.t 4)))⟩,
    ⟨(some 2), none, (.op (.mov (.t 5)))⟩])
  (.ret))
def r75 : List XRes := [.t 2]
theorem res75 : resolveF Tryz.prog 75 = some (x75, r75, 6) := by kernel_rfl
def x40 : XCode := .seq (.reg [⟨(some 2), none, (.op (.mov (.k (.slice none 0 0))))⟩])
 (.seq (.reg [⟨(some 3), none, (.op (.bsl 5 0 [] []))⟩,
    ⟨(some 4), none, (.op (.mov (.t 0)))⟩,
    ⟨(some 5), none, (.op (.app 5 48 (.t 3) (.t 4)))⟩,
    ⟨(some 2), none, (.op (.mov (.t 5)))⟩])
  (.ret))
def r40 : List XRes := [.t 2]
theorem res40 : resolveF Tryz.prog 40 = some (x40, r40, 6) := by kernel_rfl
end Go.Tidy
namespace Go.Tidy
open Go Go.Eng Go.Proofs
set_option maxRecDepth 100000
def x151 : XCode := .seq (.reg [⟨(some 4), none, (.op (.mov (.k (.bool false))))⟩])
 (.seq (.reg [⟨(some 5), none, (.op (.mov (.t 0)))⟩,
    ⟨(some 6), none, (.op (.bin .geq (.t 5) (.k (.int .i64 0))))⟩,
    ⟨(some 7), none, (.op (.mov (.t 6)))⟩,
    ⟨(some 8), (some (7, true)), (.op (.mov (.t 0)))⟩,
    ⟨(some 9), (some (7, true)), (.op (.mov (.t 1)))⟩,
    ⟨(some 10), (some (7, true)), (.op (.bin .lss (.t 8) (.t 9)))⟩,
    ⟨(some 11), none, (.op (.pick (.t 7) (.t 10) (.k (.bool false))))⟩,
    ⟨(some 4), none, (.op (.mov (.t 11)))⟩])
  (.ret))
def r151 : List XRes := [.t 4]
theorem res151 : resolveF Tryz.prog 151 = some (x151, r151, 12) := by kernel_rfl
def x85 : XCode := .seq (.reg [⟨(some 0), none, (.op (.mov (.k (.slice none 0 0))))⟩])
 (.seq (.reg [⟨(some 1), none, (.op (.build [(.int .i64 0), .nilFunc] [(0, 1, (.k (.int .i64 191))), (1, 1, (.f 142))]))⟩,
    ⟨(some 2), none, (.op (.build [(.int .i64 0), .nilFunc] [(0, 1, (.k (.int .i64 192))), (1, 1, (.f 144))]))⟩,
    ⟨(some 3), none, (.op (.build [(.int .i64 0), .nilFunc] [(0, 1, (.k (.int .i64 193))), (1, 1, (.f 146))]))⟩,
    ⟨(some 4), none, (.op (.build [(.int .i64 0), .nilFunc] [(0, 1, (.k (.int .i64 194))), (1, 1, (.f 147))]))⟩,
    ⟨(some 5), none, (.op (.build [(.int .i64 0), .nilFunc] [(0, 1, (.k (.int .i64 195))), (1, 1, (.f 150))]))⟩,
    ⟨(some 6), none, (.op (.build [(.int .i64 0), .nilFunc] [(0, 1, (.k (.int .i64 196))), (1, 1, (.f 152))]))⟩,
    ⟨(some 7), none, (.op (.build [(.int .i64 0), .nilFunc] [(0, 1, (.k (.int .i64 197))), (1, 1, (.f 153))]))⟩,
    ⟨(some 8), none, (.op (.bsl 2 7 [(.int .i64 0), .nilFunc, (.int .i64 0), .nilFunc, (.int .i64 0), .nilFunc, (.int .i64 0), .nilFunc, (.int .i64 0), .nilFunc, (.int .i64 0), .nilFunc, (.int .i64 0), .nilFunc] [(0, 2, (.t 1)), (2, 2, (.t 2)), (4, 2, (.t 3)), (6, 2, (.t 4)), (8, 2, (.t 5)), (10, 2, (.t 6)), (12, 2, (.t 7))]))⟩,
    ⟨(some 0), none, (.op (.mov (.t 8)))⟩])
  (.ret))
def r85 : List XRes := [.t 0]
theorem res85 : resolveF Tryz.prog 85 = some (x85, r85, 9) := by kernel_rfl
def x142 : XCode := .seq (.reg [⟨(some 4), none, (.op (.mov (.k (.bool false))))⟩])
 (.seq (.reg [⟨(some 5), none, (.op (.mov (.t 0)))⟩,
    ⟨(some 6), none, (.op (.nck (.t 5)))⟩,
    ⟨(some 7), none, (.op (.fad 4 (.t 6)))⟩,
    ⟨(some 8), none, (.op (.ld1 (.t 7)))⟩,
    ⟨(some 9), none, (.op (.mov (.t 1)))⟩,
    ⟨(some 10), none, (.op (.iad 5 (.t 8) (.t 9)))⟩,
    ⟨(some 11), none, (.op (.lda 5 (.t 10)))⟩,
    ⟨(some 12), none, (.call (.f 143) [(.t 11)])⟩,
    ⟨(some 13), none, (.op (.bin .neq (.t 12) (.k (.int .i64 0))))⟩,
    ⟨(some 4), none, (.op (.mov (.t 13)))⟩])
  (.ret))
def r142 : List XRes := [.t 4]
theorem res142 : resolveF Tryz.prog 142 = some (x142, r142, 14) := by kernel_rfl
def x144 : XCode := .seq (.reg [⟨(some 4), none, (.op (.mov (.k (.bool false))))⟩])
 (.seq (.reg [⟨(some 10), none, (.op (.mov (.t 0)))⟩,
    ⟨(some 11), none, (.op (.nck (.t 10)))⟩,
    ⟨(some 12), none, (.op (.fad 4 (.t 11)))⟩,
    ⟨(some 13), none, (.op (.ld1 (.t 12)))⟩,
    ⟨(some 14), none, (.op (.mov (.t 1)))⟩,
    ⟨(some 15), none, (.op (.iad 5 (.t 13) (.t 14)))⟩,
    ⟨(some 16), none, (.op (.lda 5 (.t 15)))⟩,
    ⟨(some 5), none, (.op (.alloc [(.int .i64 0), (.int .i64 0), (.int .i64 0), (.int .i64 0), (.int .i64 0)]))⟩,
    ⟨none, none, (.op (.st 5 (.t 5) (.t 16)))⟩])
  (.seq (.reg [⟨(some 17), none, (.op (.fad 3 (.t 5)))⟩,
     ⟨(some 18), none, (.op (.ld1 (.t 17)))⟩,
     ⟨(some 6), none, (.op (.mov (.t 18)))⟩])
   (.seq (.seq (.reg [⟨(some 19), none, (.op (.fad 0 (.t 5)))⟩,
       ⟨(some 20), none, (.op (.ld1 (.t 19)))⟩,
       ⟨(some 21), none, (.op (.bin .eql (.t 20) (.k (.int .i64 6))))⟩])
     (.cond (.t 21) (.reg [⟨(some 22), none, (.op (.fad 4 (.t 5)))⟩,
        ⟨(some 23), none, (.op (.ld1 (.t 22)))⟩,
        ⟨(some 6), none, (.op (.mov (.t 23)))⟩])
      (.skip)))
    (.seq (.reg [⟨(some 24), none, (.op (.lda 5 (.t 5)))⟩,
       ⟨(some 25), none, (.call (.f 145) [(.t 24)])⟩,
       ⟨(some 7), none, (.op (.mov (.t 25)))⟩])
     (.seq (.drw none [⟨(some 27), none, (.op (.mov (.t 0)))⟩,
        ⟨(some 28), none, (.op (.nck (.t 27)))⟩,
        ⟨(some 29), none, (.op (.fad 6 (.t 28)))⟩,
        ⟨(some 30), none, (.op (.ld1 (.t 29)))⟩,
        ⟨(some 31), none, (.op (.mov (.t 0)))⟩,
        ⟨(some 32), none, (.op (.nck (.t 31)))⟩,
        ⟨(some 33), none, (.op (.fad 5 (.t 32)))⟩,
        ⟨(some 34), none, (.op (.ld1 (.t 33)))⟩,
        ⟨(some 35), none, (.op (.mov (.t 1)))⟩,
        ⟨(some 36), none, (.op (.iad 1 (.t 34) (.t 35)))⟩,
        ⟨(some 37), none, (.op (.ld1 (.t 36)))⟩,
        ⟨(some 38), none, (.op (.bin .add (.t 37) (.k (.int .i64 1))))⟩,
        ⟨(some 39), none, (.op (.mov (.t 6)))⟩,
        ⟨(some 40), none, (.op (.bin .add (.t 38) (.t 39)))⟩,
        ⟨(some 41), none, (.op (.lku ⟨false, [1]⟩ (.int .i64 0) true (.t 30) (.t 40)))⟩,
        ⟨(some 26), none, (.op (.mov (.t 41)))⟩,
        ⟨(some 42), none, (.op (.ext 0 (.t 26)))⟩,
        ⟨(some 43), none, (.op (.ext 1 (.t 26)))⟩,
        ⟨(some 8), none, (.op (.mov (.t 42)))⟩,
        ⟨(some 9), none, (.op (.mov (.t 43)))⟩])
      (.seq (.reg [⟨(some 44), none, (.op (.mov (.t 7)))⟩,
         ⟨(some 45), none, (.op (.bin .eql (.t 44) (.k (.int .i64 1))))⟩,
         ⟨(some 46), none, (.op (.mov (.t 45)))⟩,
         ⟨(some 47), (some (46, false)), (.op (.mov (.t 7)))⟩,
         ⟨(some 48), (some (46, false)), (.op (.bin .eql (.t 47) (.k (.int .i64 2))))⟩,
         ⟨(some 49), none, (.op (.pick (.t 46) (.k (.bool true)) (.t 48)))⟩,
         ⟨(some 50), none, (.op (.mov (.t 49)))⟩,
         ⟨(some 51), (some (50, true)), (.op (.mov (.t 9)))⟩,
         ⟨(some 52), (some (50, true)), (.op (.un .not (.t 51)))⟩,
         ⟨(some 53), none, (.op (.pick (.t 50) (.t 52) (.k (.bool false))))⟩,
         ⟨(some 4), none, (.op (.mov (.t 53)))⟩])
       (.ret)))))))
def r144 : List XRes := [.t 4]
theorem res144 : resolveF Tryz.prog 144 = some (x144, r144, 54) := by kernel_rfl
def x146 : XCode := .seq (.reg [⟨(some 4), none, (.op (.mov (.k (.bool false))))⟩])
 (.seq (.reg [⟨(some 6), none, (.op (.mov (.t 0)))⟩,
    ⟨(some 7), none, (.op (.nck (.t 6)))⟩,
    ⟨(some 8), none, (.op (.fad 4 (.t 7)))⟩,
    ⟨(some 9), none, (.op (.ld1 (.t 8)))⟩,
    ⟨(some 10), none, (.op (.mov (.t 1)))⟩,
    ⟨(some 11), none, (.op (.iad 5 (.t 9) (.t 10)))⟩,
    ⟨(some 12), none, (.op (.lda 5 (.t 11)))⟩,
    ⟨(some 13), none, (.call (.f 145) [(.t 12)])⟩,
    ⟨(some 5), none, (.op (.mov (.t 13)))⟩])
  (.seq (.reg [⟨(some 14), none, (.op (.mov (.t 1)))⟩,
     ⟨(some 15), none, (.op (.mov (.t 0)))⟩,
     ⟨(some 16), none, (.op (.nck (.t 15)))⟩,
     ⟨(some 17), none, (.op (.fad 4 (.t 16)))⟩,
     ⟨(some 18), none, (.op (.ld1 (.t 17)))⟩,
     ⟨(some 19), none, (.op (.lenl (.t 18)))⟩,
     ⟨(some 20), none, (.op (.bin .sub (.t 19) (.k (.int .i64 1))))⟩,
     ⟨(some 21), none, (.op (.bin .eql (.t 14) (.t 20)))⟩,
     ⟨(some 22), none, (.op (.mov (.t 21)))⟩,
     ⟨(some 23), (some (22, true)), (.op (.mov (.t 5)))⟩,
     ⟨(some 24), (some (22, true)), (.op (.bin .neq (.t 23) (.k (.int .i64 1))))⟩,
     ⟨(some 25), none, (.op (.pick (.t 22) (.t 24) (.k (.bool false))))⟩,
     ⟨(some 26), none, (.op (.mov (.t 25)))⟩,
     ⟨(some 27), (some (26, true)), (.op (.mov (.t 5)))⟩,
     ⟨(some 28), (some (26, true)), (.op (.bin .neq (.t 27) (.k (.int .i64 4))))⟩,
     ⟨(some 29), none, (.op (.pick (.t 26) (.t 28) (.k (.bool false))))⟩,
     ⟨(some 4), none, (.op (.mov (.t 29)))⟩])
   (.ret)))
def r146 : List XRes := [.t 4]
theorem res146 : resolveF Tryz.prog 146 = some (x146, r146, 30) := by kernel_rfl
def x147 : XCode := .seq (.reg [⟨(some 4), none, (.op (.mov (.k (.bool false))))⟩])
 (.seq (.reg [⟨(some 5), none, (.op (.mov (.t 0)))⟩,
    ⟨(some 6), none, (.op (.nck (.t 5)))⟩,
    ⟨(some 7), none, (.op (.fad 4 (.t 6)))⟩,
    ⟨(some 8), none, (.op (.ld1 (.t 7)))⟩,
    ⟨(some 9), none, (.op (.mov (.t 1)))⟩,
    ⟨(some 10), none, (.op (.iad 5 (.t 8) (.t 9)))⟩,
    ⟨(some 11), none, (.op (.lda 5 (.t 10)))⟩,
    ⟨(some 12), none, (.call (.f 149) [(.t 11)])⟩,
    ⟨(some 13), none, (.call (.f 148) [(.t 12), (.k (.int .i64 10))])⟩,
    ⟨(some 4), none, (.op (.mov (.t 13)))⟩])
  (.ret))
def r147 : List XRes := [.t 4]
theorem res147 : resolveF Tryz.prog 147 = some (x147, r147, 14) := by kernel_rfl
def x150 : XCode := .seq (.reg [⟨(some 4), none, (.op (.mov (.k (.bool false))))⟩])
 (.seq (.reg [⟨(some 6), none, (.op (.mov (.t 0)))⟩,
    ⟨(some 7), none, (.op (.nck (.t 6)))⟩,
    ⟨(some 8), none, (.op (.fad 4 (.t 7)))⟩,
    ⟨(some 9), none, (.op (.ld1 (.t 8)))⟩,
    ⟨(some 10), none, (.op (.mov (.t 1)))⟩,
    ⟨(some 11), none, (.op (.iad 5 (.t 9) (.t 10)))⟩,
    ⟨(some 12), none, (.op (.lda 5 (.t 11)))⟩,
    ⟨(some 5), none, (.op (.alloc [(.int .i64 0), (.int .i64 0), (.int .i64 0), (.int .i64 0), (.int .i64 0)]))⟩,
    ⟨none, none, (.op (.st 5 (.t 5) (.t 12)))⟩])
  (.seq (.drw none [⟨(some 13), none, (.op (.lda 5 (.t 5)))⟩,
     ⟨(some 14), none, (.call (.f 145) [(.t 13)])⟩,
     ⟨(some 15), none, (.op (.bin .eql (.t 14) (.k (.int .i64 3))))⟩,
     ⟨(some 16), none, (.op (.mov (.t 15)))⟩,
     ⟨(some 17), (some (16, true)), (.op (.fad 4 (.t 5)))⟩,
     ⟨(some 18), (some (16, true)), (.op (.ld1 (.t 17)))⟩,
     ⟨(some 19), (some (16, true)), (.op (.mov (.t 0)))⟩,
     ⟨(some 20), (some (16, true)), (.op (.nck (.t 19)))⟩,
     ⟨(some 21), (some (16, true)), (.op (.fad 0 (.t 20)))⟩,
     ⟨(some 22), (some (16, true)), (.op (.fad 1 (.t 21)))⟩,
     ⟨(some 23), (some (16, true)), (.op (.ld1 (.t 22)))⟩,
     ⟨(some 24), (some (16, true)), (.op (.lenl (.t 23)))⟩,
     ⟨(some 25), (some (16, true)), (.call (.f 151) [(.t 18), (.t 24)])⟩,
     ⟨(some 26), (some (16, true)), (.op (.un .not (.t 25)))⟩,
     ⟨(some 27), none, (.op (.pick (.t 16) (.t 26) (.k (.bool false))))⟩,
     ⟨(some 4), none, (.op (.mov (.t 27)))⟩])
   (.ret)))
def r150 : List XRes := [.t 4]
theorem res150 : resolveF Tryz.prog 150 = some (x150, r150, 28) := by kernel_rfl
def x152 : XCode := .seq (.reg [⟨(some 4), none, (.op (.mov (.k (.bool false))))⟩])
 (.seq (.reg [⟨(some 6), none, (.op (.mov (.t 0)))⟩,
    ⟨(some 7), none, (.op (.nck (.t 6)))⟩,
    ⟨(some 8), none, (.op (.fad 4 (.t 7)))⟩,
    ⟨(some 9), none, (.op (.ld1 (.t 8)))⟩,
    ⟨(some 10), none, (.op (.mov (.t 1)))⟩,
    ⟨(some 11), none, (.op (.iad 5 (.t 9) (.t 10)))⟩,
    ⟨(some 12), none, (.op (.lda 5 (.t 11)))⟩,
    ⟨(some 5), none, (.op (.alloc [(.int .i64 0), (.int .i64 0), (.int .i64 0), (.int .i64 0), (.int .i64 0)]))⟩,
    ⟨none, none, (.op (.st 5 (.t 5) (.t 12)))⟩])
  (.seq (.drw none [⟨(some 13), none, (.op (.lda 5 (.t 5)))⟩,
     ⟨(some 14), none, (.call (.f 107) [(.t 13)])⟩,
     ⟨(some 15), none, (.op (.mov (.t 14)))⟩,
     ⟨(some 16), (some (15, true)), (.op (.fad 2 (.t 5)))⟩,
     ⟨(some 17), (some (15, true)), (.op (.ld1 (.t 16)))⟩,
     ⟨(some 18), (some (15, true)), (.op (.bin .eql (.t 17) (.k (.int .i64 1))))⟩,
     ⟨(some 19), none, (.op (.pick (.t 15) (.t 18) (.k (.bool false))))⟩,
     ⟨(some 20), none, (.op (.mov (.t 19)))⟩,
     ⟨(some 21), (some (20, true)), (.op (.fad 4 (.t 5)))⟩,
     ⟨(some 22), (some (20, true)), (.op (.ld1 (.t 21)))⟩,
     ⟨(some 23), (some (20, true)), (.op (.mov (.t 0)))⟩,
     ⟨(some 24), (some (20, true)), (.op (.nck (.t 23)))⟩,
     ⟨(some 25), (some (20, true)), (.op (.fad 0 (.t 24)))⟩,
     ⟨(some 26), (some (20, true)), (.op (.fad 2 (.t 25)))⟩,
     ⟨(some 27), (some (20, true)), (.op (.ld1 (.t 26)))⟩,
     ⟨(some 28), (some (20, true)), (.op (.lenl (.t 27)))⟩,
     ⟨(some 29), (some (20, true)), (.call (.f 151) [(.t 22), (.t 28)])⟩,
     ⟨(some 30), (some (20, true)), (.op (.un .not (.t 29)))⟩,
     ⟨(some 31), none, (.op (.pick (.t 20) (.t 30) (.k (.bool false))))⟩,
     ⟨(some 4), none, (.op (.mov (.t 31)))⟩])
   (.ret)))
def r152 : List XRes := [.t 4]
theorem res152 : resolveF Tryz.prog 152 = some (x152, r152, 32) := by kernel_rfl
def x153 : XCode := .seq (.reg [⟨(some 4), none, (.op (.mov (.k (.bool false))))⟩])
 (.seq (.reg [⟨(some 8), none, (.op (.mov (.t 0)))⟩,
    ⟨(some 9), none, (.op (.nck (.t 8)))⟩,
    ⟨(some 10), none, (.op (.fad 4 (.t 9)))⟩,
    ⟨(some 11), none, (.op (.ld1 (.t 10)))⟩,
    ⟨(some 12), none, (.op (.mov (.t 1)))⟩,
    ⟨(some 13), none, (.op (.iad 5 (.t 11) (.t 12)))⟩,
    ⟨(some 14), none, (.op (.lda 5 (.t 13)))⟩,
    ⟨(some 5), none, (.op (.alloc [(.int .i64 0), (.int .i64 0), (.int .i64 0), (.int .i64 0), (.int .i64 0)]))⟩,
    ⟨none, none, (.op (.st 5 (.t 5) (.t 14)))⟩])
  (.seq (.reg [⟨(some 16), none, (.op (.fad 0 (.t 5)))⟩,
     ⟨(some 17), none, (.op (.ld1 (.t 16)))⟩,
     ⟨(some 18), none, (.call (.f 154) [(.t 17)])⟩,
     ⟨(some 15), none, (.op (.mov (.t 18)))⟩,
     ⟨(some 19), none, (.op (.ext 0 (.t 15)))⟩,
     ⟨(some 20), none, (.op (.ext 1 (.t 15)))⟩,
     ⟨(some 6), none, (.op (.alloc [(.int .i64 0), (.int .i64 0), (.bool false), (.bool false), (.bool false), (.bool false)]))⟩,
     ⟨none, none, (.op (.st 6 (.t 6) (.t 19)))⟩,
     ⟨(some 7), none, (.op (.mov (.t 20)))⟩])
   (.seq (.reg [⟨(some 21), none, (.op (.fad 0 (.t 6)))⟩,
      ⟨(some 22), none, (.op (.ld1 (.t 21)))⟩,
      ⟨(some 23), none, (.op (.bin .eql (.t 22) (.k (.int .i64 9))))⟩,
      ⟨(some 24), none, (.op (.mov (.t 23)))⟩,
      ⟨(some 25), (some (24, true)), (.op (.fad 2 (.t 5)))⟩,
      ⟨(some 26), (some (24, true)), (.op (.ld1 (.t 25)))⟩,
      ⟨(some 27), (some (24, true)), (.op (.bin .eql (.t 26) (.k (.int .i64 0))))⟩,
      ⟨(some 28), none, (.op (.pick (.t 24) (.t 27) (.k (.bool false))))⟩,
      ⟨(some 29), none, (.op (.mov (.t 28)))⟩,
      ⟨(some 30), (some (29, true)), (.op (.fad 4 (.t 5)))⟩,
      ⟨(some 31), (some (29, true)), (.op (.ld1 (.t 30)))⟩,
      ⟨(some 32), (some (29, true)), (.op (.bin .lss (.t 31) (.k (.int .i64 1))))⟩,
      ⟨(some 33), (some (29, true)), (.op (.mov (.t 32)))⟩,
      ⟨(some 34), (some (33, false)), (.op (.fad 4 (.t 5)))⟩,
      ⟨(some 35), (some (33, false)), (.op (.ld1 (.t 34)))⟩,
      ⟨(some 36), (some (33, false)), (.op (.bin .gtr (.t 35) (.k (.int .i64 4))))⟩,
      ⟨(some 37), (some (29, true)), (.op (.pick (.t 33) (.k (.bool true)) (.t 36)))⟩,
      ⟨(some 38), none, (.op (.pick (.t 29) (.t 37) (.k (.bool false))))⟩,
      ⟨(some 4), none, (.op (.mov (.t 38)))⟩])
    (.ret))))
def r153 : List XRes := [.t 4]
theorem res153 : resolveF Tryz.prog 153 = some (x153, r153, 39) := by kernel_rfl
def x86 : XCode := .seq (.reg [⟨(some 2), none, (.op (.box (.t 0)))⟩,
   ⟨(some 3), none, (.op (.box (.t 1)))⟩,
   ⟨(some 4), none, (.op (.mov (.k (.pointer none))))⟩])
 (.seq (.drw none [⟨(some 9), none, (.op (.lda 4 (.t 2)))⟩,
    ⟨(some 10), none, (.op (.fad 0 (.t 2)))⟩,
    ⟨(some 11), none, (.op (.ld1 (.t 10)))⟩,
    ⟨(some 12), none, (.op (.fad 2 (.t 3)))⟩,
    ⟨(some 13), none, (.op (.ld1 (.t 12)))⟩,
    ⟨(some 14), none, (.op (.fad 2 (.t 3)))⟩,
    ⟨(some 15), none, (.op (.ld1 (.t 14)))⟩,
    ⟨(some 16), none, (.op (.fad 3 (.t 3)))⟩,
    ⟨(some 17), none, (.op (.ld1 (.t 16)))⟩,
    ⟨(some 18), none, (.op (.bin .add (.t 15) (.t 17)))⟩,
    ⟨(some 19), none, (.op (.sls 5 (.t 11) (some (.t 13)) (some (.t 18))))⟩,
    ⟨(some 20), none, (.op (.mkm none))⟩,
    ⟨(some 21), none, (.op (.build [(.slice none 0 0), (.slice none 0 0), (.slice none 0 0), (.int .i64 0), (.slice none 0 0), (.slice none 0 0), (.map none)] [(0, 4, (.t 9)), (4, 1, (.t 19)), (6, 1, (.t 20))]))⟩,
    ⟨(some 22), none, (.op (.box (.t 21)))⟩,
    ⟨(some 5), none, (.op (.mov (.t 22)))⟩])
  (.seq (.reg [⟨(some 6), none, (.op (.mov (.k (.int .i64 0))))⟩])
   (.seq (.seq (.reg [⟨(some 23), none, (.op (.mov (.t 5)))⟩,
       ⟨(some 24), none, (.op (.nck (.t 23)))⟩,
       ⟨(some 25), none, (.op (.fad 4 (.t 24)))⟩,
       ⟨(some 26), none, (.op (.ld1 (.t 25)))⟩,
       ⟨(some 27), none, (.op (.lenl (.t 26)))⟩,
       ⟨(some 28), none, (.op (.mov (.k (.int .i64 0))))⟩])
     (.block 0 (.loop (.seq (.reg [⟨(some 29), none, (.op (.bin .lss (.t 28) (.t 27)))⟩])
        (.seq (.cond (.t 29) (.skip)
          (.exit 0))
         (.seq (.block 1 (.seq (.reg [⟨(some 30), none, (.op (.mov (.t 28)))⟩,
              ⟨(some 31), none, (.op (.iad 5 (.t 26) (.t 28)))⟩,
              ⟨(some 32), none, (.op (.lda 5 (.t 31)))⟩,
              ⟨(some 8), none, (.op (.alloc [(.int .i64 0), (.int .i64 0), (.int .i64 0), (.int .i64 0), (.int .i64 0)]))⟩,
              ⟨(some 7), none, (.op (.mov (.t 30)))⟩,
              ⟨none, none, (.op (.st 5 (.t 8) (.t 32)))⟩])
            (.seq (.reg [⟨(some 33), none, (.op (.mov (.t 5)))⟩,
               ⟨(some 34), none, (.op (.mov (.t 5)))⟩,
               ⟨(some 35), none, (.op (.nck (.t 34)))⟩,
               ⟨(some 36), none, (.op (.fad 5 (.t 35)))⟩,
               ⟨(some 37), none, (.op (.ld1 (.t 36)))⟩,
               ⟨(some 38), none, (.op (.mov (.t 6)))⟩,
               ⟨(some 39), none, (.op (.bsl 1 1 [(.int .i64 0)] [(0, 1, (.t 38))]))⟩,
               ⟨(some 40), none, (.op (.app 1 8 (.t 37) (.t 39)))⟩,
               ⟨(some 41), none, (.op (.nck (.t 33)))⟩,
               ⟨(some 42), none, (.op (.fad 5 (.t 41)))⟩,
               ⟨none, none, (.op (.st 1 (.t 42) (.t 40)))⟩])
             (.seq (.reg [⟨(some 43), none, (.op (.mov (.t 5)))⟩,
                ⟨(some 44), none, (.op (.nck (.t 43)))⟩,
                ⟨(some 45), none, (.op (.fad 6 (.t 44)))⟩,
                ⟨(some 46), none, (.op (.ld1 (.t 45)))⟩,
                ⟨(some 47), none, (.op (.mov (.t 6)))⟩,
                ⟨(some 48), none, (.op (.mov (.t 7)))⟩,
                ⟨none, none, (.op (.mup ⟨false, [1]⟩ (.t 46) (.t 47) (.t 48)))⟩])
              (.seq (.reg [⟨(some 49), none, (.op (.mov (.t 6)))⟩,
                 ⟨(some 50), none, (.op (.bin .add (.t 49) (.k (.int .i64 1))))⟩,
                 ⟨(some 6), none, (.op (.mov (.t 50)))⟩])
               (.seq (.reg [⟨(some 51), none, (.op (.lda 5 (.t 8)))⟩,
                  ⟨(some 52), none, (.call (.f 107) [(.t 51)])⟩])
                (.cond (.t 52) (.reg [⟨(some 53), none, (.op (.mov (.t 6)))⟩,
                   ⟨(some 54), none, (.op (.bin .add (.t 53) (.k (.int .i64 1))))⟩,
                   ⟨(some 6), none, (.op (.mov (.t 54)))⟩])
                 (.skip))))))))
          (.reg [⟨(some 55), none, (.op (.bin .add (.t 28) (.k (.int .i64 1))))⟩,
            ⟨(some 28), none, (.op (.mov (.t 55)))⟩])))))))
    (.seq (.reg [⟨(some 56), none, (.op (.mov (.t 5)))⟩,
       ⟨(some 4), none, (.op (.mov (.t 56)))⟩])
     (.ret)))))
def r86 : List XRes := [.t 4]
theorem res86 : resolveF Tryz.prog 86 = some (x86, r86, 57) := by kernel_rfl
def x87 : XCode := .seq (.reg [⟨(some 4), none, (.op (.mov (.k (.int .i64 0))))⟩,
   ⟨(some 5), none, (.op (.mov (.k (.int .i64 0))))⟩])
 (.seq (.seq (.reg [⟨(some 9), none, (.op (.mov (.t 0)))⟩,
     ⟨(some 10), none, (.op (.nck (.t 9)))⟩,
     ⟨(some 11), none, (.op (.fad 4 (.t 10)))⟩,
     ⟨(some 12), none, (.op (.ld1 (.t 11)))⟩,
     ⟨(some 13), none, (.op (.lenl (.t 12)))⟩,
     ⟨(some 14), none, (.op (.mov (.k (.int .i64 0))))⟩])
   (.block 0 (.loop (.seq (.reg [⟨(some 15), none, (.op (.bin .lss (.t 14) (.t 13)))⟩])
      (.seq (.cond (.t 15) (.skip)
        (.exit 0))
       (.seq (.block 1 (.seq (.reg [⟨(some 16), none, (.op (.mov (.t 14)))⟩,
            ⟨(some 6), none, (.op (.mov (.t 16)))⟩])
          (.seq (.reg [⟨(some 17), none, (.op (.mov (.t 1)))⟩,
             ⟨(some 18), none, (.op (.lenl (.t 17)))⟩,
             ⟨(some 19), none, (.op (.mov (.k (.int .i64 0))))⟩])
           (.block 2 (.loop (.seq (.reg [⟨(some 20), none, (.op (.bin .lss (.t 19) (.t 18)))⟩])
              (.seq (.cond (.t 20) (.skip)
                (.exit 2))
               (.seq (.block 3 (.seq (.reg [⟨(some 21), none, (.op (.iad 2 (.t 17) (.t 19)))⟩,
                    ⟨(some 22), none, (.op (.lda 2 (.t 21)))⟩,
                    ⟨(some 8), none, (.op (.alloc [(.int .i64 0), .nilFunc]))⟩,
                    ⟨none, none, (.op (.st 2 (.t 8) (.t 22)))⟩])
                  (.seq (.reg [⟨(some 23), none, (.op (.fad 1 (.t 8)))⟩,
                     ⟨(some 24), none, (.op (.ld1 (.t 23)))⟩,
                     ⟨(some 25), none, (.op (.mov (.t 0)))⟩,
                     ⟨(some 26), none, (.op (.mov (.t 6)))⟩,
                     ⟨(some 27), none, (.call (.t 24) [(.t 25), (.t 26)])⟩])
                   (.cond (.t 27) (.seq (.drw none [⟨(some 28), none, (.op (.mov (.t 6)))⟩,
                       ⟨(some 29), none, (.op (.fad 0 (.t 8)))⟩,
                       ⟨(some 30), none, (.op (.ld1 (.t 29)))⟩,
                       ⟨(some 4), none, (.op (.mov (.t 28)))⟩,
                       ⟨(some 5), none, (.op (.mov (.t 30)))⟩])
                     (.ret))
                    (.skip)))))
                (.reg [⟨(some 31), none, (.op (.bin .add (.t 19) (.k (.int .i64 1))))⟩,
                  ⟨(some 19), none, (.op (.mov (.t 31)))⟩])))))))))
        (.reg [⟨(some 32), none, (.op (.bin .add (.t 14) (.k (.int .i64 1))))⟩,
          ⟨(some 14), none, (.op (.mov (.t 32)))⟩])))))))
  (.seq (.reg [⟨(some 4), none, (.op (.mov (.k (.int .i64 0))))⟩,
     ⟨(some 5), none, (.op (.mov (.k (.int .i64 0))))⟩])
   (.ret)))
def r87 : List XRes := [.t 4, .t 5]
theorem res87 : resolveF Tryz.prog 87 = some (x87, r87, 33) := by kernel_rfl
def x89 : XCode := .seq (.reg [⟨(some 1), none, (.op (.box (.t 0)))⟩,
   ⟨(some 2), none, (.op (.mov (.k (.slice none 0 0))))⟩])
 (.seq (.reg [⟨(some 8), none, (.op (.fad 1 (.t 1)))⟩,
    ⟨(some 9), none, (.op (.ld1 (.t 8)))⟩,
    ⟨(some 10), none, (.op (.lenl (.t 9)))⟩,
    ⟨(some 11), none, (.op (.mks 1 24 [(.slice none 0 0)] (.t 10) (.t 10)))⟩,
    ⟨(some 3), none, (.op (.mov (.t 11)))⟩])
  (.seq (.seq (.reg [⟨(some 12), none, (.op (.fad 1 (.t 1)))⟩,
      ⟨(some 13), none, (.op (.ld1 (.t 12)))⟩,
      ⟨(some 14), none, (.op (.lenl (.t 13)))⟩,
      ⟨(some 15), none, (.op (.mov (.k (.int .i64 0))))⟩])
    (.block 0 (.loop (.seq (.reg [⟨(some 16), none, (.op (.bin .lss (.t 15) (.t 14)))⟩])
       (.seq (.cond (.t 16) (.skip)
         (.exit 0))
        (.seq (.block 1 (.seq (.reg [⟨(some 17), none, (.op (.mov (.t 15)))⟩,
             ⟨(some 18), none, (.op (.iad 4 (.t 13) (.t 15)))⟩,
             ⟨(some 19), none, (.op (.lda 4 (.t 18)))⟩,
             ⟨(some 5), none, (.op (.alloc [(.string ⟨#[]⟩), (.int .i64 0), (.int .i64 0), (.int .i64 0)]))⟩,
             ⟨(some 4), none, (.op (.mov (.t 17)))⟩,
             ⟨none, none, (.op (.st 4 (.t 5) (.t 19)))⟩])
           (.seq (.reg [⟨(some 20), none, (.op (.fad 0 (.t 1)))⟩,
              ⟨(some 21), none, (.op (.ld1 (.t 20)))⟩,
              ⟨(some 22), none, (.op (.fad 2 (.t 5)))⟩,
              ⟨(some 23), none, (.op (.ld1 (.t 22)))⟩,
              ⟨(some 24), none, (.op (.fad 2 (.t 5)))⟩,
              ⟨(some 25), none, (.op (.ld1 (.t 24)))⟩,
              ⟨(some 26), none, (.op (.fad 3 (.t 5)))⟩,
              ⟨(some 27), none, (.op (.ld1 (.t 26)))⟩,
              ⟨(some 28), none, (.op (.bin .add (.t 25) (.t 27)))⟩,
              ⟨(some 29), none, (.op (.sls 5 (.t 21) (some (.t 23)) (some (.t 28))))⟩,
              ⟨(some 30), none, (.op (.lenl (.t 29)))⟩,
              ⟨(some 31), none, (.op (.mov (.k (.int .i64 0))))⟩])
            (.block 2 (.loop (.seq (.reg [⟨(some 32), none, (.op (.bin .lss (.t 31) (.t 30)))⟩])
               (.seq (.cond (.t 32) (.skip)
                 (.exit 2))
                (.seq (.block 3 (.seq (.reg [⟨(some 33), none, (.op (.iad 5 (.t 29) (.t 31)))⟩,
                     ⟨(some 34), none, (.op (.lda 5 (.t 33)))⟩,
                     ⟨(some 7), none, (.op (.alloc [(.int .i64 0), (.int .i64 0), (.int .i64 0), (.int .i64 0), (.int .i64 0)]))⟩,
                     ⟨none, none, (.op (.st 5 (.t 7) (.t 34)))⟩])
                   (.seq (.reg [⟨(some 35), none, (.op (.lda 5 (.t 7)))⟩,
                      ⟨(some 36), none, (.call (.f 145) [(.t 35)])⟩,
                      ⟨(some 37), none, (.op (.bin .eql (.t 36) (.k (.int .i64 3))))⟩])
                    (.cond (.t 37) (.drw none [⟨(some 38), none, (.op (.mov (.t 3)))⟩,
                       ⟨(some 39), none, (.op (.mov (.t 4)))⟩,
                       ⟨(some 40), none, (.op (.mov (.t 3)))⟩,
                       ⟨(some 41), none, (.op (.mov (.t 4)))⟩,
                       ⟨(some 42), none, (.op (.iad 1 (.t 40) (.t 41)))⟩,
                       ⟨(some 43), none, (.op (.ld1 (.t 42)))⟩,
                       ⟨(some 44), none, (.op (.fad 4 (.t 7)))⟩,
                       ⟨(some 45), none, (.op (.ld1 (.t 44)))⟩,
                       ⟨(some 46), none, (.op (.bsl 1 1 [(.int .i64 0)] [(0, 1, (.t 45))]))⟩,
                       ⟨(some 47), none, (.op (.app 1 8 (.t 43) (.t 46)))⟩,
                       ⟨(some 48), none, (.op (.iad 1 (.t 38) (.t 39)))⟩,
                       ⟨none, none, (.op (.st 1 (.t 48) (.t 47)))⟩])
                     (.skip)))))
                 (.reg [⟨(some 49), none, (.op (.bin .add (.t 31) (.k (.int .i64 1))))⟩,
                   ⟨(some 31), none, (.op (.mov (.t 49)))⟩])))))))))
         (.reg [⟨(some 50), none, (.op (.bin .add (.t 15) (.k (.int .i64 1))))⟩,
           ⟨(some 15), none, (.op (.mov (.t 50)))⟩])))))))
   (.seq (.reg [⟨(some 51), none, (.op (.mov (.t 3)))⟩,
      ⟨(some 2), none, (.op (.mov (.t 51)))⟩])
    (.ret))))
def r89 : List XRes := [.t 2]
theorem res89 : resolveF Tryz.prog 89 = some (x89, r89, 52) := by kernel_rfl
def x88 : XCode := .seq (.reg [⟨(some 2), none, (.op (.mov (.k (.slice none 0 0))))⟩])
 (.seq (.reg [⟨(some 10), none, (.op (.mov (.t 0)))⟩,
    ⟨(some 11), none, (.op (.lenl (.t 10)))⟩,
    ⟨(some 12), none, (.op (.mks 1 8 [(.int .i64 0)] (.t 11) (.t 11)))⟩,
    ⟨(some 3), none, (.op (.mov (.t 12)))⟩])
  (.seq (.seq (.reg [⟨(some 13), none, (.op (.mov (.t 0)))⟩,
      ⟨(some 14), none, (.op (.lenl (.t 13)))⟩,
      ⟨(some 15), none, (.op (.mov (.k (.int .i64 0))))⟩])
    (.block 0 (.loop (.seq (.reg [⟨(some 16), none, (.op (.bin .lss (.t 15) (.t 14)))⟩])
       (.seq (.cond (.t 16) (.skip)
         (.exit 0))
        (.seq (.block 1 (.seq (.reg [⟨(some 17), none, (.op (.mov (.t 15)))⟩,
             ⟨(some 4), none, (.op (.mov (.t 17)))⟩])
           (.seq (.seq (.reg [⟨(some 18), none, (.op (.mov (.t 3)))⟩,
               ⟨(some 19), none, (.op (.mov (.t 4)))⟩,
               ⟨(some 20), none, (.op (.iad 1 (.t 18) (.t 19)))⟩,
               ⟨(some 21), none, (.op (.ld1 (.t 20)))⟩,
               ⟨(some 22), none, (.op (.bin .neq (.t 21) (.k (.int .i64 0))))⟩])
             (.cond (.t 22) (.exit 1)
              (.skip)))
            (.seq (.reg [⟨(some 23), none, (.op (.mov (.t 3)))⟩,
               ⟨(some 24), none, (.op (.mov (.t 4)))⟩,
               ⟨(some 25), none, (.op (.iad 1 (.t 23) (.t 24)))⟩,
               ⟨none, none, (.op (.st 1 (.t 25) (.k (.int .i64 (-1)))))⟩])
             (.seq (.reg [⟨(some 26), none, (.op (.mov (.t 4)))⟩,
                ⟨(some 27), none, (.op (.build [(.int .i64 0), (.int .i64 0), (.int .i64 0)] [(0, 1, (.t 26))]))⟩,
                ⟨(some 28), none, (.op (.bsl 3 1 [(.int .i64 0), (.int .i64 0), (.int .i64 0)] [(0, 3, (.t 27))]))⟩,
                ⟨(some 5), none, (.op (.mov (.t 28)))⟩])
              (.seq (.skip)
               (.block 2 (.loop (.seq (.seq (.reg [⟨(some 29), none, (.op (.mov (.t 5)))⟩,
                     ⟨(some 30), none, (.op (.lenl (.t 29)))⟩,
                     ⟨(some 31), none, (.op (.bin .gtr (.t 30) (.k (.int .i64 0))))⟩])
                   (.cond (.t 31) (.skip)
                    (.exit 2)))
                  (.block 3 (.seq (.reg [⟨(some 32), none, (.op (.mov (.t 5)))⟩,
                      ⟨(some 33), none, (.op (.mov (.t 5)))⟩,
                      ⟨(some 34), none, (.op (.lenl (.t 33)))⟩,
                      ⟨(some 35), none, (.op (.bin .sub (.t 34) (.k (.int .i64 1))))⟩,
                      ⟨(some 36), none, (.op (.iad 3 (.t 32) (.t 35)))⟩,
                      ⟨(some 6), none, (.op (.mov (.t 36)))⟩])
                    (.seq (.block 4 (.loop (.seq (.seq (.drw none [⟨(some 37), none, (.op (.mov (.t 6)))⟩,
                           ⟨(some 38), none, (.op (.nck (.t 37)))⟩,
                           ⟨(some 39), none, (.op (.fad 1 (.t 38)))⟩,
                           ⟨(some 40), none, (.op (.ld1 (.t 39)))⟩,
                           ⟨(some 41), none, (.op (.mov (.t 0)))⟩,
                           ⟨(some 42), none, (.op (.mov (.t 6)))⟩,
                           ⟨(some 43), none, (.op (.nck (.t 42)))⟩,
                           ⟨(some 44), none, (.op (.fad 0 (.t 43)))⟩,
                           ⟨(some 45), none, (.op (.ld1 (.t 44)))⟩,
                           ⟨(some 46), none, (.op (.iad 1 (.t 41) (.t 45)))⟩,
                           ⟨(some 47), none, (.op (.ld1 (.t 46)))⟩,
                           ⟨(some 48), none, (.op (.lenl (.t 47)))⟩,
                           ⟨(some 49), none, (.op (.bin .lss (.t 40) (.t 48)))⟩])
                         (.cond (.t 49) (.skip)
                          (.exit 4)))
                        (.block 5 (.seq (.drw none [⟨(some 50), none, (.op (.mov (.t 0)))⟩,
                            ⟨(some 51), none, (.op (.mov (.t 6)))⟩,
                            ⟨(some 52), none, (.op (.nck (.t 51)))⟩,
                            ⟨(some 53), none, (.op (.fad 0 (.t 52)))⟩,
                            ⟨(some 54), none, (.op (.ld1 (.t 53)))⟩,
                            ⟨(some 55), none, (.op (.iad 1 (.t 50) (.t 54)))⟩,
                            ⟨(some 56), none, (.op (.ld1 (.t 55)))⟩,
                            ⟨(some 57), none, (.op (.mov (.t 6)))⟩,
                            ⟨(some 58), none, (.op (.nck (.t 57)))⟩,
                            ⟨(some 59), none, (.op (.fad 1 (.t 58)))⟩,
                            ⟨(some 60), none, (.op (.ld1 (.t 59)))⟩,
                            ⟨(some 61), none, (.op (.iad 1 (.t 56) (.t 60)))⟩,
                            ⟨(some 62), none, (.op (.ld1 (.t 61)))⟩,
                            ⟨(some 7), none, (.op (.mov (.t 62)))⟩])
                          (.seq (.reg [⟨(some 63), none, (.op (.mov (.t 6)))⟩,
                             ⟨(some 64), none, (.op (.nck (.t 63)))⟩,
                             ⟨(some 65), none, (.op (.fad 1 (.t 64)))⟩,
                             ⟨(some 66), none, (.op (.ld1 (.t 65)))⟩,
                             ⟨(some 67), none, (.op (.bin .add (.t 66) (.k (.int .i64 1))))⟩,
                             ⟨(some 68), none, (.op (.nck (.t 63)))⟩,
                             ⟨(some 69), none, (.op (.fad 1 (.t 68)))⟩,
                             ⟨none, none, (.op (.st 1 (.t 69) (.t 67)))⟩])
                           (.seq (.reg [⟨(some 70), none, (.op (.mov (.t 3)))⟩,
                              ⟨(some 71), none, (.op (.mov (.t 7)))⟩,
                              ⟨(some 72), none, (.op (.iad 1 (.t 70) (.t 71)))⟩,
                              ⟨(some 73), none, (.op (.ld1 (.t 72)))⟩])
                            (.block 6 (.seq (.reg [⟨(some 87), none, (.op (.bin .eql (.t 73) (.k (.int .i64 (-1)))))⟩,
                                ⟨(some 86), none, (.op (.mov (.t 87)))⟩])
                              (.cond (.t 86) (.reg [⟨(some 88), none, (.op (.mov (.t 6)))⟩,
                                 ⟨(some 89), none, (.op (.nck (.t 88)))⟩,
                                 ⟨(some 90), none, (.op (.fad 2 (.t 89)))⟩,
                                 ⟨none, none, (.op (.st 1 (.t 90) (.k (.int .i64 9))))⟩])
                               (.seq (.reg [⟨(some 92), none, (.op (.bin .eql (.t 73) (.k (.int .i64 0))))⟩,
                                  ⟨(some 91), none, (.op (.mov (.t 92)))⟩])
                                (.cond (.t 91) (.seq (.reg [⟨(some 93), none, (.op (.mov (.t 3)))⟩,
                                    ⟨(some 94), none, (.op (.mov (.t 7)))⟩,
                                    ⟨(some 95), none, (.op (.iad 1 (.t 93) (.t 94)))⟩,
                                    ⟨none, none, (.op (.st 1 (.t 95) (.k (.int .i64 (-1)))))⟩])
                                  (.seq (.reg [⟨(some 96), none, (.op (.mov (.t 5)))⟩,
                                     ⟨(some 97), none, (.op (.mov (.t 7)))⟩,
                                     ⟨(some 98), none, (.op (.build [(.int .i64 0), (.int .i64 0), (.int .i64 0)] [(0, 1, (.t 97))]))⟩,
                                     ⟨(some 99), none, (.op (.bsl 3 1 [(.int .i64 0), (.int .i64 0), (.int .i64 0)] [(0, 3, (.t 98))]))⟩,
                                     ⟨(some 100), none, (.op (.app 3 24 (.t 96) (.t 99)))⟩,
                                     ⟨(some 5), none, (.op (.mov (.t 100)))⟩])
                                   (.exit 3)))
                                 (.drw none [⟨(some 74), none, (.op (.mov (.t 6)))⟩,
                                   ⟨(some 75), none, (.op (.mov (.t 6)))⟩,
                                   ⟨(some 76), none, (.op (.nck (.t 75)))⟩,
                                   ⟨(some 77), none, (.op (.fad 2 (.t 76)))⟩,
                                   ⟨(some 78), none, (.op (.ld1 (.t 77)))⟩,
                                   ⟨(some 79), none, (.op (.mov (.t 3)))⟩,
                                   ⟨(some 80), none, (.op (.mov (.t 7)))⟩,
                                   ⟨(some 81), none, (.op (.iad 1 (.t 79) (.t 80)))⟩,
                                   ⟨(some 82), none, (.op (.ld1 (.t 81)))⟩,
                                   ⟨(some 83), none, (.op (.mx false (.t 78) (.t 82)))⟩,
                                   ⟨(some 84), none, (.op (.nck (.t 74)))⟩,
                                   ⟨(some 85), none, (.op (.fad 2 (.t 84)))⟩,
                                   ⟨none, none, (.op (.st 1 (.t 85) (.t 83)))⟩])))))))))))))
                     (.seq (.reg [⟨(some 101), none, (.op (.mov (.t 6)))⟩,
                        ⟨(some 102), none, (.op (.nck (.t 101)))⟩,
                        ⟨(some 103), none, (.op (.fad 2 (.t 102)))⟩,
                        ⟨(some 104), none, (.op (.ld1 (.t 103)))⟩,
                        ⟨(some 105), none, (.op (.bin .add (.t 104) (.k (.int .i64 1))))⟩,
                        ⟨(some 106), none, (.op (.mx true (.t 105) (.k (.int .i64 9))))⟩,
                        ⟨(some 8), none, (.op (.mov (.t 106)))⟩])
                      (.seq (.reg [⟨(some 107), none, (.op (.mov (.t 3)))⟩,
                         ⟨(some 108), none, (.op (.mov (.t 6)))⟩,
                         ⟨(some 109), none, (.op (.nck (.t 108)))⟩,
                         ⟨(some 110), none, (.op (.fad 0 (.t 109)))⟩,
                         ⟨(some 111), none, (.op (.ld1 (.t 110)))⟩,
                         ⟨(some 112), none, (.op (.mov (.t 8)))⟩,
                         ⟨(some 113), none, (.op (.iad 1 (.t 107) (.t 111)))⟩,
                         ⟨none, none, (.op (.st 1 (.t 113) (.t 112)))⟩])
                       (.seq (.reg [⟨(some 114), none, (.op (.mov (.t 5)))⟩,
                          ⟨(some 115), none, (.op (.mov (.t 5)))⟩,
                          ⟨(some 116), none, (.op (.lenl (.t 115)))⟩,
                          ⟨(some 117), none, (.op (.bin .sub (.t 116) (.k (.int .i64 1))))⟩,
                          ⟨(some 118), none, (.op (.sls 3 (.t 114) none (some (.t 117))))⟩,
                          ⟨(some 5), none, (.op (.mov (.t 118)))⟩])
                        (.seq (.reg [⟨(some 119), none, (.op (.mov (.t 5)))⟩,
                           ⟨(some 120), none, (.op (.lenl (.t 119)))⟩,
                           ⟨(some 121), none, (.op (.bin .gtr (.t 120) (.k (.int .i64 0))))⟩])
                         (.cond (.t 121) (.seq (.reg [⟨(some 122), none, (.op (.mov (.t 5)))⟩,
                             ⟨(some 123), none, (.op (.mov (.t 5)))⟩,
                             ⟨(some 124), none, (.op (.lenl (.t 123)))⟩,
                             ⟨(some 125), none, (.op (.bin .sub (.t 124) (.k (.int .i64 1))))⟩,
                             ⟨(some 126), none, (.op (.iad 3 (.t 122) (.t 125)))⟩,
                             ⟨(some 9), none, (.op (.mov (.t 126)))⟩])
                           (.reg [⟨(some 127), none, (.op (.mov (.t 9)))⟩,
                             ⟨(some 128), none, (.op (.mov (.t 9)))⟩,
                             ⟨(some 129), none, (.op (.nck (.t 128)))⟩,
                             ⟨(some 130), none, (.op (.fad 2 (.t 129)))⟩,
                             ⟨(some 131), none, (.op (.ld1 (.t 130)))⟩,
                             ⟨(some 132), none, (.op (.mov (.t 8)))⟩,
                             ⟨(some 133), none, (.op (.mx false (.t 131) (.t 132)))⟩,
                             ⟨(some 134), none, (.op (.nck (.t 127)))⟩,
                             ⟨(some 135), none, (.op (.fad 2 (.t 134)))⟩,
                             ⟨none, none, (.op (.st 1 (.t 135) (.t 133)))⟩]))
                          (.skip))))))))))))))))))
         (.reg [⟨(some 136), none, (.op (.bin .add (.t 15) (.k (.int .i64 1))))⟩,
           ⟨(some 15), none, (.op (.mov (.t 136)))⟩])))))))
   (.seq (.reg [⟨(some 137), none, (.op (.mov (.t 3)))⟩,
      ⟨(some 2), none, (.op (.mov (.t 137)))⟩])
    (.ret))))
def r88 : List XRes := [.t 2]
theorem res88 : resolveF Tryz.prog 88 = some (x88, r88, 138) := by kernel_rfl
def x34 : XCode := .seq (.reg [⟨(some 1), none, (.op (.box (.t 0)))⟩,
   ⟨(some 2), none, (.op (.mov (.k (.int .i64 0))))⟩,
   ⟨(some 3), none, (.op (.mov (.k (.int .i64 0))))⟩,
   ⟨(some 4), none, (.op (.mov (.k (.int .i64 0))))⟩])
 (.seq (.seq (.reg [⟨(some 18), none, (.op (.lda 4 (.t 1)))⟩,
     ⟨(some 19), none, (.call (.f 79) [(.t 18)])⟩,
     ⟨(some 17), none, (.op (.mov (.t 19)))⟩,
     ⟨(some 20), none, (.op (.ext 0 (.t 17)))⟩,
     ⟨(some 21), none, (.op (.ext 1 (.t 17)))⟩,
     ⟨(some 5), none, (.op (.mov (.t 20)))⟩,
     ⟨(some 6), none, (.op (.mov (.t 21)))⟩])
   (.seq (.reg [⟨(some 22), none, (.op (.mov (.t 6)))⟩,
      ⟨(some 23), none, (.op (.bin .neq (.t 22) (.k (.int .i64 0))))⟩])
    (.cond (.t 23) (.seq (.reg [⟨(some 2), none, (.op (.mov (.k (.int .i64 0))))⟩,
        ⟨(some 3), none, (.op (.mov (.k (.int .i64 0))))⟩,
        ⟨(some 4), none, (.op (.mov (.k (.int .i64 190))))⟩])
      (.ret))
     (.skip))))
  (.seq (.reg [⟨(some 24), none, (.op (.fad 1 (.t 1)))⟩,
     ⟨(some 25), none, (.op (.ld1 (.t 24)))⟩,
     ⟨(some 26), none, (.op (.lenl (.t 25)))⟩,
     ⟨(some 27), none, (.op (.mks 1 8 [(.int .i64 0)] (.t 26) (.t 26)))⟩,
     ⟨(some 7), none, (.op (.mov (.t 27)))⟩])
   (.seq (.seq (.reg [⟨(some 28), none, (.op (.mov (.t 7)))⟩,
       ⟨(some 29), none, (.op (.lenl (.t 28)))⟩,
       ⟨(some 30), none, (.op (.mov (.k (.int .i64 0))))⟩])
     (.block 0 (.loop (.seq (.reg [⟨(some 31), none, (.op (.bin .lss (.t 30) (.t 29)))⟩])
        (.seq (.cond (.t 31) (.skip)
          (.exit 0))
         (.seq (.block 1 (.seq (.reg [⟨(some 32), none, (.op (.mov (.t 30)))⟩,
              ⟨(some 8), none, (.op (.mov (.t 32)))⟩])
            (.reg [⟨(some 33), none, (.op (.mov (.t 7)))⟩,
              ⟨(some 34), none, (.op (.mov (.t 8)))⟩,
              ⟨(some 35), none, (.op (.mov (.t 8)))⟩,
              ⟨(some 36), none, (.op (.iad 1 (.t 33) (.t 34)))⟩,
              ⟨none, none, (.op (.st 1 (.t 36) (.t 35)))⟩])))
          (.reg [⟨(some 37), none, (.op (.bin .add (.t 30) (.k (.int .i64 1))))⟩,
            ⟨(some 30), none, (.op (.mov (.t 37)))⟩])))))))
    (.seq (.reg [⟨(some 38), none, (.op (.mov (.t 7)))⟩,
       ⟨(some 39), none, (.op (.mkf 81 [(.t 1)]))⟩,
       ⟨(some 40), none, (.call (.f 80) [(.t 38), (.t 39)])⟩])
     (.seq (.reg [⟨(some 41), none, (.call (.f 85) [])⟩,
        ⟨(some 9), none, (.op (.mov (.t 41)))⟩])
      (.seq (.seq (.reg [⟨(some 42), none, (.op (.mov (.t 7)))⟩,
          ⟨(some 43), none, (.op (.lenl (.t 42)))⟩,
          ⟨(some 44), none, (.op (.mov (.k (.int .i64 0))))⟩])
        (.block 2 (.loop (.seq (.reg [⟨(some 45), none, (.op (.bin .lss (.t 44) (.t 43)))⟩])
           (.seq (.cond (.t 45) (.skip)
             (.exit 2))
            (.seq (.block 3 (.seq (.reg [⟨(some 46), none, (.op (.iad 1 (.t 42) (.t 44)))⟩,
                 ⟨(some 47), none, (.op (.ld1 (.t 46)))⟩,
                 ⟨(some 11), none, (.op (.mov (.t 47)))⟩])
               (.seq (.drw none [⟨(some 49), none, (.op (.lda 4 (.t 1)))⟩,
                  ⟨(some 50), none, (.op (.fad 1 (.t 1)))⟩,
                  ⟨(some 51), none, (.op (.ld1 (.t 50)))⟩,
                  ⟨(some 52), none, (.op (.mov (.t 11)))⟩,
                  ⟨(some 53), none, (.op (.iad 4 (.t 51) (.t 52)))⟩,
                  ⟨(some 54), none, (.op (.lda 4 (.t 53)))⟩,
                  ⟨(some 55), none, (.call (.f 86) [(.t 49), (.t 54)])⟩,
                  ⟨(some 56), none, (.op (.mov (.t 9)))⟩,
                  ⟨(some 57), none, (.call (.f 87) [(.t 55), (.t 56)])⟩,
                  ⟨(some 48), none, (.op (.mov (.t 57)))⟩,
                  ⟨(some 58), none, (.op (.ext 0 (.t 48)))⟩,
                  ⟨(some 59), none, (.op (.ext 1 (.t 48)))⟩,
                  ⟨(some 12), none, (.op (.mov (.t 58)))⟩,
                  ⟨(some 13), none, (.op (.mov (.t 59)))⟩])
                (.seq (.reg [⟨(some 60), none, (.op (.mov (.t 13)))⟩,
                   ⟨(some 61), none, (.op (.bin .neq (.t 60) (.k (.int .i64 0))))⟩])
                 (.cond (.t 61) (.seq (.reg [⟨(some 62), none, (.op (.mov (.t 11)))⟩,
                     ⟨(some 63), none, (.op (.mov (.t 12)))⟩,
                     ⟨(some 64), none, (.op (.mov (.t 13)))⟩,
                     ⟨(some 2), none, (.op (.mov (.t 62)))⟩,
                     ⟨(some 3), none, (.op (.mov (.t 63)))⟩,
                     ⟨(some 4), none, (.op (.mov (.t 64)))⟩])
                   (.ret))
                  (.skip))))))
             (.reg [⟨(some 65), none, (.op (.bin .add (.t 44) (.k (.int .i64 1))))⟩,
               ⟨(some 44), none, (.op (.mov (.t 65)))⟩])))))))
       (.seq (.reg [⟨(some 66), none, (.op (.lda 4 (.t 1)))⟩,
          ⟨(some 67), none, (.call (.f 89) [(.t 66)])⟩,
          ⟨(some 68), none, (.call (.f 88) [(.t 67)])⟩,
          ⟨(some 14), none, (.op (.mov (.t 68)))⟩])
        (.seq (.seq (.reg [⟨(some 69), none, (.op (.mov (.t 7)))⟩,
            ⟨(some 70), none, (.op (.lenl (.t 69)))⟩,
            ⟨(some 71), none, (.op (.mov (.k (.int .i64 0))))⟩])
          (.block 4 (.loop (.seq (.reg [⟨(some 72), none, (.op (.bin .lss (.t 71) (.t 70)))⟩])
             (.seq (.cond (.t 72) (.skip)
               (.exit 4))
              (.seq (.block 5 (.seq (.reg [⟨(some 73), none, (.op (.iad 1 (.t 69) (.t 71)))⟩,
                   ⟨(some 74), none, (.op (.ld1 (.t 73)))⟩,
                   ⟨(some 16), none, (.op (.mov (.t 74)))⟩])
                 (.seq (.reg [⟨(some 75), none, (.op (.mov (.t 14)))⟩,
                    ⟨(some 76), none, (.op (.mov (.t 16)))⟩,
                    ⟨(some 77), none, (.op (.iad 1 (.t 75) (.t 76)))⟩,
                    ⟨(some 78), none, (.op (.ld1 (.t 77)))⟩,
                    ⟨(some 79), none, (.op (.bin .gtr (.t 78) (.k (.int .i64 8))))⟩])
                  (.cond (.t 79) (.seq (.reg [⟨(some 80), none, (.op (.mov (.t 16)))⟩,
                      ⟨(some 2), none, (.op (.mov (.t 80)))⟩,
                      ⟨(some 3), none, (.op (.mov (.k (.int .i64 0))))⟩,
                      ⟨(some 4), none, (.op (.mov (.k (.int .i64 198))))⟩])
                    (.ret))
                   (.skip)))))
               (.reg [⟨(some 81), none, (.op (.bin .add (.t 71) (.k (.int .i64 1))))⟩,
                 ⟨(some 71), none, (.op (.mov (.t 81)))⟩])))))))
         (.seq (.reg [⟨(some 2), none, (.op (.mov (.k (.int .i64 0))))⟩,
            ⟨(some 3), none, (.op (.mov (.k (.int .i64 0))))⟩,
            ⟨(some 4), none, (.op (.mov (.k (.int .i64 0))))⟩])
          (.ret))))))))))
def r34 : List XRes := [.t 2, .t 3, .t 4]
theorem res34 : resolveF Tryz.prog 34 = some (x34, r34, 82) := by kernel_rfl
def x81 : XCode := .seq (.reg [⟨(some 5), none, (.op (.mov (.k (.int .i64 0))))⟩])
 (.seq (.drw (some [6, 7]) [⟨(some 8), none, (.op (.fad 1 (.t 2)))⟩,
    ⟨(some 9), none, (.op (.ld1 (.t 8)))⟩,
    ⟨(some 10), none, (.op (.mov (.t 0)))⟩,
    ⟨(some 11), none, (.op (.iad 4 (.t 9) (.t 10)))⟩,
    ⟨(some 12), none, (.op (.lda 4 (.t 11)))⟩,
    ⟨(some 13), none, (.op (.fad 1 (.t 2)))⟩,
    ⟨(some 14), none, (.op (.ld1 (.t 13)))⟩,
    ⟨(some 15), none, (.op (.mov (.t 1)))⟩,
    ⟨(some 16), none, (.op (.iad 4 (.t 14) (.t 15)))⟩,
    ⟨(some 17), none, (.op (.lda 4 (.t 16)))⟩,
    ⟨(some 6), none, (.op (.alloc [(.string ⟨#[]⟩), (.int .i64 0), (.int .i64 0), (.int .i64 0)]))⟩,
    ⟨(some 7), none, (.op (.alloc [(.string ⟨#[]⟩), (.int .i64 0), (.int .i64 0), (.int .i64 0)]))⟩,
    ⟨none, none, (.op (.st 4 (.t 6) (.t 12)))⟩,
    ⟨none, none, (.op (.st 4 (.t 7) (.t 17)))⟩])
  (.seq (.drw none [⟨(some 18), none, (.op (.fad 0 (.t 6)))⟩,
     ⟨(some 19), none, (.op (.ld1 (.t 18)))⟩,
     ⟨(some 20), none, (.op (.fad 0 (.t 7)))⟩,
     ⟨(some 21), none, (.op (.ld1 (.t 20)))⟩,
     ⟨(some 22), none, (.call (.f 83) [(.t 19), (.t 21)])⟩,
     ⟨(some 23), none, (.op (.fad 1 (.t 6)))⟩,
     ⟨(some 24), none, (.op (.ld1 (.t 23)))⟩,
     ⟨(some 25), none, (.op (.fad 1 (.t 7)))⟩,
     ⟨(some 26), none, (.op (.ld1 (.t 25)))⟩,
     ⟨(some 27), none, (.call (.f 84) [(.t 24), (.t 26)])⟩,
     ⟨(some 28), none, (.op (.bsl 1 2 [(.int .i64 0), (.int .i64 0)] [(0, 1, (.t 22)), (1, 1, (.t 27))]))⟩,
     ⟨(some 29), none, (.call (.f 82) [(.t 28)])⟩,
     ⟨(some 5), none, (.op (.mov (.t 29)))⟩])
   (.ret)))
def r81 : List XRes := [.t 5]
theorem res81 : resolveF Tryz.prog 81 = some (x81, r81, 30) := by kernel_rfl
def x83 : XCode := .seq (.reg [⟨(some 4), none, (.op (.mov (.k (.int .i64 0))))⟩])
 (.seq (.reg [⟨(some 7), none, (.op (.mov (.t 0)))⟩,
    ⟨(some 8), none, (.call (.f 140) [(.t 7)])⟩,
    ⟨(some 5), none, (.op (.mov (.t 8)))⟩])
  (.seq (.reg [⟨(some 9), none, (.op (.mov (.t 1)))⟩,
     ⟨(some 10), none, (.call (.f 140) [(.t 9)])⟩,
     ⟨(some 6), none, (.op (.mov (.t 10)))⟩])
   (.seq (.seq (.reg [⟨(some 11), none, (.op (.mov (.t 5)))⟩])
     (.cond (.t 11) (.seq (.seq (.reg [⟨(some 12), none, (.op (.mov (.t 6)))⟩])
        (.cond (.t 12) (.seq (.reg [⟨(some 4), none, (.op (.mov (.k (.int .i64 0))))⟩])
          (.ret))
         (.skip)))
       (.seq (.reg [⟨(some 4), none, (.op (.mov (.k (.int .i64 (-1)))))⟩])
        (.ret)))
      (.skip)))
    (.seq (.seq (.reg [⟨(some 13), none, (.op (.mov (.t 6)))⟩])
      (.cond (.t 13) (.seq (.reg [⟨(some 4), none, (.op (.mov (.k (.int .i64 1))))⟩])
        (.ret))
       (.skip)))
     (.seq (.seq (.reg [⟨(some 14), none, (.op (.mov (.t 0)))⟩,
         ⟨(some 15), none, (.op (.mov (.t 1)))⟩,
         ⟨(some 16), none, (.op (.bin .lss (.t 14) (.t 15)))⟩])
       (.cond (.t 16) (.seq (.reg [⟨(some 4), none, (.op (.mov (.k (.int .i64 (-1)))))⟩])
         (.ret))
        (.skip)))
      (.seq (.seq (.reg [⟨(some 17), none, (.op (.mov (.t 0)))⟩,
          ⟨(some 18), none, (.op (.mov (.t 1)))⟩,
          ⟨(some 19), none, (.op (.bin .gtr (.t 17) (.t 18)))⟩])
        (.cond (.t 19) (.seq (.reg [⟨(some 4), none, (.op (.mov (.k (.int .i64 1))))⟩])
          (.ret))
         (.skip)))
       (.seq (.reg [⟨(some 4), none, (.op (.mov (.k (.int .i64 0))))⟩])
        (.ret))))))))
def r83 : List XRes := [.t 4]
theorem res83 : resolveF Tryz.prog 83 = some (x83, r83, 20) := by kernel_rfl
def x84 : XCode := .seq (.reg [⟨(some 4), none, (.op (.mov (.k (.int .i64 0))))⟩])
 (.seq (.reg [⟨(some 7), none, (.op (.mov (.t 0)))⟩,
    ⟨(some 8), none, (.call (.f 141) [(.t 7)])⟩,
    ⟨(some 5), none, (.op (.mov (.t 8)))⟩])
  (.seq (.reg [⟨(some 9), none, (.op (.mov (.t 1)))⟩,
     ⟨(some 10), none, (.call (.f 141) [(.t 9)])⟩,
     ⟨(some 6), none, (.op (.mov (.t 10)))⟩])
   (.seq (.seq (.reg [⟨(some 11), none, (.op (.mov (.t 5)))⟩])
     (.cond (.t 11) (.seq (.seq (.reg [⟨(some 12), none, (.op (.mov (.t 6)))⟩])
        (.cond (.t 12) (.seq (.reg [⟨(some 4), none, (.op (.mov (.k (.int .i64 0))))⟩])
          (.ret))
         (.skip)))
       (.seq (.reg [⟨(some 4), none, (.op (.mov (.k (.int .i64 (-1)))))⟩])
        (.ret)))
      (.skip)))
    (.seq (.seq (.reg [⟨(some 13), none, (.op (.mov (.t 6)))⟩])
      (.cond (.t 13) (.seq (.reg [⟨(some 4), none, (.op (.mov (.k (.int .i64 1))))⟩])
        (.ret))
       (.skip)))
     (.seq (.seq (.reg [⟨(some 14), none, (.op (.mov (.t 0)))⟩,
         ⟨(some 15), none, (.op (.mov (.t 1)))⟩,
         ⟨(some 16), none, (.op (.bin .lss (.t 14) (.t 15)))⟩])
       (.cond (.t 16) (.seq (.reg [⟨(some 4), none, (.op (.mov (.k (.int .i64 (-1)))))⟩])
         (.ret))
        (.skip)))
      (.seq (.seq (.reg [⟨(some 17), none, (.op (.mov (.t 0)))⟩,
          ⟨(some 18), none, (.op (.mov (.t 1)))⟩,
          ⟨(some 19), none, (.op (.bin .gtr (.t 17) (.t 18)))⟩])
        (.cond (.t 19) (.seq (.reg [⟨(some 4), none, (.op (.mov (.k (.int .i64 1))))⟩])
          (.ret))
         (.skip)))
       (.seq (.reg [⟨(some 4), none, (.op (.mov (.k (.int .i64 0))))⟩])
        (.ret))))))))
def r84 : List XRes := [.t 4]
theorem res84 : resolveF Tryz.prog 84 = some (x84, r84, 20) := by kernel_rfl
def x140 : XCode := .seq (.reg [⟨(some 2), none, (.op (.mov (.k (.bool false))))⟩])
 (.seq (.reg [⟨(some 3), none, (.op (.mov (.t 0)))⟩,
    ⟨(some 4), none, (.op (.mov (.t 0)))⟩,
    ⟨(some 5), none, (.op (.bin .neq (.t 3) (.t 4)))⟩,
    ⟨(some 2), none, (.op (.mov (.t 5)))⟩])
  (.ret))
def r140 : List XRes := [.t 2]
theorem res140 : resolveF Tryz.prog 140 = some (x140, r140, 6) := by kernel_rfl
def x141 : XCode := .seq (.reg [⟨(some 2), none, (.op (.mov (.k (.bool false))))⟩])
 (.seq (.reg [⟨(some 3), none, (.op (.mov (.t 0)))⟩,
    ⟨(some 4), none, (.op (.mov (.t 0)))⟩,
    ⟨(some 5), none, (.op (.bin .neq (.t 3) (.t 4)))⟩,
    ⟨(some 2), none, (.op (.mov (.t 5)))⟩])
  (.ret))
def r141 : List XRes := [.t 2]
theorem res141 : resolveF Tryz.prog 141 = some (x141, r141, 6) := by kernel_rfl
def x82 : XCode := .seq (.reg [⟨(some 2), none, (.op (.mov (.k (.int .i64 0))))⟩])
 (.seq (.reg [⟨(some 3), none, (.op (.mov (.k (.int .i64 0))))⟩])
  (.seq (.seq (.reg [⟨(some 6), none, (.op (.mov (.t 0)))⟩,
      ⟨(some 7), none, (.op (.lenl (.t 6)))⟩,
      ⟨(some 8), none, (.op (.mov (.k (.int .i64 0))))⟩])
    (.block 0 (.loop (.seq (.reg [⟨(some 9), none, (.op (.bin .lss (.t 8) (.t 7)))⟩])
       (.seq (.cond (.t 9) (.skip)
         (.exit 0))
        (.seq (.block 1 (.seq (.reg [⟨(some 10), none, (.op (.iad 1 (.t 6) (.t 8)))⟩,
             ⟨(some 11), none, (.op (.ld1 (.t 10)))⟩,
             ⟨(some 5), none, (.op (.mov (.t 11)))⟩])
           (.seq (.reg [⟨(some 12), none, (.op (.mov (.t 5)))⟩,
              ⟨(some 13), none, (.op (.mov (.t 3)))⟩,
              ⟨(some 14), none, (.op (.bin .neq (.t 12) (.t 13)))⟩])
            (.cond (.t 14) (.seq (.reg [⟨(some 15), none, (.op (.mov (.t 5)))⟩,
                ⟨(some 2), none, (.op (.mov (.t 15)))⟩])
              (.ret))
             (.skip)))))
         (.reg [⟨(some 16), none, (.op (.bin .add (.t 8) (.k (.int .i64 1))))⟩,
           ⟨(some 8), none, (.op (.mov (.t 16)))⟩])))))))
   (.seq (.reg [⟨(some 17), none, (.op (.mov (.t 3)))⟩,
      ⟨(some 2), none, (.op (.mov (.t 17)))⟩])
    (.ret))))
def r82 : List XRes := [.t 2]
theorem res82 : resolveF Tryz.prog 82 = some (x82, r82, 18) := by kernel_rfl
end Go.Tidy

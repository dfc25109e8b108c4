/- Part 4 of a proof: an abstract memory for the translated code, and what the functions that the law reaches do over it. -/
import Derived.Test.YtbhdjfhhgnoiiaaGreatDoorProg
import Derived.Shelf.SlSortCmp.Whole1
import Derived.Sort.Walk0
import Derived.Shelf.Lay
import Derived.Test.YtbhdjfhhgnoiiaaGreatDoorRows
import Derived.Test.YtbhdjfhhgnoiiaaGreatDoorT3
namespace Go.Tidy
open Go Go.Eng Go.Proofs
structure Fr where
  f : Nat
  nx : Nat
  dp : Int
def Rank (ls : List (List Int)) (r : Nat → Nat) : Prop := (∀ (i : Nat) xs, ls[i]? = some xs → ∀ c ∈ xs, r c.toNat < r i) ∧ ∀ i, i < ls.length → 1 ≤ r i ∧ r i ≤ 8
def Done (D : List Int) (c : Nat) (P : Int → Prop) : Prop := ∃ d, D[c]? = some d ∧ 1 ≤ d ∧ P d
def FOk (ls : List (List Int)) (D : List Int) (p : Option Nat) (a : Fr) : Prop :=
  D[a.f]? = some (-1) ∧ ∃ xs, ls[a.f]? = some xs ∧ a.nx ≤ xs.length ∧ 0 ≤ a.dp ∧ a.dp ≤ 9 ∧ (∀ q, p = some q → (q : Int) ∈ xs) ∧ ∀ c ∈ xs.take a.nx, p = some c.toNat ∨ 9 ≤ a.dp ∨ Done D c.toNat fun d => d ≤ a.dp
def StOk (ls : List (List Int)) (D : List Int) : Option Nat → List Fr → Prop
  | _, [] => True
  | p, a :: r => FOk ls D p a ∧ StOk ls D (some a.f) r
structure Dfs (ls : List (List Int)) (D : List Int) (p : Option Nat) (st : List Fr) : Prop where
  len : D.length = ls.length
  dom : ∀ (i : Nat) d, D[i]? = some d → -1 ≤ d ∧ d ≤ 9
  fin : ∀ (i : Nat) d, D[i]? = some d → 1 ≤ d → d = 9 ∨ ∀ xs, ls[i]? = some xs → ∀ c ∈ xs, Done D c.toNat fun dc => dc < d
  und : ∀ (i : Nat), D[i]? = some (-1) → ∃ a ∈ st, a.f = i
  frs : StOk ls D p st
  nd : (st.map (·.f)).Nodup
  rank : ∀ r, Rank ls r → (∀ (i : Nat) d, D[i]? = some d → 1 ≤ d → d ≤ r i) ∧ ∀ a ∈ st, a.dp < r a.f
def Turns (D D' : List Int) : Prop := D'.length = D.length ∧ ∀ (i : Nat) d, D[i]? = some d → 1 ≤ d → D'[i]? = some d
theorem Done.turn {D D' : List Int} (ht : Turns D D') {c : Nat} {P : Int → Prop} (h : Done D c P) : Done D' c P := by
  obtain ⟨d, h1, h2, h3⟩ := h
  exact ⟨d, ht.2 c d h1 h2, h2, h3⟩
theorem turns_set {D : List Int} {i : Nat} {d v : Int} (hi : D[i]? = some d) (hd : d ≤ 0) : Turns D (D.set i v) := by
  refine ⟨by simp, fun j e hj he => ?_⟩
  by_cases h : j = i
  · subst h; rw [hi] at hj; cases hj; omega
  · rw [List.getElem?_set_ne (fun q => h q.symm)]; exact hj
theorem FOk.turn {ls : List (List Int)} {D D' : List Int} {p : Option Nat} {a : Fr} (h : FOk ls D p a) (ht : Turns D D') (hu : D'[a.f]? = some (-1)) : FOk ls D' p a := by
  obtain ⟨_, xs, h1, h2, h3, h4, h5, h6⟩ := h
  refine ⟨hu, xs, h1, h2, h3, h4, h5, fun c hc => ?_⟩
  rcases h6 c hc with h | h | h
  · exact .inl h
  · exact .inr (.inl h)
  · exact .inr (.inr (h.turn ht))
theorem StOk.turn {ls : List (List Int)} {D D' : List Int} (ht : Turns D D') : ∀ {p : Option Nat} {st : List Fr}, StOk ls D p st → (∀ a ∈ st, D'[a.f]? = some (-1)) → StOk ls D' p st
  | _, [], _, _ => trivial
  | p, a :: r, h, hu => ⟨h.1.turn ht (hu a (by simp)), h.2.turn ht fun b hb => hu b (by simp [hb])⟩
theorem StOk.under {ls : List (List Int)} {D : List Int} : ∀ {p : Option Nat} {st : List Fr}, StOk ls D p st → ∀ a ∈ st, D[a.f]? = some (-1)
  | _, [], _, a, ha => by simp at ha
  | p, b :: r, h, a, ha => by
    rcases List.mem_cons.1 ha with rfl | ha
    · exact h.1.1
    · exact h.2.under a ha
theorem StOk.rise {ls : List (List Int)} {D : List Int} {r : Nat → Nat} (hr : Rank ls r) : ∀ {q : Nat} {st : List Fr}, StOk ls D (some q) st → ∀ a ∈ st, r q < r a.f
  | _, [], _, a, ha => by simp at ha
  | q, b :: rest, h, a, ha => by
    obtain ⟨⟨_, xs, h1, _, _, _, h5, _⟩, h2⟩ := h
    have hq : r q < r b.f := by
      have := hr.1 b.f xs h1 (q : Int) (h5 q rfl)
      simpa using this
    rcases List.mem_cons.1 ha with rfl | ha
    · exact hq
    · exact Nat.lt_trans hq (h2.rise hr a ha)
section
variable {ls : List (List Int)} {D : List Int} {st : List Fr} {a : Fr}
theorem dfs_start : Dfs ls (List.replicate ls.length 0) none [] := by
  refine ⟨by simp, ?_, ?_, ?_, trivial, List.nodup_nil, ?_⟩
  · intro i d h
    have := List.eq_of_mem_replicate (List.mem_of_getElem? h)
    omega
  · intro i d h h1
    have := List.eq_of_mem_replicate (List.mem_of_getElem? h)
    omega
  · intro i h
    have := List.eq_of_mem_replicate (List.mem_of_getElem? h)
    omega
  · intro r hr
    refine ⟨fun i d h h1 => ?_, fun a ha => by simp at ha⟩
    have := List.eq_of_mem_replicate (List.mem_of_getElem? h)
    omega
theorem set_get {D : List Int} {i : Nat} {v : Int} (hi : i < D.length) {j : Nat} {d : Int} (h : (D.set i v)[j]? = some d) : (j = i ∧ d = v) ∨ (j ≠ i ∧ D[j]? = some d) := by
  by_cases hj : j = i
  · subst hj
    rw [List.getElem?_set_self hi] at h
    exact .inl ⟨rfl, by simpa using h.symm⟩
  · rw [List.getElem?_set_ne (fun q => hj q.symm)] at h
    exact .inr ⟨hj, h⟩
theorem Dfs.push {p : Option Nat} {c : Nat} (h : Dfs ls D p st) (hp : StOk ls D (some c) st) (hc : D[c]? = some 0) : Dfs ls (D.set c (-1)) none (⟨c, 0, 0⟩ :: st) := by
  have hi := (List.getElem?_eq_some_iff.1 hc).1
  have ht : Turns D (D.set c (-1)) := turns_set hc (by omega)
  have hlen := h.len
  have hself : (D.set c (-1))[c]? = some (-1) := List.getElem?_set_self hi
  have hcl : c < ls.length := by omega
  refine ⟨by simp [hlen], ?_, ?_, ?_, ?_, ?_, ?_⟩
  · intro i d hd
    rcases set_get hi hd with ⟨_, rfl⟩ | ⟨_, hd⟩
    · omega
    · exact h.dom i d hd
  · intro i d hd h1
    rcases set_get hi hd with ⟨_, rfl⟩ | ⟨_, hd⟩
    · omega
    · rcases h.fin i d hd h1 with q | q
      · exact .inl q
      · exact .inr fun xs hx c' hc' => (q xs hx c' hc').turn ht
  · intro i hd
    rcases set_get hi hd with ⟨rfl, _⟩ | ⟨_, hd⟩
    · exact ⟨_, List.mem_cons_self, rfl⟩
    · obtain ⟨b, hb, q⟩ := h.und i hd
      exact ⟨b, List.mem_cons_of_mem _ hb, q⟩
  · refine ⟨⟨hself, ls[c], List.getElem?_eq_getElem hcl, Nat.zero_le _, by simp, by simp, fun q hq => by simp at hq, fun c' hc' => by simp at hc'⟩, ?_⟩
    refine hp.turn ht fun b hb => ?_
    have := hp.under b hb
    by_cases hbc : b.f = c
    · rw [hbc]; exact hself
    · rw [List.getElem?_set_ne (fun q => hbc q.symm)]; exact this
  · simp only [List.map_cons, List.nodup_cons]
    refine ⟨fun hm => ?_, h.nd⟩
    obtain ⟨b, hb, q⟩ := List.mem_map.1 hm
    have := hp.under b hb
    rw [q, hc] at this
    simp at this
  · intro r hr
    obtain ⟨r1, r2⟩ := h.rank r hr
    refine ⟨?_, ?_⟩
    · intro i d hd h1
      rcases set_get hi hd with ⟨_, rfl⟩ | ⟨_, hd⟩
      · omega
      · exact r1 i d hd h1
    · intro b hb
      rcases List.mem_cons.1 hb with rfl | hb
      · have := (hr.2 c (by omega)).1
        simp
        omega
      · exact r2 b hb
theorem Dfs.step {c : Int} (h : Dfs ls D none (a :: st)) {xs : List Int} (hx : ls[a.f]? = some xs) (hc : xs[a.nx]? = some c) {d v : Int} (hd : D[c.toNat]? = some d) (hv : (d = -1 ∧ v = 9) ∨ (1 ≤ d ∧ v = max a.dp d)) : Dfs ls D none (⟨a.f, a.nx + 1, v⟩ :: st) := by
  obtain ⟨⟨hu, xs', h1, h2, h3, h4, h5, h6⟩, h7⟩ := h.frs
  rw [hx] at h1
  cases h1
  have hcm := List.mem_of_getElem? hc
  have hdom := h.dom _ _ hd
  have hlt := (List.getElem?_eq_some_iff.1 hc).1
  refine ⟨h.len, h.dom, h.fin, ?_, ⟨⟨hu, xs, hx, hlt, ?_, ?_, fun q hq => by simp at hq, ?_⟩, h7⟩, h.nd, ?_⟩
  · intro i hi
    obtain ⟨b, hb, q⟩ := h.und i hi
    rcases List.mem_cons.1 hb with rfl | hb
    · exact ⟨_, List.mem_cons_self, q⟩
    · exact ⟨b, List.mem_cons_of_mem _ hb, q⟩
  · simp only; omega
  · simp only; omega
  · intro c' hc'
    simp only at hc' ⊢
    rw [List.take_succ_eq_append_getElem hlt, List.mem_append] at hc'
    rcases hc' with hc' | hc'
    · rcases h6 c' hc' with q | q | ⟨e, q1, q2, q3⟩
      · simp at q
      · exact .inr (.inl (by omega))
      · rcases hv with ⟨_, rfl⟩ | ⟨_, rfl⟩
        · exact .inr (.inl (by omega))
        · exact .inr (.inr ⟨e, q1, q2, by omega⟩)
    · have he : xs[a.nx] = c := (List.getElem?_eq_some_iff.1 hc).2
      rw [List.mem_singleton, he] at hc'
      subst hc'
      rcases hv with ⟨_, rfl⟩ | ⟨h1, rfl⟩
      · exact .inr (.inl (by omega))
      · exact .inr (.inr ⟨d, hd, h1, by omega⟩)
  · intro r hr
    obtain ⟨r1, r2⟩ := h.rank r hr
    refine ⟨r1, ?_⟩
    have hrc := hr.1 a.f xs hx c hcm
    intro b hb
    rcases List.mem_cons.1 hb with rfl | hb
    · simp only
      rcases hv with ⟨rfl, rfl⟩ | ⟨h1, rfl⟩
      · exfalso
        obtain ⟨b, hb, q⟩ := h.und _ hd
        rcases List.mem_cons.1 hb with rfl | hb
        · rw [q] at hrc; omega
        · have := h7.rise hr b hb
          rw [q] at this
          omega
      · have := r1 _ _ hd h1
        have := r2 a List.mem_cons_self
        omega
    · exact r2 b (List.mem_cons_of_mem _ hb)
theorem Dfs.down {c : Int} (h : Dfs ls D none (a :: st)) {xs : List Int} (hx : ls[a.f]? = some xs) (hc : xs[a.nx]? = some c) (h0 : 0 ≤ c) (hd : D[c.toNat]? = some 0) : Dfs ls (D.set c.toNat (-1)) none (⟨c.toNat, 0, 0⟩ :: ⟨a.f, a.nx + 1, a.dp⟩ :: st) := by
  obtain ⟨⟨hu, xs', h1, h2, h3, h4, h5, h6⟩, h7⟩ := h.frs
  rw [hx] at h1
  cases h1
  have hlt := (List.getElem?_eq_some_iff.1 hc).1
  have hcm := List.mem_of_getElem? hc
  have hfr : StOk ls D (some c.toNat) (⟨a.f, a.nx + 1, a.dp⟩ :: st) := by
    refine ⟨⟨hu, xs, hx, hlt, h3, h4, ?_, ?_⟩, h7⟩
    · intro q hq
      simp only [Option.some.injEq] at hq
      subst hq
      have : ((c.toNat : Nat) : Int) = c := by omega
      rw [this]; exact hcm
    · intro c' hc'
      simp only at hc' ⊢
      rw [List.take_succ_eq_append_getElem hlt, List.mem_append] at hc'
      rcases hc' with hc' | hc'
      · rcases h6 c' hc' with q | q | q
        · simp at q
        · exact .inr (.inl q)
        · exact .inr (.inr q)
      · have he : xs[a.nx] = c := (List.getElem?_eq_some_iff.1 hc).2
        rw [List.mem_singleton, he] at hc'
        subst hc'
        exact .inl rfl
  have h' : Dfs ls D (some c.toNat) (⟨a.f, a.nx + 1, a.dp⟩ :: st) := by
    refine ⟨h.len, h.dom, h.fin, ?_, hfr, h.nd, ?_⟩
    · intro i hi
      obtain ⟨b, hb, q⟩ := h.und i hi
      rcases List.mem_cons.1 hb with rfl | hb
      · exact ⟨_, List.mem_cons_self, q⟩
      · exact ⟨b, List.mem_cons_of_mem _ hb, q⟩
    · intro r hr
      obtain ⟨r1, r2⟩ := h.rank r hr
      refine ⟨r1, fun b hb => ?_⟩
      rcases List.mem_cons.1 hb with rfl | hb
      · exact r2 a List.mem_cons_self
      · exact r2 b (List.mem_cons_of_mem _ hb)
  exact h'.push hfr hd
def liftD (d : Int) : List Fr → List Fr
  | [] => []
  | b :: r => ⟨b.f, b.nx, max b.dp d⟩ :: r
theorem Dfs.pop (h : Dfs ls D none (a :: st)) {xs : List Int} (hx : ls[a.f]? = some xs) (hn : a.nx = xs.length) : Dfs ls (D.set a.f (min (a.dp + 1) 9)) none (liftD (min (a.dp + 1) 9) st) := by
  obtain ⟨⟨hu, xs', h1, h2, h3, h4, h5, h6⟩, h7⟩ := h.frs
  rw [hx] at h1
  cases h1
  have hi := (List.getElem?_eq_some_iff.1 hu).1
  have hnd := h.nd
  simp only [List.map_cons, List.nodup_cons] at hnd
  have hne : ∀ b ∈ st, b.f ≠ a.f := fun b hb q => hnd.1 (by rw [← q]; exact List.mem_map_of_mem hb)
  have ht : Turns D (D.set a.f (min (a.dp + 1) 9)) := turns_set hu (by omega)
  have hself : (D.set a.f (min (a.dp + 1) 9))[a.f]? = some (min (a.dp + 1) 9) := List.getElem?_set_self hi
  have hall : 9 ≤ a.dp ∨ ∀ c ∈ xs, Done D c.toNat fun d => d ≤ a.dp := by
    by_cases h9 : 9 ≤ a.dp
    · exact .inl h9
    · right
      intro c hc
      rcases h6 c (by rw [hn, List.take_length]; exact hc) with q | q | q
      · simp at q
      · exact absurd q h9
      · exact q
  have hst : StOk ls (D.set a.f (min (a.dp + 1) 9)) (some a.f) st := h7.turn ht fun b hb => by
    rw [List.getElem?_set_ne (fun q => hne b hb q.symm)]
    exact h7.under b hb
  refine ⟨by simp [h.len], ?_, ?_, ?_, ?_, by cases st <;> exact hnd.2, ?_⟩
  · intro i d hd
    rcases set_get hi hd with ⟨_, rfl⟩ | ⟨_, hd⟩
    · omega
    · exact h.dom i d hd
  · intro i d hd hd1
    rcases set_get hi hd with ⟨rfl, rfl⟩ | ⟨_, hd⟩
    · by_cases h9 : 9 ≤ a.dp
      · left; omega
      · rcases hall with q | q
        · exact absurd q h9
        · right
          intro ys hy c hc
          rw [hx] at hy
          cases hy
          obtain ⟨e, e1, e2, e3⟩ := q c hc
          exact ⟨e, ht.2 _ _ e1 e2, e2, by omega⟩
    · rcases h.fin i d hd hd1 with q | q
      · exact .inl q
      · exact .inr fun ys hy c hc => (q ys hy c hc).turn ht
  · intro i hd
    rcases set_get hi hd with ⟨_, q⟩ | ⟨hne', hd⟩
    · omega
    · obtain ⟨b, hb, q⟩ := h.und i hd
      rcases List.mem_cons.1 hb with rfl | hb
      · exact absurd q.symm hne'
      · cases st with
        | nil => simp at hb
        | cons b0 r =>
          rcases List.mem_cons.1 hb with rfl | hb
          · exact ⟨_, List.mem_cons_self, q⟩
          · exact ⟨b, List.mem_cons_of_mem _ hb, q⟩
  · cases st with
    | nil => trivial
    | cons b r =>
      obtain ⟨⟨q0, ys, q1, q2, q3, q4, q5, q6⟩, q7⟩ := hst
      refine ⟨⟨q0, ys, q1, q2, by simp only; omega, by simp only; omega, fun q hq => by simp at hq, fun c hc => ?_⟩, q7⟩
      simp only at hc ⊢
      rcases q6 c hc with q | q | ⟨e, e1, e2, e3⟩
      · simp only [Option.some.injEq] at q
        right; right
        refine ⟨min (a.dp + 1) 9, by rw [← q]; exact hself, by omega, by omega⟩
      · exact .inr (.inl (by omega))
      · exact .inr (.inr ⟨e, e1, e2, by omega⟩)
  · intro r hr
    obtain ⟨r1, r2⟩ := h.rank r hr
    have ha := r2 a List.mem_cons_self
    refine ⟨?_, ?_⟩
    · intro i d hd hd1
      rcases set_get hi hd with ⟨rfl, rfl⟩ | ⟨_, hd⟩
      · omega
      · exact r1 i d hd hd1
    · intro b hb
      cases st with
      | nil => simp [liftD] at hb
      | cons b0 rr =>
        have hrise := h7.rise hr
        rcases List.mem_cons.1 hb with rfl | hb
        · simp only
          have := hrise b0 List.mem_cons_self
          have := r2 b0 (by simp)
          omega
        · exact r2 b (by simp [hb])
def unseen : List Int → Nat
  | [] => 0
  | d :: r => (if d = 0 then 1 else 0) + unseen r
theorem unseen_set : ∀ {D : List Int} {i : Nat} {d v : Int}, D[i]? = some d → v ≠ 0 → unseen (D.set i v) + (if d = 0 then 1 else 0) = unseen D
  | [], i, d, v, h, _ => by simp at h
  | x :: r, 0, d, v, h, hv => by
    simp at h
    subst h
    simp [unseen, hv]
    omega
  | x :: r, i + 1, d, v, h, hv => by
    have := unseen_set (D := r) (i := i) (d := d) (v := v) (by simpa using h) hv
    simp only [List.set_cons_succ, unseen]
    omega
theorem unseen_le : ∀ D : List Int, unseen D ≤ D.length
  | [] => Nat.le_refl _
  | d :: r => by
    have := unseen_le r
    simp only [unseen, List.length_cons]
    split <;> omega
theorem unseen_zero (n : Nat) : unseen (List.replicate n 0) = n := by
  induction n with
  | zero => rfl
  | succ n ih => simp only [List.replicate_succ, unseen, ih, if_true]; omega
theorem Dfs.done (h : Dfs ls D none []) (hall : ∀ (i : Nat) d, D[i]? = some d → d ≠ 0) (hin : ∀ xs ∈ ls, ∀ c ∈ xs, 0 ≤ c ∧ c < ls.length) : (∀ d ∈ D, d ≤ 8) ↔ RankOk ls := by
  have hpos : ∀ (i : Nat) d, D[i]? = some d → 1 ≤ d := by
    intro i d hd
    have h1 := h.dom i d hd
    have h2 := hall i d hd
    have h3 : d ≠ -1 := by
      rintro rfl
      obtain ⟨a, ha, _⟩ := h.und i hd
      simp at ha
    omega
  constructor
  · intro h8
    refine ⟨fun i => (D.getD i 1).toNat, ?_, ?_⟩
    · intro i xs hi c hc
      have hlt := (List.getElem?_eq_some_iff.1 hi).1
      have hlen := h.len
      have hd := List.getElem?_eq_getElem (show i < D.length by omega)
      rcases h.fin i _ hd (hpos i _ hd) with q | q
      · have := h8 _ (List.getElem_mem (show i < D.length by omega))
        omega
      · obtain ⟨e, e1, e2, e3⟩ := q xs hi c hc
        simp only [List.getD_eq_getElem?_getD, e1, hd, Option.getD_some]
        omega
    · intro i hi
      have hlen := h.len
      have hd := List.getElem?_eq_getElem (show i < D.length by omega)
      have h1 := hpos i _ hd
      have h2 := h8 _ (List.getElem_mem (show i < D.length by omega))
      simp only [List.getD_eq_getElem?_getD, hd, Option.getD_some]
      omega
  · rintro ⟨r, hr1, hr2⟩ d hd
    obtain ⟨i, hi⟩ := List.mem_iff_getElem?.1 hd
    have hlt := (List.getElem?_eq_some_iff.1 hi).1
    have := ((h.rank r ⟨hr1, hr2⟩).1 i d hi (hpos i d hi))
    have := (hr2 i (by have := h.len; omega)).2
    omega
end
end Go.Tidy
namespace Go.Tidy
open Go Go.Eng Go.Proofs
variable {cx : Cx}
theorem mxF (a b : Int) : xMx false (VI a) (VI b) = some (VI (max a b)) := by
  simp only [xMx, if_true, Bool.false_eq_true, if_false]
  congr 3
  split <;> omega
theorem mxT (a b : Int) : xMx true (VI a) (VI b) = some (VI (min a b)) := by
  simp only [xMx, if_true]
  congr 3
  split <;> omega
def frC (a : Fr) : List AV := [VI a.f, VI a.nx, VI a.dp]
def stC (st : List Fr) : List AV := st.reverse.flatMap frC
theorem stC_cons (a : Fr) (st : List Fr) : stC (a :: st) = stC st ++ frC a := by
  unfold stC
  rw [List.reverse_cons, List.flatMap_append]
  simp
theorem stC_len (st : List Fr) : (stC st).length = st.length * 3 := by
  unfold stC
  rw [cells_len (sz := 3) (fun _ => rfl), List.length_reverse]
theorem SlL.call {h : AH} {v : AV} {ls : List (List Int)} (s : SlL h v ls) {f : Nat} {xs : List Int} (hf : ls[f]? = some xs) :
    ∃ lp c, xIad 1 v (VI f) = some lp ∧ (∀ g, xLd1 (h ++ g) lp = some c) ∧ xLenL c = some (VI xs.length) ∧ ∀ (k : Nat) x, xs[k]? = some x → ∃ p, xIad 1 c (VI k) = some p ∧ ∀ g, xLd1 (h ++ g) p = some (VI x) := by
  obtain ⟨id, ver, cells, rfl, hrd, hl, hc⟩ := s
  have hlt := (List.getElem?_eq_some_iff.1 hf).1
  have hcell := List.getElem?_eq_getElem (show f < cells.length by omega)
  refine ⟨.ptr id ver (0 + f * 1), cells[f], ?_, ?_, ?_, ?_⟩
  · simp [xIad, hlt]
  · intro g
    simp [xLd1, hrd g, hcell]
  · exact (hc f _ xs hcell hf []).1
  · intro k x hx
    obtain ⟨p, hp, _⟩ := (hc f _ xs hcell hf []).2 k x hx
    refine ⟨p, hp, fun g => ?_⟩
    obtain ⟨p', hp', hl'⟩ := (hc f _ xs hcell hf g).2 k x hx
    rw [hp] at hp'
    cases hp'
    exact hl'
theorem SlL.len {h : AH} {v : AV} {ls : List (List Int)} (s : SlL h v ls) : xLenL v = some (VI ls.length) := by
  obtain ⟨id, ver, cells, rfl, _⟩ := s
  rfl
section
variable {B : List AV} {m : Nat}
theorem fr_r0 (h : B.length = m * 3) (x : AV) (l : List AV) : (B ++ x :: l)[m * 3]? = some x := by rw [← h]; simp
theorem fr_r1 (h : B.length = m * 3) (x y : AV) (l : List AV) : (B ++ x :: y :: l)[m * 3 + 1]? = some y := by rw [← h, List.getElem?_append_right (by omega)]; simp
theorem fr_r2 (h : B.length = m * 3) (x y z : AV) (l : List AV) : (B ++ x :: y :: z :: l)[m * 3 + 2]? = some z := by rw [← h, List.getElem?_append_right (by omega)]; simp
theorem fr_t1 (h : B.length = m * 3) (x : AV) (l : List AV) : List.take (m * 3 + 1) (B ++ x :: l) = B ++ [x] := by rw [← h, List.take_length_add_append]; rfl
theorem fr_t2 (h : B.length = m * 3) (x y : AV) (l : List AV) : List.take (m * 3 + 2) (B ++ x :: y :: l) = B ++ [x, y] := by rw [← h, List.take_length_add_append]; rfl
theorem fr_t3 (h : B.length = m * 3) (x y z : AV) (l : List AV) : List.take ((m + 1) * 3) (B ++ x :: y :: z :: l) = B ++ [x, y, z] := by
  have : (m + 1) * 3 = B.length + 3 := by omega
  rw [this, List.take_length_add_append]; rfl
theorem fr_d1 (h : B.length = m * 3) (x y : AV) (l : List AV) : List.drop (m * 3 + 1 + 1) (B ++ x :: y :: l) = l := by rw [← h, Nat.add_assoc, ← List.drop_drop, List.drop_left]; rfl
theorem fr_d2 (h : B.length = m * 3) (x y z : AV) (l : List AV) : List.drop (m * 3 + 2 + 1) (B ++ x :: y :: z :: l) = l := by rw [← h, Nat.add_assoc, ← List.drop_drop, List.drop_left]; rfl
theorem fr_d3 (h : B.length = m * 3) (x y z a b c : AV) (l : List AV) : List.drop ((m + 1) * 3 + 3) (B ++ x :: y :: z :: a :: b :: c :: l) = l := by
  have : (m + 1) * 3 + 3 = B.length + 6 := by omega
  rw [this, ← List.drop_drop, List.drop_left]; rfl
end
set_option maxRecDepth 100000 in
set_option maxHeartbeats 8000000 in
theorem c88 (hO : On cx) {h : AH} {lv : AV} {ls : List (List Int)} (hs : SlL h lv ls) (hn : ls.length < 1099511627776) (hin : ∀ xs ∈ ls, ∀ c ∈ xs, 0 ≤ c ∧ c < ls.length) (hxl : ∀ xs ∈ ls, xs.length < 1099511627776) :
    SimCall cx 88 [lv] h fun r h' => ∃ g D, h' = h ++ g ∧ D.length = ls.length ∧ SlT fI 1 (h ++ g) r D ∧ ((∀ d ∈ D, d ≤ 8) ↔ RankOk ls) := by
  have h00 : (0 : Int) ≤ ls.length := by omega
  have h8 : (ls.length : Int) * ((8 : Nat) : Int) ≤ 281474976710656 := by omega
  have hbig : (ls.length : Int) < 9223372036854775808 := by omega
  have hfl : ∀ n : Nat, (List.replicate n [VI 0]).flatten = (List.replicate n (0 : Int)).map VI := by
    intro n
    induction n with
    | zero => rfl
    | succ n ih => rw [List.replicate_succ, List.flatten_cons, ih]; rfl
  refine SimCall.by hO.P res88 ?_
  unfold x88 r88
  repeat' first
    | simp (maxSteps := 1000000) only [go_sem, hs.len, h00, h8, hbig, Int.le_refl, Int.toNat_natCast, hfl]
  refine SimLoop.inv [0, 2, 9, 0, 0] (fun k s => ∃ (i : Nat) (G : AH) (D : List Int), k = ls.length - i ∧ i ≤ ls.length ∧ Dfs ls D none [] ∧ (∀ (k : Nat) d, k < i → D[k]? = some d → d ≠ 0) ∧
    s = ⟨[lv, .un, .un, .sl h.length 0 0 ls.length 1, .un, .un, .un, .un, .un, .un, .un, .un, .un, lv, VI ls.length, VI i, .un, .un, .un, .un, .un, .un, .un, .un, .un, .un, .un, .un, .un, .un, .un, .un, .un, .un, .un, .un, .un, .un, .un, .un, .un, .un, .un, .un, .un, .un, .un, .un, .un, .un, .un, .un, .un, .un, .un, .un, .un, .un, .un, .un, .un, .un, .un, .un, .un, .un, .un, .un, .un, .un, .un, .un, .un, .un, .un, .un, .un, .un, .un, .un, .un, .un, .un, .un, .un, .un, .un, .un, .un, .un, .un, .un, .un, .un, .un, .un, .un, .un, .un, .un, .un, .un, .un, .un, .un, .un, .un, .un, .un, .un, .un, .un, .un, .un, .un, .un, .un, .un, .un, .un, .un, .un, .un, .un, .un, .un, .un, .un, .un, .un, .un, .un, .un, .un, .un, .un, .un, .un], h ++ (.cells 0 (D.map VI) :: G)⟩) ?_ ls.length ?_
  rotate_left
  · exact ⟨0, [], _, rfl, Nat.zero_le _, dfs_start, fun k d hk => absurd hk (by omega), by simp only [go_sem]; rfl⟩
  rintro k s ⟨i, G, D, rfl, hi, hD, hnz, rfl⟩
  by_cases hlt : i < ls.length
  · have hlt' : ((i : Int) < ls.length) := by omega
    have h0i : (0 : Int) ≤ i := by omega
    have hw := wrap_succ hlt (by omega)
    have hDl := hD.len
    have hDi0 := List.getElem?_eq_getElem (show i < D.length by omega)
    have hDi : (D.map VI)[i]? = some (VI D[i]) := by rw [List.getElem?_map, hDi0]; rfl
    generalize D[i] = d at hDi hDi0
    have hset : ∀ y : Int, (D.map VI).take i ++ VI y :: (D.map VI).drop (i + 1) = (D.set i y).map VI := by
      intro y
      rw [set_mid _ (by simp; omega), List.map_set]
    have hil : i + 1 ≤ (D.map VI).length := by simp; omega
    repeat' first
      | ((with_reducible show wx _ (XCode.cond _ _ _) _ _); refine wx_if rfl (fun _ => ?_) (fun _ => ?_))
      | simp (maxSteps := 1000000) only [go_sem, hlt', h0i, hw, hDi, hset, hil, Int.toNat_natCast, Nat.mul_one, Nat.zero_add]
    · rename_i e
      simp at e
      refine ⟨ls.length - (i + 1), by omega, i + 1, _, _, rfl, by omega, hD, ?_, rfl⟩
      intro k d' hk hd'
      by_cases hki : k = i
      · subst hki
        rw [hDi0] at hd'
        simp only [Option.some.injEq] at hd'
        omega
      · exact hnz k d' (by omega) hd'
    · rename_i e
      simp at e
      subst e
      have hD1 := hD.push (c := i) trivial hDi0
      refine SimLoop.inv [0, 2, 1, 7, 0, 0] (fun k s => ∃ (D : List Int) (st : List Fr) (g1 g2 : AH) (ver : Nat) (rest : List AV), k = 2 * unseen D + st.length ∧ unseen D + st.length ≤ ls.length ∧ Dfs ls D none st ∧ (∀ (k : Nat) d, k < i + 1 → D[k]? = some d → d ≠ 0) ∧
        s = ⟨[lv, .un, .un, .sl h.length 0 0 ls.length 1, .un, .sl (h.length + (g1.length + 1)) ver 0 st.length 3, .un, .un, .un, .un, .un, .un, .un, lv, VI ls.length, VI i, .un, .un, .un, .un, .un, .un, .un, .un, .un, .un, .un, .un, .un, .un, .un, .un, .un, .un, .un, .un, .un, .un, .un, .un, .un, .un, .un, .un, .un, .un, .un, .un, .un, .un, .un, .un, .un, .un, .un, .un, .un, .un, .un, .un, .un, .un, .un, .un, .un, .un, .un, .un, .un, .un, .un, .un, .un, .un, .un, .un, .un, .un, .un, .un, .un, .un, .un, .un, .un, .un, .un, .un, .un, .un, .un, .un, .un, .un, .un, .un, .un, .un, .un, .un, .un, .un, .un, .un, .un, .un, .un, .un, .un, .un, .un, .un, .un, .un, .un, .un, .un, .un, .un, .un, .un, .un, .un, .un, .un, .un, .un, .un, .un, .un, .un, .un, .un, .un, .un, .un, .un, .un], h ++ (.cells 0 (D.map VI) :: (g1 ++ .cells ver (stC st ++ rest) :: g2))⟩) ?_ (2 * unseen (D.set i (-1)) + 1) ?_
      rotate_left
      · refine ⟨D.set i (-1), [⟨i, 0, 0⟩], G, [], 0, [], rfl, ?_, hD1, ?_, by simp only [go_sem]; rfl⟩
        · have h1 := unseen_set hDi0 (v := -1) (by decide)
          have h2 : unseen D ≤ ls.length := by rw [← hDl]; exact unseen_le D
          simp at h1
          simp
          omega
        · intro k d' hk hd'
          rcases set_get (by omega) hd' with ⟨_, rfl⟩ | ⟨hne, hd'⟩
          · decide
          · exact hnz k d' (by omega) hd'
      clear hDi hset hil hD1 hDi0 hnz hD hDl
      clear D G
      rintro k s ⟨D, st, g1, g2, ver, rest, rfl, hun, hD, hnz, rfl⟩
      cases st with
      | nil =>
        have hlf : ¬ (0 : Int) < ((0 : Nat) : Int) := by decide
        repeat' first
          | simp (maxSteps := 1000000) only [go_sem, hlf, hw]
        exact ⟨ls.length - (i + 1), by omega, i + 1, _, _, rfl, by omega, hD, hnz, rfl⟩
      | cons a st =>
        obtain ⟨f, nx, dp⟩ := a
        have hfr := hD.frs.1
        obtain ⟨hfu, xs, hxs, hnx, hdp0, hdp9, _, _⟩ := hfr
        simp only at hfu hxs hnx hdp0 hdp9
        have hxsl := hxl xs (List.mem_of_getElem? hxs)
        have hfl2 := (List.getElem?_eq_some_iff.1 hxs).1
        obtain ⟨lp, lc, hl1, hl2, hl3, hl4⟩ := hs.call hxs
        have hpos : (0 : Int) < ((st.length + 1 : Nat) : Int) := by omega
        have hstl : st.length + 1 ≤ ls.length := by simp at hun; omega
        have hwl : IntKind.i64.wrap (((st.length + 1 : Nat) : Int) - 1) = (st.length : Int) := by rw [wrap_id (by omega) (by omega)]; omega
        have h0s : (0 : Int) ≤ (st.length : Int) := by omega
        have hss : (st.length : Int) < ((st.length + 1 : Nat) : Int) := by omega
        have hBl := stC_len st
        rw [stC_cons]
        generalize hBg : stC st = B at hBl
        have hfrc : frC ⟨f, nx, dp⟩ = [VI f, VI nx, VI dp] := rfl
        rw [hfrc]
        repeat' first
          | simp (maxSteps := 1000000) only [go_sem, hpos, hwl, h0s, hss, Int.toNat_natCast, Nat.zero_add]
        refine SimLoop.inv [0, 2, 1, 0, 6, 0, 0] (fun k s => ∃ (nx : Nat) (dp : Int) (g2 : AH), k = xs.length - nx ∧ nx ≤ xs.length ∧ Dfs ls D none (⟨f, nx, dp⟩ :: st) ∧
          s = ⟨[lv, .un, .un, .sl h.length 0 0 ls.length 1, .un, .sl (h.length + (g1.length + 1)) ver 0 (st.length + 1) 3, .ptr (h.length + (g1.length + 1)) ver (st.length * 3), .un, .un, .un, .un, .un, .un, lv, VI ls.length, VI i, .un, .un, .un, .un, .un, .un, .un, .un, .un, .un, .un, .un, .un, .un, .un, .un, .un, .un, .un, .un, .un, .un, .un, .un, .un, .un, .un, .un, .un, .un, .un, .un, .un, .un, .un, .un, .un, .un, .un, .un, .un, .un, .un, .un, .un, .un, .un, .un, .un, .un, .un, .un, .un, .un, .un, .un, .un, .un, .un, .un, .un, .un, .un, .un, .un, .un, .un, .un, .un, .un, .un, .un, .un, .un, .un, .un, .un, .un, .un, .un, .un, .un, .un, .un, .un, .un, .un, .un, .un, .un, .un, .un, .un, .un, .un, .un, .un, .un, .un, .un, .un, .un, .un, .un, .un, .un, .un, .un, .un, .un, .un, .un, .un, .un, .un, .un, .un, .un, .un, .un, .un, .un],
            h ++ (.cells 0 (D.map VI) :: (g1 ++ .cells ver (B ++ VI f :: VI nx :: VI dp :: rest) :: g2))⟩) ?_ (xs.length - nx) ?_
        rotate_left
        · exact ⟨nx, dp, g2, rfl, hnx, hD, by simp only [go_sem]⟩
        clear hD hnx hdp0 hdp9
        rintro k s ⟨nx, dp, g2, rfl, hnx, hD, rfl⟩
        have hDl := hD.len
        have hdp := hD.frs.1
        obtain ⟨_, _, _, _, hdp0, hdp9, _, _⟩ := hdp
        simp only at hdp0 hdp9
        have r0 := fr_r0 hBl
        have r1 := fr_r1 hBl
        have r2 := fr_r2 hBl
        have t1 := fr_t1 hBl
        have t2 := fr_t2 hBl
        have t3 := fr_t3 hBl
        have d1 := fr_d1 hBl
        have d2 := fr_d2 hBl
        have d3 := fr_d3 hBl
        have l1 : ∀ m : Nat, st.length * 3 + 1 + 1 ≤ B.length + (m + 1 + 1 + 1) := fun m => by omega
        have l2 : ∀ m : Nat, st.length * 3 + 2 + 1 ≤ B.length + (m + 1 + 1 + 1) := fun m => by omega
        by_cases hlx : nx < xs.length
        · have hlx' : ((nx : Int) < xs.length) := by omega
          have hc0 := List.getElem?_eq_getElem hlx
          obtain ⟨hcl, hcr⟩ := hin xs (List.mem_of_getElem? hxs) _ (List.getElem_mem hlx)
          obtain ⟨p, hp1, hp2⟩ := hl4 nx _ hc0
          generalize xs[nx] = c at hc0 hcl hcr hp1 hp2
          obtain ⟨ck, rfl⟩ := Int.eq_ofNat_of_zero_le hcl
          have hck : ck < D.length := by omega
          have hDc0 := List.getElem?_eq_getElem hck
          have hDc : (D.map VI)[ck]? = some (VI D[ck]) := by rw [List.getElem?_map, hDc0]; rfl
          generalize D[ck] = d at hDc hDc0
          have hwn : IntKind.i64.wrap ((nx : Int) + 1) = ((nx + 1 : Nat) : Int) := by rw [wrap_id (by omega) (by omega)]; rfl
          have hset : ∀ y : Int, (D.map VI).take ck ++ VI y :: (D.map VI).drop (ck + 1) = (D.set ck y).map VI := by
            intro y
            rw [set_mid _ (by simp; omega), List.map_set]
          have hil : ck + 1 ≤ (D.map VI).length := by simp; omega
          repeat' first
            | ((with_reducible show wx _ (XCode.cond _ _ _) _ _); refine wx_if rfl (fun _ => ?_) (fun _ => ?_))
            | simp (maxSteps := 1000000) only [go_sem, hlx', hl1, hl2, hl3, hp1, hp2, r0, r1, r2, t1, t2, d1, d2, l1, l2, hDc, hset, hil, hwn, hcl, hcr, mxF, Int.toNat_natCast, Nat.mul_one, Nat.zero_add]
          · rename_i e
            simp at e
            exact ⟨xs.length - (nx + 1), by omega, nx + 1, 9, g2, rfl, by omega, hD.step hxs hc0 hDc0 (.inl ⟨e, rfl⟩), rfl⟩
          · rename_i e0 e
            simp at e
            subst e
            have hun2 := unseen_set hDc0 (v := -1) (by decide)
            simp only [if_true] at hun2
            have hnz2 : ∀ (k : Nat) d, k < i + 1 → (D.set ck (-1))[k]? = some d → d ≠ 0 := by
              intro k d' hk hd'
              rcases set_get hck hd' with ⟨_, rfl⟩ | ⟨_, hd'⟩
              · decide
              · exact hnz k d' hk hd'
            have hdown := hD.down hxs hc0 hcl hDc0
            have hst2 : ∀ r, stC (⟨ck, 0, 0⟩ :: ⟨f, nx + 1, dp⟩ :: st) ++ r = B ++ VI f :: VI ((nx + 1 : Nat) : Int) :: VI dp :: VI ck :: VI 0 :: VI 0 :: r := by
              intro r
              rw [stC_cons, stC_cons, hBg]
              simp [frC]
            by_cases hrest : 3 ≤ rest.length
            · obtain ⟨x0, x1, x2, rest, rfl⟩ : ∃ x0 x1 x2 r, rest = x0 :: x1 :: x2 :: r := by
                match rest, hrest with
                | x0 :: x1 :: x2 :: r, _ => exact ⟨x0, x1, x2, r, rfl⟩
              have hfit : (st.length + 1 + 1) * 3 ≤ B.length + (rest.length + 1 + 1 + 1 + 1 + 1 + 1) := by omega
              repeat' first
                | simp (maxSteps := 1000000) only [go_sem, xRows, hfit, t3, d3, Nat.zero_add]
              refine ⟨2 * unseen (D.set ck (-1)) + (st.length + 1 + 1), ?_, D.set ck (-1), ⟨ck, 0, 0⟩ :: ⟨f, nx + 1, dp⟩ :: st, g1, g2 ++ [.cells 0 [VI ck, VI 0, VI 0]], ver, rest, rfl, ?_, hdown, hnz2, ?_⟩
              · (try simp only [List.length_cons]); omega
              · simp only [List.length_cons] at hun ⊢; omega
              · rw [hst2]; rfl
            · have hfit : ¬ (st.length + 1 + 1) * 3 ≤ B.length + (rest.length + 1 + 1 + 1) := by omega
              have hfit2 : (st.length + 1) * 3 ≤ B.length + (rest.length + 1 + 1 + 1) := by omega
              have hby : (st.length + 1 + 1) * 24 ≤ 140737488355328 := by omega
              repeat' first
                | simp (maxSteps := 1000000) only [go_sem, xRows, hfit, hfit2, hby, t3, d3, Nat.zero_add]
              refine ⟨2 * unseen (D.set ck (-1)) + (st.length + 1 + 1), ?_, D.set ck (-1), ⟨ck, 0, 0⟩ :: ⟨f, nx + 1, dp⟩ :: st, g1, g2 ++ [.cells 0 [VI ck, VI 0, VI 0]], ver + 1, [], rfl, ?_, hdown, hnz2, ?_⟩
              · (try simp only [List.length_cons]); omega
              · simp only [List.length_cons] at hun ⊢; omega
              · rw [hst2]; rfl
          · rename_i e0 e
            simp at e e0
            have hdd := hD.dom ck d hDc0
            exact ⟨xs.length - (nx + 1), by omega, nx + 1, max dp d, g2, rfl, by omega, hD.step hxs hc0 hDc0 (.inr ⟨by omega, rfl⟩), rfl⟩
        · have hlx' : ¬ ((nx : Int) < xs.length) := by omega
          have hnl : nx = xs.length := by omega
          have hfD : f < D.length := by omega
          have hDf : (D.map VI)[f]? = some (VI (-1)) := by rw [List.getElem?_map, hfu]; rfl
          have hset : ∀ y : Int, (D.map VI).take f ++ VI y :: (D.map VI).drop (f + 1) = (D.set f y).map VI := by
            intro y
            rw [set_mid _ (by simp; omega), List.map_set]
          have hil : f + 1 ≤ (D.map VI).length := by simp; omega
          have h0f : (0 : Int) ≤ (f : Int) := by omega
          have hfl3 : (f : Int) < ls.length := by omega
          have hw5 : IntKind.i64.wrap (dp + 1) = dp + 1 := wrap_id (by omega) (by omega)
          have hle5 : (st.length : Int) ≤ ((st.length + 1 : Nat) : Int) := by omega
          have hpop := hD.pop hxs hnl
          simp only at hpop
          have hun2 := unseen_set hfu (v := min (dp + 1) 9) (by omega)
          have hnz2 : ∀ (k : Nat) d, k < i + 1 → (D.set f (min (dp + 1) 9))[k]? = some d → d ≠ 0 := by
            intro k d' hk hd'
            rcases set_get hfD hd' with ⟨_, rfl⟩ | ⟨_, hd'⟩
            · omega
            · exact hnz k d' hk hd'
          repeat' first
            | ((with_reducible show wx _ (XCode.cond _ _ _) _ _); refine wx_if rfl (fun _ => ?_) (fun _ => ?_))
            | simp (maxSteps := 1000000) only [go_sem, hlx', hl1, hl2, hl3, r0, r1, r2, t1, t2, d1, d2, l1, l2, hset, hil, h0f, hfl3, hw5, mxF, mxT, hwl, xHi, xLo, h0s, hle5, or_true, Nat.zero_mul, Nat.sub_zero, Int.toNat_natCast, Nat.mul_one, Nat.zero_add]
          · rename_i e
            cases st with
            | nil => simp at e
            | cons b st =>
              have hstl2 : st.length + 1 + 1 ≤ ls.length := hstl
              have l6 : ∀ m : Nat, st.length * 3 + 2 + 1 ≤ (stC st).length + (m + 1 + 1 + 1 + 1 + 1 + 1) := fun m => by rw [stC_len]; omega
              have hwl2 : IntKind.i64.wrap (((st.length + 1 : Nat) : Int) - 1) = (st.length : Int) := by rw [wrap_id (by omega) (by omega)]; omega
              have h0s2 : (0 : Int) ≤ (st.length : Int) := by omega
              have hss2 : (st.length : Int) < ((st.length + 1 : Nat) : Int) := by omega
              rw [stC_cons] at hBg
              have hBl2 := stC_len st
              generalize hBg2 : stC st = B2 at hBl2 hBg l6
              have hfrc2 : frC b = [VI b.f, VI b.nx, VI b.dp] := rfl
              rw [hfrc2] at hBg
              subst hBg
              repeat' first
                | simp (maxSteps := 1000000) only [go_sem, hwl2, h0s2, hss2, Int.toNat_natCast, Nat.zero_add, fr_r2 hBl2, fr_t2 hBl2, fr_d2 hBl2, mxF, l6]
              simp at hun2
              refine ⟨2 * unseen (D.set f (min (dp + 1) 9)) + (st.length + 1), ?_, D.set f (min (dp + 1) 9), _, g1, g2, ver, VI f :: VI nx :: VI dp :: rest, ?_, ?_, hpop, hnz2, ?_⟩
              · (try simp only [List.length_cons]); omega
              · rfl
              · simp only [liftD, List.length_cons] at hun ⊢; omega
              · simp only [liftD, stC_cons, hBg2, frC]
                simp
          · rename_i e
            cases st with
            | cons b st => simp at e
            | nil =>
              simp at hun2
              refine ⟨2 * unseen (D.set f (min (dp + 1) 9)), ?_, D.set f (min (dp + 1) 9), [], g1, g2, ver, VI f :: VI nx :: VI dp :: rest, rfl, ?_, hpop, hnz2, ?_⟩
              · simp only [List.length_nil]; omega
              · simp only [List.length_cons, List.length_nil] at hun ⊢; omega
              · rw [← hBg]
  · have hlt' : ¬ ((i : Int) < ls.length) := by omega
    repeat' first
      | simp (maxSteps := 1000000) only [go_sem, hlt']
    refine ⟨_, D, rfl, hD.len, ?_, hD.done (fun k d hk => hnz k d (by have := (List.getElem?_eq_some_iff.1 hk).1; have := hD.len; omega) hk) hin⟩
    rw [← hD.len]
    refine SlT.whole (f := fI) (xs := D) (l := D.map VI) (fun g' => ?_) fI_len (flat_fI _).symm
    simp only [go_sem]
end Go.Tidy
namespace Go.Tidy
open Go Go.Eng Go.Proofs
set_option maxRecDepth 100000
def x177 : XCode := .seq (.reg [⟨(some 2), none, (.op (.mov (.k (.slice none 0 0))))⟩])
 (.seq (.reg [⟨(some 6), none, (.op (.bsl 1 1 [(.int .i64 0)] [(0, 1, (.k (.int .i64 0)))]))⟩,
    ⟨(some 3), none, (.op (.mov (.t 6)))⟩])
  (.seq (.seq (.reg [⟨(some 7), none, (.op (.mov (.t 0)))⟩,
      ⟨(some 8), none, (.op (.lenl (.t 7)))⟩,
      ⟨(some 9), none, (.op (.mov (.k (.int .i64 0))))⟩])
    (.block 0 (.loop (.seq (.reg [⟨(some 10), none, (.op (.bin .lss (.t 9) (.t 8)))⟩])
       (.seq (.cond (.t 10) (.skip)
         (.exit 0))
        (.seq (.block 1 (.seq (.reg [⟨(some 11), none, (.op (.iad 6 (.t 7) (.t 9)))⟩,
             ⟨(some 12), none, (.op (.lda 6 (.t 11)))⟩,
             ⟨(some 5), none, (.op (.alloc [(.int .i64 0), (.int .i64 0), (.int .i64 0), (.int .i64 0), (.int .i64 0), (.int .i64 0)]))⟩,
             ⟨none, none, (.op (.st 6 (.t 5) (.t 12)))⟩])
           (.drw none [⟨(some 13), none, (.op (.mov (.t 3)))⟩,
             ⟨(some 14), none, (.op (.mov (.t 3)))⟩,
             ⟨(some 15), none, (.op (.mov (.t 3)))⟩,
             ⟨(some 16), none, (.op (.lenl (.t 15)))⟩,
             ⟨(some 17), none, (.op (.bin .sub (.t 16) (.k (.int .i64 1))))⟩,
             ⟨(some 18), none, (.op (.iad 1 (.t 14) (.t 17)))⟩,
             ⟨(some 19), none, (.op (.ld1 (.t 18)))⟩,
             ⟨(some 20), none, (.op (.fad 0 (.t 5)))⟩,
             ⟨(some 21), none, (.op (.lda 5 (.t 20)))⟩,
             ⟨(some 22), none, (.call (.f 235) [(.t 21)])⟩,
             ⟨(some 23), none, (.op (.bin .add (.t 19) (.t 22)))⟩,
             ⟨(some 24), none, (.op (.bsl 1 1 [(.int .i64 0)] [(0, 1, (.t 23))]))⟩,
             ⟨(some 25), none, (.op (.app 1 8 (.t 13) (.t 24)))⟩,
             ⟨(some 3), none, (.op (.mov (.t 25)))⟩])))
         (.reg [⟨(some 26), none, (.op (.bin .add (.t 9) (.k (.int .i64 1))))⟩,
           ⟨(some 9), none, (.op (.mov (.t 26)))⟩])))))))
   (.seq (.reg [⟨(some 27), none, (.op (.mov (.t 3)))⟩,
      ⟨(some 2), none, (.op (.mov (.t 27)))⟩])
    (.ret))))
def r177 : List XRes := [.t 2]
theorem res177 : resolveF Tryz.prog 177 = some (x177, r177, 28) := by kernel_rfl
def x178 : XCode := .seq (.reg [⟨(some 1), none, (.op (.box (.t 0)))⟩,
   ⟨(some 2), none, (.op (.mov (.k (.bool false))))⟩])
 (.seq (.reg [⟨(some 4), none, (.op (.lda 5 (.t 1)))⟩,
    ⟨(some 5), none, (.call (.f 145) [(.t 4)])⟩,
    ⟨(some 3), none, (.op (.mov (.t 5)))⟩])
  (.seq (.reg [⟨(some 6), none, (.op (.mov (.t 3)))⟩,
     ⟨(some 7), none, (.op (.bin .eql (.t 6) (.k (.int .i64 1))))⟩,
     ⟨(some 8), none, (.op (.mov (.t 7)))⟩,
     ⟨(some 9), (some (8, false)), (.op (.mov (.t 3)))⟩,
     ⟨(some 10), (some (8, false)), (.op (.bin .eql (.t 9) (.k (.int .i64 2))))⟩,
     ⟨(some 11), none, (.op (.pick (.t 8) (.k (.bool true)) (.t 10)))⟩,
     ⟨(some 2), none, (.op (.mov (.t 11)))⟩])
   (.ret)))
def r178 : List XRes := [.t 2]
theorem res178 : resolveF Tryz.prog 178 = some (x178, r178, 12) := by kernel_rfl
def x179 : XCode := .seq (.reg [⟨(some 4), none, (.op (.mov (.k (.int .i64 0))))⟩,
   ⟨(some 5), none, (.op (.mov (.k (.bool false))))⟩])
 (.seq (.reg [⟨(some 10), none, (.op (.mov (.t 0)))⟩,
    ⟨(some 11), none, (.op (.lenl (.t 10)))⟩,
    ⟨(some 6), none, (.op (.mov (.t 11)))⟩])
  (.seq (.reg [⟨(some 12), none, (.op (.mov (.t 6)))⟩,
     ⟨(some 7), none, (.op (.mov (.k (.int .i64 0))))⟩,
     ⟨(some 8), none, (.op (.mov (.t 12)))⟩])
   (.seq (.block 0 (.loop (.seq (.seq (.reg [⟨(some 13), none, (.op (.mov (.t 7)))⟩,
          ⟨(some 14), none, (.op (.mov (.t 8)))⟩,
          ⟨(some 15), none, (.op (.bin .lss (.t 13) (.t 14)))⟩])
        (.cond (.t 15) (.skip)
         (.exit 0)))
       (.block 1 (.seq (.reg [⟨(some 16), none, (.op (.mov (.t 7)))⟩,
           ⟨(some 17), none, (.op (.mov (.t 8)))⟩,
           ⟨(some 18), none, (.op (.bin .add (.t 16) (.t 17)))⟩,
           ⟨(some 19), none, (.op (.cvi .u64 (.t 18)))⟩,
           ⟨(some 20), none, (.op (.bin .shr (.t 19) (.k (.int .u64 1))))⟩,
           ⟨(some 21), none, (.op (.cvi .i64 (.t 20)))⟩,
           ⟨(some 9), none, (.op (.mov (.t 21)))⟩])
         (.seq (.reg [⟨(some 22), none, (.op (.mov (.t 0)))⟩,
            ⟨(some 23), none, (.op (.mov (.t 9)))⟩,
            ⟨(some 24), none, (.op (.iad 1 (.t 22) (.t 23)))⟩,
            ⟨(some 25), none, (.op (.ld1 (.t 24)))⟩,
            ⟨(some 26), none, (.op (.mov (.t 1)))⟩,
            ⟨(some 27), none, (.call (.f 236) [(.t 25), (.t 26)])⟩])
          (.cond (.t 27) (.reg [⟨(some 28), none, (.op (.mov (.t 9)))⟩,
             ⟨(some 29), none, (.op (.bin .add (.t 28) (.k (.int .i64 1))))⟩,
             ⟨(some 7), none, (.op (.mov (.t 29)))⟩])
           (.reg [⟨(some 30), none, (.op (.mov (.t 9)))⟩,
             ⟨(some 8), none, (.op (.mov (.t 30)))⟩]))))))))
    (.seq (.reg [⟨(some 31), none, (.op (.mov (.t 7)))⟩,
       ⟨(some 32), none, (.op (.mov (.t 7)))⟩,
       ⟨(some 33), none, (.op (.mov (.t 6)))⟩,
       ⟨(some 34), none, (.op (.bin .lss (.t 32) (.t 33)))⟩,
       ⟨(some 35), none, (.op (.mov (.t 34)))⟩,
       ⟨(some 36), (some (35, true)), (.op (.mov (.t 0)))⟩,
       ⟨(some 37), (some (35, true)), (.op (.mov (.t 7)))⟩,
       ⟨(some 38), (some (35, true)), (.op (.iad 1 (.t 36) (.t 37)))⟩,
       ⟨(some 39), (some (35, true)), (.op (.ld1 (.t 38)))⟩,
       ⟨(some 40), (some (35, true)), (.op (.mov (.t 1)))⟩,
       ⟨(some 41), (some (35, true)), (.op (.bin .eql (.t 39) (.t 40)))⟩,
       ⟨(some 42), (some (35, true)), (.op (.mov (.t 41)))⟩,
       ⟨(some 43), (some (42, false)), (.op (.mov (.t 0)))⟩,
       ⟨(some 44), (some (42, false)), (.op (.mov (.t 7)))⟩,
       ⟨(some 45), (some (42, false)), (.op (.iad 1 (.t 43) (.t 44)))⟩,
       ⟨(some 46), (some (42, false)), (.op (.ld1 (.t 45)))⟩,
       ⟨(some 47), (some (42, false)), (.call (.f 237) [(.t 46)])⟩,
       ⟨(some 48), (some (42, false)), (.op (.mov (.t 47)))⟩,
       ⟨(some 49), (some (48, true)), (.op (.mov (.t 1)))⟩,
       ⟨(some 50), (some (48, true)), (.call (.f 237) [(.t 49)])⟩,
       ⟨(some 51), (some (42, false)), (.op (.pick (.t 48) (.t 50) (.k (.bool false))))⟩,
       ⟨(some 52), (some (35, true)), (.op (.pick (.t 42) (.k (.bool true)) (.t 51)))⟩,
       ⟨(some 53), none, (.op (.pick (.t 35) (.t 52) (.k (.bool false))))⟩,
       ⟨(some 4), none, (.op (.mov (.t 31)))⟩,
       ⟨(some 5), none, (.op (.mov (.t 53)))⟩])
     (.ret)))))
def r179 : List XRes := [.t 4, .t 5]
theorem res179 : resolveF Tryz.prog 179 = some (x179, r179, 54) := by kernel_rfl
def x236 : XCode := .seq (.reg [⟨(some 4), none, (.op (.mov (.k (.bool false))))⟩])
 (.seq (.reg [⟨(some 5), none, (.op (.mov (.t 0)))⟩,
    ⟨(some 6), none, (.call (.f 141) [(.t 5)])⟩,
    ⟨(some 7), none, (.op (.mov (.t 6)))⟩,
    ⟨(some 8), (some (7, true)), (.op (.mov (.t 1)))⟩,
    ⟨(some 9), (some (7, true)), (.call (.f 141) [(.t 8)])⟩,
    ⟨(some 10), (some (7, true)), (.op (.un .not (.t 9)))⟩,
    ⟨(some 11), none, (.op (.pick (.t 7) (.t 10) (.k (.bool false))))⟩,
    ⟨(some 12), none, (.op (.mov (.t 11)))⟩,
    ⟨(some 13), (some (12, false)), (.op (.mov (.t 0)))⟩,
    ⟨(some 14), (some (12, false)), (.op (.mov (.t 1)))⟩,
    ⟨(some 15), (some (12, false)), (.op (.bin .lss (.t 13) (.t 14)))⟩,
    ⟨(some 16), none, (.op (.pick (.t 12) (.k (.bool true)) (.t 15)))⟩,
    ⟨(some 4), none, (.op (.mov (.t 16)))⟩])
  (.ret))
def r236 : List XRes := [.t 4]
theorem res236 : resolveF Tryz.prog 236 = some (x236, r236, 17) := by kernel_rfl
def x237 : XCode := .seq (.reg [⟨(some 2), none, (.op (.mov (.k (.bool false))))⟩])
 (.seq (.reg [⟨(some 3), none, (.op (.mov (.t 0)))⟩,
    ⟨(some 4), none, (.op (.mov (.t 0)))⟩,
    ⟨(some 5), none, (.op (.bin .neq (.t 3) (.t 4)))⟩,
    ⟨(some 2), none, (.op (.mov (.t 5)))⟩])
  (.ret))
def r237 : List XRes := [.t 2]
theorem res237 : resolveF Tryz.prog 237 = some (x237, r237, 6) := by kernel_rfl
def x125 : XCode := .seq (.reg [⟨(some 2), none, (.op (.mov (.k (.slice none 0 0))))⟩])
 (.seq (.reg [⟨(some 10), none, (.op (.mov (.t 0)))⟩,
    ⟨(some 11), none, (.op (.lenl (.t 10)))⟩,
    ⟨(some 12), none, (.op (.mks 6 48 [(.int .i64 0), (.int .i64 0), (.int .i64 0), (.int .i64 0), (.int .i64 0), (.int .i64 0)] (.t 11) (.t 11)))⟩,
    ⟨(some 3), none, (.op (.mov (.t 12)))⟩])
  (.seq (.seq (.reg [⟨(some 13), none, (.op (.mov (.t 0)))⟩,
      ⟨(some 14), none, (.op (.lenl (.t 13)))⟩,
      ⟨(some 15), none, (.op (.mov (.k (.int .i64 0))))⟩])
    (.block 0 (.loop (.seq (.reg [⟨(some 16), none, (.op (.bin .lss (.t 15) (.t 14)))⟩])
       (.seq (.cond (.t 16) (.skip)
         (.exit 0))
        (.seq (.block 1 (.seq (.reg [⟨(some 17), none, (.op (.mov (.t 15)))⟩,
             ⟨(some 18), none, (.op (.iad 5 (.t 13) (.t 15)))⟩,
             ⟨(some 19), none, (.op (.lda 5 (.t 18)))⟩,
             ⟨(some 5), none, (.op (.alloc [(.int .i64 0), (.int .i64 0), (.int .i64 0), (.int .i64 0), (.int .i64 0)]))⟩,
             ⟨(some 4), none, (.op (.mov (.t 17)))⟩,
             ⟨none, none, (.op (.st 5 (.t 5) (.t 19)))⟩])
           (.reg [⟨(some 20), none, (.op (.mov (.t 3)))⟩,
             ⟨(some 21), none, (.op (.mov (.t 4)))⟩,
             ⟨(some 22), none, (.op (.lda 5 (.t 5)))⟩,
             ⟨(some 23), none, (.op (.build [(.int .i64 0), (.int .i64 0), (.int .i64 0), (.int .i64 0), (.int .i64 0), (.int .i64 0)] [(0, 5, (.t 22)), (5, 1, (.k (.int .i64 (-1))))]))⟩,
             ⟨(some 24), none, (.op (.iad 6 (.t 20) (.t 21)))⟩,
             ⟨none, none, (.op (.st 6 (.t 24) (.t 23)))⟩])))
         (.reg [⟨(some 25), none, (.op (.bin .add (.t 15) (.k (.int .i64 1))))⟩,
           ⟨(some 15), none, (.op (.mov (.t 25)))⟩])))))))
   (.seq (.reg [⟨(some 26), none, (.op (.mov (.t 3)))⟩,
      ⟨(some 27), none, (.call (.f 177) [(.t 26)])⟩,
      ⟨(some 6), none, (.op (.mov (.t 27)))⟩])
    (.seq (.seq (.reg [⟨(some 28), none, (.op (.mov (.t 0)))⟩,
        ⟨(some 29), none, (.op (.lenl (.t 28)))⟩,
        ⟨(some 30), none, (.op (.mov (.k (.int .i64 0))))⟩])
      (.block 2 (.loop (.seq (.reg [⟨(some 31), none, (.op (.bin .lss (.t 30) (.t 29)))⟩])
         (.seq (.cond (.t 31) (.skip)
           (.exit 2))
          (.seq (.block 3 (.seq (.reg [⟨(some 32), none, (.op (.mov (.t 30)))⟩,
               ⟨(some 33), none, (.op (.iad 5 (.t 28) (.t 30)))⟩,
               ⟨(some 34), none, (.op (.lda 5 (.t 33)))⟩,
               ⟨(some 8), none, (.op (.alloc [(.int .i64 0), (.int .i64 0), (.int .i64 0), (.int .i64 0), (.int .i64 0)]))⟩,
               ⟨(some 7), none, (.op (.mov (.t 32)))⟩,
               ⟨none, none, (.op (.st 5 (.t 8) (.t 34)))⟩])
             (.seq (.seq (.reg [⟨(some 35), none, (.op (.lda 5 (.t 8)))⟩,
                 ⟨(some 36), none, (.call (.f 178) [(.t 35)])⟩,
                 ⟨(some 37), none, (.op (.un .not (.t 36)))⟩])
               (.cond (.t 37) (.exit 3)
                (.skip)))
              (.seq (.reg [⟨(some 38), none, (.op (.fad 3 (.t 8)))⟩,
                 ⟨(some 39), none, (.op (.ld1 (.t 38)))⟩,
                 ⟨(some 9), none, (.op (.mov (.t 39)))⟩])
               (.seq (.seq (.reg [⟨(some 40), none, (.op (.fad 0 (.t 8)))⟩,
                   ⟨(some 41), none, (.op (.ld1 (.t 40)))⟩,
                   ⟨(some 42), none, (.op (.bin .eql (.t 41) (.k (.int .i64 6))))⟩])
                 (.cond (.t 42) (.reg [⟨(some 43), none, (.op (.fad 4 (.t 8)))⟩,
                    ⟨(some 44), none, (.op (.ld1 (.t 43)))⟩,
                    ⟨(some 9), none, (.op (.mov (.t 44)))⟩])
                  (.skip)))
                (.reg [⟨(some 46), none, (.op (.mov (.t 3)))⟩,
                  ⟨(some 47), none, (.op (.mov (.t 7)))⟩,
                  ⟨(some 48), none, (.op (.mov (.t 6)))⟩,
                  ⟨(some 49), none, (.op (.mov (.t 6)))⟩,
                  ⟨(some 50), none, (.op (.mov (.t 7)))⟩,
                  ⟨(some 51), none, (.op (.iad 1 (.t 49) (.t 50)))⟩,
                  ⟨(some 52), none, (.op (.ld1 (.t 51)))⟩,
                  ⟨(some 53), none, (.op (.bin .add (.t 52) (.k (.int .i64 1))))⟩,
                  ⟨(some 54), none, (.op (.mov (.t 9)))⟩,
                  ⟨(some 55), none, (.op (.bin .add (.t 53) (.t 54)))⟩,
                  ⟨(some 56), none, (.call (.f 179) [(.t 48), (.t 55)])⟩,
                  ⟨(some 45), none, (.op (.mov (.t 56)))⟩,
                  ⟨(some 57), none, (.op (.ext 0 (.t 45)))⟩,
                  ⟨(some 58), none, (.op (.ext 1 (.t 45)))⟩,
                  ⟨(some 59), none, (.op (.iad 6 (.t 46) (.t 47)))⟩,
                  ⟨(some 60), none, (.op (.fad 5 (.t 59)))⟩,
                  ⟨none, none, (.op (.st 1 (.t 60) (.t 57)))⟩]))))))
           (.reg [⟨(some 61), none, (.op (.bin .add (.t 30) (.k (.int .i64 1))))⟩,
             ⟨(some 30), none, (.op (.mov (.t 61)))⟩])))))))
     (.seq (.reg [⟨(some 62), none, (.op (.mov (.t 3)))⟩,
        ⟨(some 2), none, (.op (.mov (.t 62)))⟩])
      (.ret))))))
def r125 : List XRes := [.t 2]
theorem res125 : resolveF Tryz.prog 125 = some (x125, r125, 63) := by kernel_rfl
def x127 : XCode := .seq (.reg [⟨(some 2), none, (.op (.mov (.k (.slice none 0 0))))⟩])
 (.seq (.reg [⟨(some 9), none, (.op (.mov (.t 0)))⟩,
    ⟨(some 10), none, (.call (.f 177) [(.t 9)])⟩,
    ⟨(some 3), none, (.op (.mov (.t 10)))⟩])
  (.seq (.reg [⟨(some 4), none, (.op (.mov (.k (.slice none 0 0))))⟩])
   (.seq (.seq (.reg [⟨(some 11), none, (.op (.mov (.t 0)))⟩,
       ⟨(some 12), none, (.op (.lenl (.t 11)))⟩,
       ⟨(some 13), none, (.op (.mov (.k (.int .i64 0))))⟩])
     (.block 0 (.loop (.seq (.reg [⟨(some 14), none, (.op (.bin .lss (.t 13) (.t 12)))⟩])
        (.seq (.cond (.t 14) (.skip)
          (.exit 0))
         (.seq (.block 1 (.seq (.reg [⟨(some 15), none, (.op (.mov (.t 13)))⟩,
              ⟨(some 16), none, (.op (.iad 6 (.t 11) (.t 13)))⟩,
              ⟨(some 17), none, (.op (.lda 6 (.t 16)))⟩,
              ⟨(some 6), none, (.op (.alloc [(.int .i64 0), (.int .i64 0), (.int .i64 0), (.int .i64 0), (.int .i64 0), (.int .i64 0)]))⟩,
              ⟨(some 5), none, (.op (.mov (.t 15)))⟩,
              ⟨none, none, (.op (.st 6 (.t 6) (.t 17)))⟩])
            (.seq (.reg [⟨(some 18), none, (.op (.fad 0 (.t 6)))⟩,
               ⟨(some 19), none, (.op (.lda 5 (.t 18)))⟩,
               ⟨(some 7), none, (.op (.alloc [(.int .i64 0), (.int .i64 0), (.int .i64 0), (.int .i64 0), (.int .i64 0)]))⟩,
               ⟨none, none, (.op (.st 5 (.t 7) (.t 19)))⟩])
             (.seq (.seq (.reg [⟨(some 20), none, (.op (.fad 5 (.t 6)))⟩,
                 ⟨(some 21), none, (.op (.ld1 (.t 20)))⟩,
                 ⟨(some 22), none, (.op (.bin .geq (.t 21) (.k (.int .i64 0))))⟩])
               (.cond (.t 22) (.seq (.drw none [⟨(some 23), none, (.op (.mov (.t 3)))⟩,
                   ⟨(some 24), none, (.op (.fad 5 (.t 6)))⟩,
                   ⟨(some 25), none, (.op (.ld1 (.t 24)))⟩,
                   ⟨(some 26), none, (.op (.iad 1 (.t 23) (.t 25)))⟩,
                   ⟨(some 27), none, (.op (.ld1 (.t 26)))⟩,
                   ⟨(some 28), none, (.op (.mov (.t 3)))⟩,
                   ⟨(some 29), none, (.op (.mov (.t 5)))⟩,
                   ⟨(some 30), none, (.op (.iad 1 (.t 28) (.t 29)))⟩,
                   ⟨(some 31), none, (.op (.ld1 (.t 30)))⟩,
                   ⟨(some 32), none, (.op (.bin .sub (.t 27) (.t 31)))⟩,
                   ⟨(some 33), none, (.op (.bin .sub (.t 32) (.k (.int .i64 1))))⟩,
                   ⟨(some 8), none, (.op (.mov (.t 33)))⟩])
                 (.seq (.reg [⟨(some 34), none, (.op (.fad 0 (.t 7)))⟩,
                    ⟨(some 35), none, (.op (.ld1 (.t 34)))⟩,
                    ⟨(some 36), none, (.op (.bin .eql (.t 35) (.k (.int .i64 6))))⟩])
                  (.cond (.t 36) (.reg [⟨(some 37), none, (.op (.mov (.t 8)))⟩,
                     ⟨(some 38), none, (.op (.fad 4 (.t 7)))⟩,
                     ⟨none, none, (.op (.st 1 (.t 38) (.t 37)))⟩])
                   (.reg [⟨(some 39), none, (.op (.mov (.t 8)))⟩,
                     ⟨(some 40), none, (.op (.fad 3 (.t 7)))⟩,
                     ⟨none, none, (.op (.st 1 (.t 40) (.t 39)))⟩]))))
                (.skip)))
              (.reg [⟨(some 41), none, (.op (.mov (.t 4)))⟩,
                ⟨(some 42), none, (.op (.lda 5 (.t 7)))⟩,
                ⟨(some 43), none, (.op (.bsl 5 1 [(.int .i64 0), (.int .i64 0), (.int .i64 0), (.int .i64 0), (.int .i64 0)] [(0, 5, (.t 42))]))⟩,
                ⟨(some 44), none, (.op (.app 5 40 (.t 41) (.t 43)))⟩,
                ⟨(some 4), none, (.op (.mov (.t 44)))⟩])))))
          (.reg [⟨(some 45), none, (.op (.bin .add (.t 13) (.k (.int .i64 1))))⟩,
            ⟨(some 13), none, (.op (.mov (.t 45)))⟩])))))))
    (.seq (.reg [⟨(some 46), none, (.op (.mov (.t 4)))⟩,
       ⟨(some 2), none, (.op (.mov (.t 46)))⟩])
     (.ret)))))
def r127 : List XRes := [.t 2]
theorem res127 : resolveF Tryz.prog 127 = some (x127, r127, 47) := by kernel_rfl
def x239 : XCode := .seq (.reg [⟨(some 4), none, (.op (.mov (.k (.slice none 0 0))))⟩,
   ⟨(some 5), none, (.op (.mov (.k (.bool false))))⟩])
 (.seq (.reg [⟨(some 12), none, (.op (.mkm none))⟩,
    ⟨(some 6), none, (.op (.mov (.t 12)))⟩])
  (.seq (.reg [⟨(some 7), none, (.op (.mov (.k (.int .i64 0))))⟩])
   (.seq (.seq (.reg [⟨(some 13), none, (.op (.mov (.t 0)))⟩,
       ⟨(some 14), none, (.op (.lenl (.t 13)))⟩,
       ⟨(some 15), none, (.op (.mov (.k (.int .i64 0))))⟩])
     (.block 0 (.loop (.seq (.reg [⟨(some 16), none, (.op (.bin .lss (.t 15) (.t 14)))⟩])
        (.seq (.cond (.t 16) (.skip)
          (.exit 0))
         (.seq (.block 1 (.seq (.reg [⟨(some 17), none, (.op (.mov (.t 15)))⟩,
              ⟨(some 8), none, (.op (.mov (.t 17)))⟩])
            (.seq (.reg [⟨(some 18), none, (.op (.mov (.t 6)))⟩,
               ⟨(some 19), none, (.op (.mov (.t 8)))⟩,
               ⟨(some 20), none, (.op (.mov (.t 7)))⟩,
               ⟨none, none, (.op (.mup ⟨false, [1]⟩ (.t 18) (.t 19) (.t 20)))⟩])
             (.seq (.reg [⟨(some 21), none, (.op (.mov (.t 1)))⟩,
                ⟨(some 22), none, (.op (.mov (.t 8)))⟩,
                ⟨(some 23), none, (.call (.t 21) [(.t 22)])⟩,
                ⟨(some 24), none, (.op (.un .not (.t 23)))⟩])
              (.cond (.t 24) (.reg [⟨(some 25), none, (.op (.mov (.t 7)))⟩,
                 ⟨(some 26), none, (.op (.bin .add (.t 25) (.k (.int .i64 1))))⟩,
                 ⟨(some 7), none, (.op (.mov (.t 26)))⟩])
               (.skip))))))
          (.reg [⟨(some 27), none, (.op (.bin .add (.t 15) (.k (.int .i64 1))))⟩,
            ⟨(some 15), none, (.op (.mov (.t 27)))⟩])))))))
    (.seq (.seq (.reg [⟨(some 28), none, (.op (.mov (.t 7)))⟩,
        ⟨(some 29), none, (.op (.mov (.t 0)))⟩,
        ⟨(some 30), none, (.op (.lenl (.t 29)))⟩,
        ⟨(some 31), none, (.op (.bin .eql (.t 28) (.t 30)))⟩])
      (.cond (.t 31) (.seq (.reg [⟨(some 32), none, (.op (.mov (.t 0)))⟩,
          ⟨(some 4), none, (.op (.mov (.t 32)))⟩,
          ⟨(some 5), none, (.op (.mov (.k (.bool false))))⟩])
        (.ret))
       (.skip)))
     (.seq (.reg [⟨(some 9), none, (.op (.mov (.k (.slice none 0 0))))⟩])
      (.seq (.seq (.reg [⟨(some 33), none, (.op (.mov (.t 0)))⟩,
          ⟨(some 34), none, (.op (.lenl (.t 33)))⟩,
          ⟨(some 35), none, (.op (.mov (.k (.int .i64 0))))⟩])
        (.block 2 (.loop (.seq (.reg [⟨(some 36), none, (.op (.bin .lss (.t 35) (.t 34)))⟩])
           (.seq (.cond (.t 36) (.skip)
             (.exit 2))
            (.seq (.block 3 (.seq (.reg [⟨(some 37), none, (.op (.mov (.t 35)))⟩,
                 ⟨(some 38), none, (.op (.iad 6 (.t 33) (.t 35)))⟩,
                 ⟨(some 39), none, (.op (.lda 6 (.t 38)))⟩,
                 ⟨(some 11), none, (.op (.alloc [(.int .i64 0), (.int .i64 0), (.int .i64 0), (.int .i64 0), (.int .i64 0), (.int .i64 0)]))⟩,
                 ⟨(some 10), none, (.op (.mov (.t 37)))⟩,
                 ⟨none, none, (.op (.st 6 (.t 11) (.t 39)))⟩])
               (.seq (.seq (.reg [⟨(some 40), none, (.op (.mov (.t 1)))⟩,
                   ⟨(some 41), none, (.op (.mov (.t 10)))⟩,
                   ⟨(some 42), none, (.call (.t 40) [(.t 41)])⟩])
                 (.cond (.t 42) (.exit 3)
                  (.skip)))
                (.seq (.seq (.reg [⟨(some 43), none, (.op (.fad 5 (.t 11)))⟩,
                    ⟨(some 44), none, (.op (.ld1 (.t 43)))⟩,
                    ⟨(some 45), none, (.op (.bin .geq (.t 44) (.k (.int .i64 0))))⟩])
                  (.cond (.t 45) (.reg [⟨(some 46), none, (.op (.mov (.t 6)))⟩,
                     ⟨(some 47), none, (.op (.fad 5 (.t 11)))⟩,
                     ⟨(some 48), none, (.op (.ld1 (.t 47)))⟩,
                     ⟨(some 49), none, (.op (.lku ⟨false, [1]⟩ (.int .i64 0) false (.t 46) (.t 48)))⟩,
                     ⟨(some 50), none, (.op (.fad 5 (.t 11)))⟩,
                     ⟨none, none, (.op (.st 1 (.t 50) (.t 49)))⟩])
                   (.skip)))
                 (.reg [⟨(some 51), none, (.op (.mov (.t 9)))⟩,
                   ⟨(some 52), none, (.op (.lda 6 (.t 11)))⟩,
                   ⟨(some 53), none, (.op (.bsl 6 1 [(.int .i64 0), (.int .i64 0), (.int .i64 0), (.int .i64 0), (.int .i64 0), (.int .i64 0)] [(0, 6, (.t 52))]))⟩,
                   ⟨(some 54), none, (.op (.app 6 48 (.t 51) (.t 53)))⟩,
                   ⟨(some 9), none, (.op (.mov (.t 54)))⟩])))))
             (.reg [⟨(some 55), none, (.op (.bin .add (.t 35) (.k (.int .i64 1))))⟩,
               ⟨(some 35), none, (.op (.mov (.t 55)))⟩])))))))
       (.seq (.reg [⟨(some 56), none, (.op (.mov (.t 9)))⟩,
          ⟨(some 4), none, (.op (.mov (.t 56)))⟩,
          ⟨(some 5), none, (.op (.mov (.k (.bool true))))⟩])
        (.ret))))))))
def r239 : List XRes := [.t 4, .t 5]
theorem res239 : resolveF Tryz.prog 239 = some (x239, r239, 57) := by kernel_rfl
def x238 : XCode := .seq (.reg [⟨(some 2), none, (.op (.mov (.k (.slice none 0 0))))⟩])
 (.seq (.reg [⟨(some 7), none, (.op (.mov (.t 0)))⟩,
    ⟨(some 8), none, (.op (.lenl (.t 7)))⟩,
    ⟨(some 9), none, (.op (.mks 1 1 [(.bool false)] (.t 8) (.t 8)))⟩,
    ⟨(some 3), none, (.op (.mov (.t 9)))⟩])
  (.seq (.reg [⟨(some 10), none, (.op (.bsl 1 1 [(.int .i64 0)] [(0, 1, (.k (.int .i64 0)))]))⟩,
     ⟨(some 4), none, (.op (.mov (.t 10)))⟩])
   (.seq (.block 0 (.loop (.seq (.seq (.reg [⟨(some 11), none, (.op (.mov (.t 4)))⟩,
          ⟨(some 12), none, (.op (.lenl (.t 11)))⟩,
          ⟨(some 13), none, (.op (.bin .gtr (.t 12) (.k (.int .i64 0))))⟩])
        (.cond (.t 13) (.skip)
         (.exit 0)))
       (.block 1 (.seq (.reg [⟨(some 14), none, (.op (.mov (.t 4)))⟩,
           ⟨(some 15), none, (.op (.mov (.t 4)))⟩,
           ⟨(some 16), none, (.op (.lenl (.t 15)))⟩,
           ⟨(some 17), none, (.op (.bin .sub (.t 16) (.k (.int .i64 1))))⟩,
           ⟨(some 18), none, (.op (.iad 1 (.t 14) (.t 17)))⟩,
           ⟨(some 19), none, (.op (.ld1 (.t 18)))⟩,
           ⟨(some 5), none, (.op (.mov (.t 19)))⟩])
         (.seq (.reg [⟨(some 20), none, (.op (.mov (.t 4)))⟩,
            ⟨(some 21), none, (.op (.mov (.t 4)))⟩,
            ⟨(some 22), none, (.op (.lenl (.t 21)))⟩,
            ⟨(some 23), none, (.op (.bin .sub (.t 22) (.k (.int .i64 1))))⟩,
            ⟨(some 24), none, (.op (.sls 1 (.t 20) none (some (.t 23))))⟩,
            ⟨(some 4), none, (.op (.mov (.t 24)))⟩])
          (.seq (.seq (.reg [⟨(some 25), none, (.op (.mov (.t 3)))⟩,
              ⟨(some 26), none, (.op (.mov (.t 5)))⟩,
              ⟨(some 27), none, (.op (.iad 1 (.t 25) (.t 26)))⟩,
              ⟨(some 28), none, (.op (.ld1 (.t 27)))⟩])
            (.cond (.t 28) (.exit 1)
             (.skip)))
           (.seq (.reg [⟨(some 29), none, (.op (.mov (.t 3)))⟩,
              ⟨(some 30), none, (.op (.mov (.t 5)))⟩,
              ⟨(some 31), none, (.op (.iad 1 (.t 29) (.t 30)))⟩,
              ⟨none, none, (.op (.st 1 (.t 31) (.k (.bool true))))⟩])
            (.seq (.seq (.reg [⟨(some 32), none, (.op (.mov (.t 0)))⟩,
                ⟨(some 33), none, (.op (.mov (.t 5)))⟩,
                ⟨(some 34), none, (.op (.iad 6 (.t 32) (.t 33)))⟩,
                ⟨(some 35), none, (.op (.fad 5 (.t 34)))⟩,
                ⟨(some 36), none, (.op (.ld1 (.t 35)))⟩,
                ⟨(some 37), none, (.op (.bin .geq (.t 36) (.k (.int .i64 0))))⟩])
              (.cond (.t 37) (.reg [⟨(some 38), none, (.op (.mov (.t 4)))⟩,
                 ⟨(some 39), none, (.op (.mov (.t 0)))⟩,
                 ⟨(some 40), none, (.op (.mov (.t 5)))⟩,
                 ⟨(some 41), none, (.op (.iad 6 (.t 39) (.t 40)))⟩,
                 ⟨(some 42), none, (.op (.fad 5 (.t 41)))⟩,
                 ⟨(some 43), none, (.op (.ld1 (.t 42)))⟩,
                 ⟨(some 44), none, (.op (.bsl 1 1 [(.int .i64 0)] [(0, 1, (.t 43))]))⟩,
                 ⟨(some 45), none, (.op (.app 1 8 (.t 38) (.t 44)))⟩,
                 ⟨(some 4), none, (.op (.mov (.t 45)))⟩])
               (.skip)))
             (.seq (.reg [⟨(some 46), none, (.op (.mov (.t 0)))⟩,
                ⟨(some 47), none, (.op (.mov (.t 5)))⟩,
                ⟨(some 48), none, (.op (.iad 6 (.t 46) (.t 47)))⟩,
                ⟨(some 49), none, (.op (.fad 0 (.t 48)))⟩,
                ⟨(some 50), none, (.op (.lda 5 (.t 49)))⟩,
                ⟨(some 51), none, (.call (.f 145) [(.t 50)])⟩,
                ⟨(some 6), none, (.op (.mov (.t 51)))⟩])
              (.seq (.reg [⟨(some 52), none, (.op (.mov (.t 6)))⟩,
                 ⟨(some 53), none, (.op (.bin .neq (.t 52) (.k (.int .i64 1))))⟩,
                 ⟨(some 54), none, (.op (.mov (.t 53)))⟩,
                 ⟨(some 55), (some (54, true)), (.op (.mov (.t 6)))⟩,
                 ⟨(some 56), (some (54, true)), (.op (.bin .neq (.t 55) (.k (.int .i64 4))))⟩,
                 ⟨(some 57), none, (.op (.pick (.t 54) (.t 56) (.k (.bool false))))⟩])
               (.cond (.t 57) (.reg [⟨(some 58), none, (.op (.mov (.t 4)))⟩,
                  ⟨(some 59), none, (.op (.mov (.t 5)))⟩,
                  ⟨(some 60), none, (.op (.bin .add (.t 59) (.k (.int .i64 1))))⟩,
                  ⟨(some 61), none, (.op (.bsl 1 1 [(.int .i64 0)] [(0, 1, (.t 60))]))⟩,
                  ⟨(some 62), none, (.op (.app 1 8 (.t 58) (.t 61)))⟩,
                  ⟨(some 4), none, (.op (.mov (.t 62)))⟩])
                (.skip)))))))))))))
    (.seq (.reg [⟨(some 63), none, (.op (.mov (.t 3)))⟩,
       ⟨(some 2), none, (.op (.mov (.t 63)))⟩])
     (.ret)))))
def r238 : List XRes := [.t 2]
theorem res238 : resolveF Tryz.prog 238 = some (x238, r238, 64) := by kernel_rfl
def x243 : XCode := .seq (.reg [⟨(some 4), none, (.op (.mov (.k (.int .i64 0))))⟩])
 (.seq (.reg [⟨(some 7), none, (.op (.mkm none))⟩,
    ⟨(some 8), none, (.op (.mov (.t 1)))⟩,
    ⟨none, none, (.op (.mup ⟨false, [1]⟩ (.t 7) (.t 8) (.k (.int .i64 1))))⟩,
    ⟨(some 9), none, (.op (.mov (.t 7)))⟩,
    ⟨(some 5), none, (.op (.mov (.t 9)))⟩])
  (.seq (.reg [⟨(some 10), none, (.op (.mov (.t 0)))⟩,
     ⟨(some 11), none, (.op (.mov (.t 1)))⟩,
     ⟨(some 12), none, (.op (.iad 6 (.t 10) (.t 11)))⟩,
     ⟨(some 13), none, (.op (.fad 5 (.t 12)))⟩,
     ⟨(some 14), none, (.op (.ld1 (.t 13)))⟩,
     ⟨(some 6), none, (.op (.mov (.t 14)))⟩])
   (.block 0 (.loop (.seq (.block 1 (.seq (.seq (.reg [⟨(some 20), none, (.op (.mov (.t 0)))⟩,
           ⟨(some 21), none, (.op (.mov (.t 6)))⟩,
           ⟨(some 22), none, (.op (.iad 6 (.t 20) (.t 21)))⟩,
           ⟨(some 23), none, (.op (.fad 0 (.t 22)))⟩,
           ⟨(some 24), none, (.op (.lda 5 (.t 23)))⟩,
           ⟨(some 25), none, (.call (.f 242) [(.t 24)])⟩,
           ⟨(some 26), none, (.op (.un .not (.t 25)))⟩])
         (.cond (.t 26) (.seq (.reg [⟨(some 27), none, (.op (.mov (.t 6)))⟩,
             ⟨(some 4), none, (.op (.mov (.t 27)))⟩])
           (.ret))
          (.skip)))
        (.seq (.reg [⟨(some 28), none, (.op (.mov (.t 5)))⟩,
           ⟨(some 29), none, (.op (.mov (.t 6)))⟩,
           ⟨(some 30), none, (.op (.lku ⟨false, [1]⟩ (.int .i64 0) false (.t 28) (.t 29)))⟩,
           ⟨(some 31), none, (.op (.bin .add (.t 30) (.k (.int .i64 1))))⟩,
           ⟨none, none, (.op (.mup ⟨false, [1]⟩ (.t 28) (.t 29) (.t 31)))⟩])
         (.seq (.reg [⟨(some 32), none, (.op (.mov (.t 5)))⟩,
            ⟨(some 33), none, (.op (.mov (.t 6)))⟩,
            ⟨(some 34), none, (.op (.lku ⟨false, [1]⟩ (.int .i64 0) false (.t 32) (.t 33)))⟩,
            ⟨(some 35), none, (.op (.bin .gtr (.t 34) (.k (.int .i64 1))))⟩])
          (.cond (.t 35) (.seq (.reg [⟨(some 4), none, (.op (.mov (.k (.int .i64 (-1)))))⟩])
            (.ret))
           (.skip))))))
      (.reg [⟨(some 15), none, (.op (.mov (.t 0)))⟩,
        ⟨(some 16), none, (.op (.mov (.t 6)))⟩,
        ⟨(some 17), none, (.op (.iad 6 (.t 15) (.t 16)))⟩,
        ⟨(some 18), none, (.op (.fad 5 (.t 17)))⟩,
        ⟨(some 19), none, (.op (.ld1 (.t 18)))⟩,
        ⟨(some 6), none, (.op (.mov (.t 19)))⟩]))))))
def r243 : List XRes := [.t 4]
theorem res243 : resolveF Tryz.prog 243 = some (x243, r243, 36) := by kernel_rfl
def x180 : XCode := .seq (.reg [⟨(some 2), none, (.op (.mov (.k (.slice none 0 0))))⟩,
   ⟨(some 3), none, (.op (.mov (.k (.bool false))))⟩])
 (.seq (.reg [⟨(some 5), none, (.op (.mov (.t 0)))⟩,
    ⟨(some 6), none, (.call (.f 238) [(.t 5)])⟩,
    ⟨(some 4), none, (.op (.alloc [(.slice none 0 0)]))⟩,
    ⟨none, none, (.op (.st 1 (.t 4) (.t 6)))⟩])
  (.seq (.reg [⟨(some 7), none, (.op (.mov (.t 0)))⟩,
     ⟨(some 8), none, (.op (.mkf 240 [(.t 4)]))⟩,
     ⟨(some 9), none, (.call (.f 239) [(.t 7), (.t 8)])⟩,
     ⟨(some 10), none, (.op (.ext 0 (.t 9)))⟩,
     ⟨(some 11), none, (.op (.ext 1 (.t 9)))⟩,
     ⟨(some 2), none, (.op (.mov (.t 10)))⟩,
     ⟨(some 3), none, (.op (.mov (.t 11)))⟩])
   (.ret)))
def r180 : List XRes := [.t 2, .t 3]
theorem res180 : resolveF Tryz.prog 180 = some (x180, r180, 12) := by kernel_rfl
def x240 : XCode := .seq (.reg [⟨(some 3), none, (.op (.mov (.k (.bool false))))⟩])
 (.seq (.reg [⟨(some 4), none, (.op (.ld1 (.t 1)))⟩,
    ⟨(some 5), none, (.op (.mov (.t 0)))⟩,
    ⟨(some 6), none, (.op (.iad 1 (.t 4) (.t 5)))⟩,
    ⟨(some 7), none, (.op (.ld1 (.t 6)))⟩,
    ⟨(some 8), none, (.op (.un .not (.t 7)))⟩,
    ⟨(some 3), none, (.op (.mov (.t 8)))⟩])
  (.ret))
def r240 : List XRes := [.t 3]
theorem res240 : resolveF Tryz.prog 240 = some (x240, r240, 9) := by kernel_rfl
def x181 : XCode := .seq (.reg [⟨(some 1), none, (.op (.box (.t 0)))⟩,
   ⟨(some 2), none, (.op (.mov (.k (.slice none 0 0))))⟩,
   ⟨(some 3), none, (.op (.mov (.k (.bool false))))⟩])
 (.seq (.reg [⟨(some 4), none, (.op (.ld1 (.t 1)))⟩,
    ⟨(some 5), none, (.op (.mkf 241 [(.t 1)]))⟩,
    ⟨(some 6), none, (.call (.f 239) [(.t 4), (.t 5)])⟩,
    ⟨(some 7), none, (.op (.ext 0 (.t 6)))⟩,
    ⟨(some 8), none, (.op (.ext 1 (.t 6)))⟩,
    ⟨(some 2), none, (.op (.mov (.t 7)))⟩,
    ⟨(some 3), none, (.op (.mov (.t 8)))⟩])
  (.ret))
def r181 : List XRes := [.t 2, .t 3]
theorem res181 : resolveF Tryz.prog 181 = some (x181, r181, 9) := by kernel_rfl
def x241 : XCode := .seq (.reg [⟨(some 3), none, (.op (.mov (.k (.bool false))))⟩])
 (.seq (.reg [⟨(some 5), none, (.op (.ld1 (.t 1)))⟩,
    ⟨(some 6), none, (.op (.mov (.t 0)))⟩,
    ⟨(some 7), none, (.op (.iad 6 (.t 5) (.t 6)))⟩,
    ⟨(some 8), none, (.op (.fad 0 (.t 7)))⟩,
    ⟨(some 9), none, (.op (.lda 5 (.t 8)))⟩,
    ⟨(some 4), none, (.op (.alloc [(.int .i64 0), (.int .i64 0), (.int .i64 0), (.int .i64 0), (.int .i64 0)]))⟩,
    ⟨none, none, (.op (.st 5 (.t 4) (.t 9)))⟩])
  (.seq (.reg [⟨(some 10), none, (.op (.fad 0 (.t 4)))⟩,
     ⟨(some 11), none, (.op (.ld1 (.t 10)))⟩,
     ⟨(some 12), none, (.op (.bin .eql (.t 11) (.k (.int .i64 191))))⟩,
     ⟨(some 13), none, (.op (.mov (.t 12)))⟩,
     ⟨(some 14), (some (13, true)), (.op (.fad 3 (.t 4)))⟩,
     ⟨(some 15), (some (13, true)), (.op (.ld1 (.t 14)))⟩,
     ⟨(some 16), (some (13, true)), (.op (.bin .eql (.t 15) (.k (.int .i64 0))))⟩,
     ⟨(some 17), none, (.op (.pick (.t 13) (.t 16) (.k (.bool false))))⟩,
     ⟨(some 18), none, (.op (.mov (.t 17)))⟩,
     ⟨(some 19), (some (18, true)), (.op (.fad 1 (.t 4)))⟩,
     ⟨(some 20), (some (18, true)), (.op (.ld1 (.t 19)))⟩,
     ⟨(some 21), (some (18, true)), (.op (.fad 2 (.t 4)))⟩,
     ⟨(some 22), (some (18, true)), (.op (.ld1 (.t 21)))⟩,
     ⟨(some 23), (some (18, true)), (.op (.bin .eql (.t 20) (.t 22)))⟩,
     ⟨(some 24), none, (.op (.pick (.t 18) (.t 23) (.k (.bool false))))⟩,
     ⟨(some 25), none, (.op (.mov (.t 24)))⟩,
     ⟨(some 26), (some (25, false)), (.op (.lda 5 (.t 4)))⟩,
     ⟨(some 27), (some (25, false)), (.call (.f 242) [(.t 26)])⟩,
     ⟨(some 28), (some (25, false)), (.op (.mov (.t 27)))⟩,
     ⟨(some 29), (some (28, true)), (.op (.ld1 (.t 1)))⟩,
     ⟨(some 30), (some (28, true)), (.op (.mov (.t 0)))⟩,
     ⟨(some 31), (some (28, true)), (.op (.iad 6 (.t 29) (.t 30)))⟩,
     ⟨(some 32), (some (28, true)), (.op (.fad 5 (.t 31)))⟩,
     ⟨(some 33), (some (28, true)), (.op (.ld1 (.t 32)))⟩,
     ⟨(some 34), (some (28, true)), (.op (.mov (.t 0)))⟩,
     ⟨(some 35), (some (28, true)), (.op (.bin .add (.t 34) (.k (.int .i64 1))))⟩,
     ⟨(some 36), (some (28, true)), (.op (.bin .eql (.t 33) (.t 35)))⟩,
     ⟨(some 37), (some (25, false)), (.op (.pick (.t 28) (.t 36) (.k (.bool false))))⟩,
     ⟨(some 38), none, (.op (.pick (.t 25) (.k (.bool true)) (.t 37)))⟩,
     ⟨(some 3), none, (.op (.mov (.t 38)))⟩])
   (.ret)))
def r241 : List XRes := [.t 3]
theorem res241 : resolveF Tryz.prog 241 = some (x241, r241, 39) := by kernel_rfl
def x182 : XCode := .seq (.reg [⟨(some 2), none, (.op (.mov (.k (.slice none 0 0))))⟩,
   ⟨(some 3), none, (.op (.mov (.k (.bool false))))⟩])
 (.seq (.reg [⟨(some 9), none, (.op (.mov (.t 0)))⟩,
    ⟨(some 10), none, (.call (.f 177) [(.t 9)])⟩,
    ⟨(some 4), none, (.op (.mov (.t 10)))⟩])
  (.seq (.reg [⟨(some 5), none, (.op (.mov (.k (.bool false))))⟩])
   (.seq (.seq (.reg [⟨(some 11), none, (.op (.mov (.t 0)))⟩,
       ⟨(some 12), none, (.op (.lenl (.t 11)))⟩,
       ⟨(some 13), none, (.op (.mov (.k (.int .i64 0))))⟩])
     (.block 0 (.loop (.seq (.reg [⟨(some 14), none, (.op (.bin .lss (.t 13) (.t 12)))⟩])
        (.seq (.cond (.t 14) (.skip)
          (.exit 0))
         (.seq (.block 1 (.seq (.reg [⟨(some 15), none, (.op (.mov (.t 13)))⟩,
              ⟨(some 6), none, (.op (.mov (.t 15)))⟩])
            (.seq (.seq (.reg [⟨(some 16), none, (.op (.mov (.t 0)))⟩,
                ⟨(some 17), none, (.op (.mov (.t 6)))⟩,
                ⟨(some 18), none, (.op (.iad 6 (.t 16) (.t 17)))⟩,
                ⟨(some 19), none, (.op (.fad 0 (.t 18)))⟩,
                ⟨(some 20), none, (.op (.lda 5 (.t 19)))⟩,
                ⟨(some 21), none, (.call (.f 242) [(.t 20)])⟩,
                ⟨(some 22), none, (.op (.un .not (.t 21)))⟩])
              (.cond (.t 22) (.exit 1)
               (.skip)))
             (.seq (.reg [⟨(some 23), none, (.op (.mov (.t 0)))⟩,
                ⟨(some 24), none, (.op (.mov (.t 6)))⟩,
                ⟨(some 25), none, (.call (.f 243) [(.t 23), (.t 24)])⟩,
                ⟨(some 7), none, (.op (.mov (.t 25)))⟩])
              (.seq (.seq (.reg [⟨(some 26), none, (.op (.mov (.t 7)))⟩,
                  ⟨(some 27), none, (.op (.bin .lss (.t 26) (.k (.int .i64 0))))⟩,
                  ⟨(some 28), none, (.op (.mov (.t 27)))⟩,
                  ⟨(some 29), (some (28, false)), (.op (.mov (.t 7)))⟩,
                  ⟨(some 30), (some (28, false)), (.op (.mov (.t 0)))⟩,
                  ⟨(some 31), (some (28, false)), (.op (.mov (.t 6)))⟩,
                  ⟨(some 32), (some (28, false)), (.op (.iad 6 (.t 30) (.t 31)))⟩,
                  ⟨(some 33), (some (28, false)), (.op (.fad 5 (.t 32)))⟩,
                  ⟨(some 34), (some (28, false)), (.op (.ld1 (.t 33)))⟩,
                  ⟨(some 35), (some (28, false)), (.op (.bin .eql (.t 29) (.t 34)))⟩,
                  ⟨(some 36), none, (.op (.pick (.t 28) (.k (.bool true)) (.t 35)))⟩])
                (.cond (.t 36) (.exit 1)
                 (.skip)))
               (.seq (.drw none [⟨(some 37), none, (.op (.mov (.t 4)))⟩,
                  ⟨(some 38), none, (.op (.mov (.t 7)))⟩,
                  ⟨(some 39), none, (.op (.iad 1 (.t 37) (.t 38)))⟩,
                  ⟨(some 40), none, (.op (.ld1 (.t 39)))⟩,
                  ⟨(some 41), none, (.op (.mov (.t 4)))⟩,
                  ⟨(some 42), none, (.op (.mov (.t 6)))⟩,
                  ⟨(some 43), none, (.op (.iad 1 (.t 41) (.t 42)))⟩,
                  ⟨(some 44), none, (.op (.ld1 (.t 43)))⟩,
                  ⟨(some 45), none, (.op (.bin .sub (.t 40) (.t 44)))⟩,
                  ⟨(some 46), none, (.op (.bin .sub (.t 45) (.k (.int .i64 1))))⟩,
                  ⟨(some 8), none, (.op (.mov (.t 46)))⟩])
                (.seq (.reg [⟨(some 47), none, (.op (.mov (.t 0)))⟩,
                   ⟨(some 48), none, (.op (.mov (.t 6)))⟩,
                   ⟨(some 49), none, (.op (.iad 6 (.t 47) (.t 48)))⟩,
                   ⟨(some 50), none, (.op (.fad 0 (.t 49)))⟩,
                   ⟨(some 51), none, (.op (.fad 0 (.t 50)))⟩,
                   ⟨(some 52), none, (.op (.ld1 (.t 51)))⟩,
                   ⟨(some 53), none, (.op (.bin .eql (.t 52) (.k (.int .i64 6))))⟩,
                   ⟨(some 54), none, (.op (.mov (.t 53)))⟩,
                   ⟨(some 55), (some (54, false)), (.op (.mov (.t 8)))⟩,
                   ⟨(some 56), (some (54, false)), (.op (.bin .geq (.t 55) (.k (.int .i64 (-32768)))))⟩,
                   ⟨(some 57), (some (54, false)), (.op (.mov (.t 56)))⟩,
                   ⟨(some 58), (some (57, true)), (.op (.mov (.t 8)))⟩,
                   ⟨(some 59), (some (57, true)), (.op (.bin .lss (.t 58) (.k (.int .i64 32768))))⟩,
                   ⟨(some 60), (some (54, false)), (.op (.pick (.t 57) (.t 59) (.k (.bool false))))⟩,
                   ⟨(some 61), none, (.op (.pick (.t 54) (.k (.bool true)) (.t 60)))⟩])
                 (.cond (.t 61) (.seq (.reg [⟨(some 62), none, (.op (.mov (.t 0)))⟩,
                     ⟨(some 63), none, (.op (.mov (.t 6)))⟩,
                     ⟨(some 64), none, (.op (.mov (.t 7)))⟩,
                     ⟨(some 65), none, (.op (.iad 6 (.t 62) (.t 63)))⟩,
                     ⟨(some 66), none, (.op (.fad 5 (.t 65)))⟩,
                     ⟨none, none, (.op (.st 1 (.t 66) (.t 64)))⟩])
                   (.reg [⟨(some 5), none, (.op (.mov (.k (.bool true))))⟩]))
                  (.skip)))))))))
          (.reg [⟨(some 67), none, (.op (.bin .add (.t 13) (.k (.int .i64 1))))⟩,
            ⟨(some 13), none, (.op (.mov (.t 67)))⟩])))))))
    (.seq (.reg [⟨(some 68), none, (.op (.mov (.t 0)))⟩,
       ⟨(some 69), none, (.op (.mov (.t 5)))⟩,
       ⟨(some 2), none, (.op (.mov (.t 68)))⟩,
       ⟨(some 3), none, (.op (.mov (.t 69)))⟩])
     (.ret)))))
def r182 : List XRes := [.t 2, .t 3]
theorem res182 : resolveF Tryz.prog 182 = some (x182, r182, 70) := by kernel_rfl
def x126 : XCode := .seq (.reg [⟨(some 0), none, (.op (.mov (.k (.slice none 0 0))))⟩])
 (.seq (.reg [⟨(some 1), none, (.op (.bsl 1 3 [.nilFunc, .nilFunc, .nilFunc] [(0, 1, (.f 180)), (1, 1, (.f 181)), (2, 1, (.f 182))]))⟩,
    ⟨(some 0), none, (.op (.mov (.t 1)))⟩])
  (.ret))
def r126 : List XRes := [.t 0]
theorem res126 : resolveF Tryz.prog 126 = some (x126, r126, 2) := by kernel_rfl
def x70 : XCode := .seq (.reg [⟨(some 2), none, (.op (.mov (.k (.slice none 0 0))))⟩])
 (.seq (.reg [⟨(some 7), none, (.op (.mov (.t 0)))⟩,
    ⟨(some 8), none, (.call (.f 125) [(.t 7)])⟩,
    ⟨(some 3), none, (.op (.mov (.t 8)))⟩])
  (.seq (.skip)
   (.seq (.block 0 (.loop (.block 1 (.seq (.seq (.reg [⟨(some 9), none, (.call (.f 126) [])⟩,
           ⟨(some 10), none, (.op (.lenl (.t 9)))⟩,
           ⟨(some 11), none, (.op (.mov (.k (.int .i64 0))))⟩])
         (.block 2 (.loop (.seq (.reg [⟨(some 12), none, (.op (.bin .lss (.t 11) (.t 10)))⟩])
            (.seq (.cond (.t 12) (.skip)
              (.exit 2))
             (.seq (.block 3 (.seq (.reg [⟨(some 13), none, (.op (.iad 1 (.t 9) (.t 11)))⟩,
                  ⟨(some 14), none, (.op (.ld1 (.t 13)))⟩,
                  ⟨(some 5), none, (.op (.mov (.t 14)))⟩])
                (.seq (.reg [⟨(some 6), none, (.op (.mov (.k (.bool false))))⟩])
                 (.seq (.reg [⟨(some 16), none, (.op (.mov (.t 5)))⟩,
                    ⟨(some 17), none, (.op (.mov (.t 3)))⟩,
                    ⟨(some 18), none, (.call (.t 16) [(.t 17)])⟩,
                    ⟨(some 15), none, (.op (.mov (.t 18)))⟩,
                    ⟨(some 19), none, (.op (.ext 0 (.t 15)))⟩,
                    ⟨(some 20), none, (.op (.ext 1 (.t 15)))⟩,
                    ⟨(some 3), none, (.op (.mov (.t 19)))⟩,
                    ⟨(some 6), none, (.op (.mov (.t 20)))⟩])
                  (.seq (.reg [⟨(some 21), none, (.op (.mov (.t 6)))⟩])
                   (.cond (.t 21) (.exit 1)
                    (.skip)))))))
              (.reg [⟨(some 22), none, (.op (.bin .add (.t 11) (.k (.int .i64 1))))⟩,
                ⟨(some 11), none, (.op (.mov (.t 22)))⟩])))))))
        (.exit 0)))))
    (.seq (.reg [⟨(some 23), none, (.op (.mov (.t 3)))⟩,
       ⟨(some 24), none, (.call (.f 127) [(.t 23)])⟩,
       ⟨(some 2), none, (.op (.mov (.t 24)))⟩])
     (.ret)))))
def r70 : List XRes := [.t 2]
theorem res70 : resolveF Tryz.prog 70 = some (x70, r70, 25) := by kernel_rfl
def x69 : XCode := .seq (.reg [⟨(some 2), none, (.op (.mov (.k (.slice none 0 0))))⟩])
 (.seq (.seq (.reg [⟨(some 3), none, (.op (.mov (.t 0)))⟩,
     ⟨(some 4), none, (.op (.sno true (.t 3)))⟩])
   (.cond (.t 4) (.seq (.reg [⟨(some 2), none, (.op (.mov (.k (.slice none 0 0))))⟩])
     (.ret))
    (.skip)))
  (.seq (.reg [⟨(some 5), none, (.op (.bsl 5 0 [] []))⟩,
     ⟨(some 6), none, (.op (.mov (.t 0)))⟩,
     ⟨(some 7), none, (.op (.app 5 48 (.t 5) (.t 6)))⟩,
     ⟨(some 2), none, (.op (.mov (.t 7)))⟩])
   (.ret)))
def r69 : List XRes := [.t 2]
theorem res69 : resolveF Tryz.prog 69 = some (x69, r69, 8) := by kernel_rfl
def x23 : XCode := .seq (.reg [⟨(some 1), none, (.op (.box (.t 0)))⟩,
   ⟨(some 2), none, (.op (.alloc [(.slice none 0 0), (.slice none 0 0), (.slice none 0 0), (.int .i64 0)]))⟩,
   ⟨(some 3), none, (.op (.mov (.k (.int .i64 0))))⟩])
 (.seq (.seq (.reg [⟨(some 12), none, (.op (.lda 4 (.t 1)))⟩,
     ⟨(some 13), none, (.call (.f 34) [(.t 12)])⟩,
     ⟨(some 11), none, (.op (.mov (.t 13)))⟩,
     ⟨(some 14), none, (.op (.ext 0 (.t 11)))⟩,
     ⟨(some 15), none, (.op (.ext 1 (.t 11)))⟩,
     ⟨(some 16), none, (.op (.ext 2 (.t 11)))⟩,
     ⟨(some 4), none, (.op (.mov (.t 14)))⟩,
     ⟨(some 5), none, (.op (.mov (.t 15)))⟩,
     ⟨(some 6), none, (.op (.mov (.t 16)))⟩])
   (.seq (.reg [⟨(some 17), none, (.op (.mov (.t 6)))⟩,
      ⟨(some 18), none, (.op (.bin .neq (.t 17) (.k (.int .i64 0))))⟩])
    (.cond (.t 18) (.seq (.reg [⟨(some 19), none, (.op (.build [(.slice none 0 0), (.slice none 0 0), (.slice none 0 0), (.int .i64 0)] []))⟩,
        ⟨(some 20), none, (.op (.mov (.t 6)))⟩,
        ⟨none, none, (.op (.st 4 (.t 2) (.t 19)))⟩,
        ⟨(some 3), none, (.op (.mov (.t 20)))⟩])
      (.ret))
     (.skip))))
  (.seq (.drw none [⟨(some 21), none, (.op (.fad 2 (.t 1)))⟩,
     ⟨(some 22), none, (.op (.ld1 (.t 21)))⟩,
     ⟨(some 23), none, (.call (.f 69) [(.t 22)])⟩,
     ⟨(some 24), none, (.op (.fad 3 (.t 1)))⟩,
     ⟨(some 25), none, (.op (.ld1 (.t 24)))⟩,
     ⟨(some 26), none, (.op (.build [(.slice none 0 0), (.slice none 0 0), (.slice none 0 0), (.int .i64 0)] [(2, 1, (.t 23)), (3, 1, (.t 25))]))⟩,
     ⟨(some 7), none, (.op (.alloc [(.slice none 0 0), (.slice none 0 0), (.slice none 0 0), (.int .i64 0)]))⟩,
     ⟨none, none, (.op (.st 4 (.t 7) (.t 26)))⟩])
   (.seq (.seq (.reg [⟨(some 27), none, (.op (.fad 1 (.t 1)))⟩,
       ⟨(some 28), none, (.op (.ld1 (.t 27)))⟩,
       ⟨(some 29), none, (.op (.lenl (.t 28)))⟩,
       ⟨(some 30), none, (.op (.mov (.k (.int .i64 0))))⟩])
     (.block 0 (.loop (.seq (.reg [⟨(some 31), none, (.op (.bin .lss (.t 30) (.t 29)))⟩])
        (.seq (.cond (.t 31) (.skip)
          (.exit 0))
         (.seq (.block 1 (.seq (.reg [⟨(some 32), none, (.op (.iad 4 (.t 28) (.t 30)))⟩,
              ⟨(some 33), none, (.op (.lda 4 (.t 32)))⟩,
              ⟨(some 9), none, (.op (.alloc [(.string ⟨#[]⟩), (.int .i64 0), (.int .i64 0), (.int .i64 0)]))⟩,
              ⟨none, none, (.op (.st 4 (.t 9) (.t 33)))⟩])
            (.seq (.reg [⟨(some 34), none, (.op (.fad 0 (.t 1)))⟩,
               ⟨(some 35), none, (.op (.ld1 (.t 34)))⟩,
               ⟨(some 36), none, (.op (.fad 2 (.t 9)))⟩,
               ⟨(some 37), none, (.op (.ld1 (.t 36)))⟩,
               ⟨(some 38), none, (.op (.fad 2 (.t 9)))⟩,
               ⟨(some 39), none, (.op (.ld1 (.t 38)))⟩,
               ⟨(some 40), none, (.op (.fad 3 (.t 9)))⟩,
               ⟨(some 41), none, (.op (.ld1 (.t 40)))⟩,
               ⟨(some 42), none, (.op (.bin .add (.t 39) (.t 41)))⟩,
               ⟨(some 43), none, (.op (.sls 5 (.t 35) (some (.t 37)) (some (.t 42))))⟩,
               ⟨(some 44), none, (.call (.f 70) [(.t 43)])⟩,
               ⟨(some 10), none, (.op (.mov (.t 44)))⟩])
             (.seq (.reg [⟨(some 45), none, (.op (.fad 0 (.t 7)))⟩,
                ⟨(some 46), none, (.op (.ld1 (.t 45)))⟩,
                ⟨(some 47), none, (.op (.lenl (.t 46)))⟩,
                ⟨(some 48), none, (.op (.mov (.t 10)))⟩,
                ⟨(some 49), none, (.op (.lenl (.t 48)))⟩,
                ⟨(some 50), none, (.op (.fad 2 (.t 9)))⟩,
                ⟨none, none, (.op (.st 1 (.t 50) (.t 47)))⟩,
                ⟨(some 51), none, (.op (.fad 3 (.t 9)))⟩,
                ⟨none, none, (.op (.st 1 (.t 51) (.t 49)))⟩])
              (.seq (.reg [⟨(some 52), none, (.op (.fad 0 (.t 7)))⟩,
                 ⟨(some 53), none, (.op (.ld1 (.t 52)))⟩,
                 ⟨(some 54), none, (.op (.mov (.t 10)))⟩,
                 ⟨(some 55), none, (.op (.app 5 40 (.t 53) (.t 54)))⟩,
                 ⟨(some 56), none, (.op (.fad 0 (.t 7)))⟩,
                 ⟨none, none, (.op (.st 1 (.t 56) (.t 55)))⟩])
               (.reg [⟨(some 57), none, (.op (.fad 1 (.t 7)))⟩,
                 ⟨(some 58), none, (.op (.ld1 (.t 57)))⟩,
                 ⟨(some 59), none, (.op (.lda 4 (.t 9)))⟩,
                 ⟨(some 60), none, (.op (.bsl 4 1 [(.string ⟨#[]⟩), (.int .i64 0), (.int .i64 0), (.int .i64 0)] [(0, 4, (.t 59))]))⟩,
                 ⟨(some 61), none, (.op (.app 4 40 (.t 58) (.t 60)))⟩,
                 ⟨(some 62), none, (.op (.fad 1 (.t 7)))⟩,
                 ⟨none, none, (.op (.st 1 (.t 62) (.t 61)))⟩]))))))
          (.reg [⟨(some 63), none, (.op (.bin .add (.t 30) (.k (.int .i64 1))))⟩,
            ⟨(some 30), none, (.op (.mov (.t 63)))⟩])))))))
    (.seq (.reg [⟨(some 64), none, (.op (.lda 4 (.t 7)))⟩,
       ⟨none, none, (.op (.st 4 (.t 2) (.t 64)))⟩,
       ⟨(some 3), none, (.op (.mov (.k (.int .i64 0))))⟩])
     (.ret)))))
def r23 : List XRes := [.lda 4 2, .t 3]
theorem res23 : resolveF Tryz.prog 23 = some (x23, r23, 65) := by kernel_rfl
end Go.Tidy
namespace Go.Tidy
open Go Go.Eng Go.Proofs
variable {cx : Cx}
def Stp.row (s : Stp) : List AV := [VI s.ins.op, VI s.ins.dst, VI s.ins.src, VI s.ins.off, VI s.ins.imm, VI s.to]
theorem Stp.len (s : Stp) : s.row.length = 6 := rfl
def placesN (ws : List Nat) (n : Nat) : List Int := beginsN ws (n + 1)
theorem wsB_le (b : List Stp) : (wsB b).sum ≤ 2 * b.length := by
  have := wsI_le (b.map (·.ins))
  have e : wsI (b.map (·.ins)) = wsB b := by unfold wsI wsB; rw [List.map_map]; rfl
  rw [e] at this
  simpa using this
theorem psumB_bound (b : List Stp) (k : Nat) : psum (wsB b) k ≤ 2 * b.length := by
  refine Nat.le_trans ?_ (wsB_le b)
  rw [← psum_all (wsB b) (t := max k (wsB b).length) (by omega)]
  exact psum_mono _ (by omega)
theorem psum_wsB {b : List Stp} {k : Nat} {s : Stp} (h : b[k]? = some s) : psum (wsB b) (k + 1) = psum (wsB b) k + wd s.ins := by
  have h2 : (b.map (·.ins))[k]? = some s.ins := by rw [List.getElem?_map, h]; rfl
  have e : wsI (b.map (·.ins)) = wsB b := by unfold wsI wsB; rw [List.map_map]; rfl
  have := psum_wsI h2
  rwa [e] at this
set_option maxRecDepth 100000 in
set_option maxHeartbeats 2000000 in
theorem c177 (hO : On cx) {h : AH} {bv : AV} {b : List Stp} (hb : SlT Stp.row 6 h bv b) (hl : b.length < 1099511627776) :
    SimCall cx 177 [bv] h fun r h' => r = .sl h.length 0 0 (b.length + 1) 1 ∧ h' = h ++ [.cells 0 ((placesN (wsB b) b.length).map VI)] := by
  refine (SimCall.gc1 hole_id (Q := fun n sz cs => n = b.length + 1 ∧ sz = 1 ∧ cs = (placesN (wsB b) b.length).map VI) ?_).mono (by rintro r h' ⟨n, sz, cs, ⟨rfl, rfl, rfl⟩, rfl, rfl⟩; exact ⟨rfl, rfl⟩)
  refine SimCall.by hO.P res177 ?_
  unfold x177 r177
  repeat' first
    | simp (maxSteps := 1000000) only [go_sem, hb.len]
  refine SimLoop.inv [3, 3, 0, 0] (fun k s => ∃ (i : Nat) (cs : List AV) (g : AH), k = b.length - i ∧ i ≤ b.length ∧ cs = (placesN (wsB b) i).map VI ∧
    s = ⟨[.un, .un, .un, .sl h.length i 0 (i + 1) 1, .un, .un, .un, bv, VI b.length, VI i, .un, .un, .un, .un, .un, .un, .un, .un, .un, .un, .un, .un, .un, .un, .un, .un, .un, .un], h ++ (.cells i cs :: g)⟩) ?_ b.length ?_
  rotate_left
  · exact ⟨0, _, [], rfl, Nat.zero_le _, rfl, by simp only [go_sem]; rfl⟩
  rintro k s ⟨i, cs, g, rfl, hi, hcs, rfl⟩
  generalize hxs : placesN (wsB b) i = xs at hcs
  replace hxs := hxs.symm
  subst hcs
  have hxl : xs.length = i + 1 := by rw [hxs]; exact beginsN_len _ _
  by_cases hlt : i < b.length
  · obtain ⟨p, hp1, hp2, hp3, _⟩ := hb.get Stp.len (by decide) (List.getElem?_eq_getElem hlt)
    have hlt' : ((i : Int) < b.length) := by omega
    have hw := wrap_succ hlt (by omega)
    have hps := psum_wsB (List.getElem?_eq_getElem hlt)
    have hpb := psumB_bound b i
    generalize b[i] = s at hp1 hp2 hp3 hps
    have hwd := wd_le s.ins
    have hlast : xs[i]? = some (psum (wsB b) i : Int) := by
      rw [hxs]
      unfold placesN beginsN
      rw [List.getElem?_map, List.getElem?_range (by omega)]
      rfl
    have hlast' : (xs.map VI)[i]? = some (VI (psum (wsB b) i : Nat)) := by rw [List.getElem?_map, hlast]; rfl
    have hwl : IntKind.i64.wrap (((i + 1 : Nat) : Int) - 1) = (i : Int) := by rw [wrap_id (by omega) (by omega)]; omega
    have h0i : (0 : Int) ≤ i := by omega
    have hii : (i : Int) < ((i + 1 : Nat) : Int) := by omega
    have hw2 : IntKind.i64.wrap (((psum (wsB b) i : Nat) : Int) + (wd s.ins : Int)) = ((psum (wsB b) (i + 1) : Nat) : Int) := by rw [wrap_id (by omega) (by omega), hps]; omega
    have htk : (xs.map VI).take (i + 1) = xs.map VI := List.take_of_length_le (by simp; omega)
    have hby : (i + 1 + 1) * 8 ≤ 140737488355328 := by omega
    have hnle : ¬ i + 1 + 1 ≤ xs.length := by omega
    have hnle2 : i + 1 ≤ xs.length := by omega
    repeat' first
      | ((with_reducible show dK _ 235 _ _ _); refine dK_of _ (c235' hO s.ins _) ?_)
      | simp (maxSteps := 1000000) only [go_sem, hp1, hp2, hp3, hlt', hw, hwl, h0i, hii, hw2, hlast', htk, hby, hnle, hnle2, Stp.row, xRows, Int.toNat_natCast, Nat.mul_one, Nat.zero_add, List.length_map]
    refine ⟨b.length - (i + 1), by omega, i + 1, _, _, rfl, by omega, ?_, rfl⟩
    have e : placesN (wsB b) (i + 1) = xs ++ [((psum (wsB b) (i + 1) : Nat) : Int)] := by rw [hxs]; exact beginsN_succ (wsB b) (i + 1)
    rw [e, List.map_append]; rfl
  · have hlt' : ¬ ((i : Int) < b.length) := by omega
    have hib : i = b.length := by omega
    subst hib
    repeat' first
      | simp (maxSteps := 1000000) only [go_sem, hlt']
    refine ⟨_, rfl, h.length, _, _, _, xs.map VI, rfl, Nat.le_refl _, by simp only [go_sem], ?_, rfl, rfl, by rw [hxs]⟩
    intro x hx
    obtain ⟨y, _, rfl⟩ := List.mem_map.1 hx
    exact .v _
theorem c178 (hO : On cx) (i : Ins) (h : AH) : SimCall cx 178 [i.av] h fun r h' => h' = h ∧ r = VB (leads i) := by
  refine SimCall.gc ?_
  refine SimCall.by hO.P res178 ?_
  unfold x178 r178
  repeat' first
    | ((with_reducible show SemL _ _ _ _); refine SemL.of ?_)
    | ((with_reducible show SimCall _ 145 _ _ _); refine (c145 hO i _).mono ?_; rintro r h' ⟨rfl, rfl⟩)
    | simp (maxSteps := 1000000) only [go_sem]
    | ((with_reducible show wl _ (XI.mk _ (some _) (XBody.op _) :: _) _ _); refine wl_optF rfl (fun e2 => by ((try simp only [Bool.and_eq_true] at e2); first | (simp (maxSteps := 1000000) only [e2, go_sem]; first | done | rfl))) ?_)
  all_goals first | exact ⟨more_one, plain_v _⟩ | exact ⟨more_nil, plain_v _⟩ | refine ⟨by first | exact more_one | exact more_nil, by first | exact plain_v _ | exact plain_tup (by simp [Plain.v]), ?_⟩
  all_goals try simp only [decide_eq_true_eq, decide_eq_false_iff_not, Bool.not_eq_true', Bool.not_eq_false', AV.v.injEq, AV.tup.injEq, List.cons.injEq, Value.int.injEq, Value.bool.injEq, true_and, and_true] at *
  all_goals unfold leads
  all_goals (try simp only [band] at *)
  all_goals (try simp_all)
  all_goals grind
theorem c237 (hO : On cx) (a : Int) (h : AH) : SimCall cx 237 [VI a] h fun r h' => h' = h ∧ r = VB false := by
  refine SimCall.by hO.P res237 ?_
  unfold x237 r237
  repeat' first
    | simp (maxSteps := 1000000) only [go_sem]
theorem c141 (hO : On cx) (a : Int) (h : AH) : SimCall cx 141 [VI a] h fun r h' => h' = h ∧ r = VB false := by
  refine SimCall.by hO.P res141 ?_
  unfold x141 r141
  repeat' first
    | simp (maxSteps := 1000000) only [go_sem]
theorem c236 (hO : On cx) (a b : Int) (h : AH) : SimCall cx 236 [VI a, VI b] h fun r h' => h' = h ∧ r = VB (decide (a < b)) := by
  refine SimCall.by hO.P res236 ?_
  unfold x236 r236
  repeat' first
    | ((with_reducible show SemL _ _ _ _); refine SemL.of ?_)
    | ((with_reducible show SimCall _ 141 _ _ _); refine (c141 hO _ _).mono ?_; rintro r h' ⟨rfl, rfl⟩)
    | simp (maxSteps := 1000000) only [go_sem]
set_option maxRecDepth 100000 in
theorem c179 (hO : On cx) {h : AH} {v : AV} {xs : List Int} (x : Int) (hv : SlI h v xs) (hl : xs.length < 1099511627776) (hs : ∀ (i j : Nat) a b, i ≤ j → xs[i]? = some a → xs[j]? = some b → a ≤ b) :
    SimCall cx 179 [v, VI x] h fun r h' => h' = h ∧ ∃ (n : Nat) (t : Bool), r = .tup [VI n, VB t] ∧ n ≤ xs.length ∧ (∀ (i : Nat) a, i < n → xs[i]? = some a → a < x) ∧ ∀ (i : Nat) a, n ≤ i → xs[i]? = some a → x ≤ a := by
  refine SimCall.by hO.P res179 ?_
  unfold x179 r179
  repeat' first
    | simp (maxSteps := 1000000) only [go_sem, hv.1]
  refine SimLoop.inv [0, 0, 4, 0, 0] (fun k s => ∃ (i j : Nat), k = j - i ∧ i ≤ j ∧ j ≤ xs.length ∧ (∀ (m : Nat) a, m < i → xs[m]? = some a → a < x) ∧ (∀ (m : Nat) a, j ≤ m → xs[m]? = some a → x ≤ a) ∧
    s = ⟨[v, VI x, .un, .un, .un, .un, VI xs.length, VI i, VI j, .un, .un, .un, .un, .un, .un, .un, .un, .un, .un, .un, .un, .un, .un, .un, .un, .un, .un, .un, .un, .un, .un, .un, .un, .un, .un, .un, .un, .un, .un, .un, .un, .un, .un, .un, .un, .un, .un, .un, .un, .un, .un, .un, .un, .un], h⟩) ?_ xs.length ?_
  rotate_left
  · exact ⟨0, xs.length, rfl, Nat.zero_le _, Nat.le_refl _, fun m a hm => absurd hm (by omega), fun m a hm he => absurd (List.getElem?_eq_some_iff.1 he).1 (by omega), by simp only [go_sem]; rfl⟩
  rintro k s ⟨i, j, rfl, hij, hj, hlo, hhi, rfl⟩
  by_cases hlt : i < j
  · have hlt' : ((i : Int) < j) := by omega
    have hm : (i + j) / 2 < xs.length := by omega
    obtain ⟨p, hp1, hp2⟩ := hv.2 ((i + j) / 2) _ (List.getElem?_eq_getElem hm)
    have he := List.getElem?_eq_getElem hm
    generalize xs[(i + j) / 2] = y at hp2 he
    have hw1 : IntKind.i64.wrap ((i : Int) + j) = ((i + j : Nat) : Int) := by rw [wrap_id (by omega) (by omega)]; omega
    have hw2 : IntKind.u64.wrap ((i + j : Nat) : Int) = ((i + j : Nat) : Int) := by simp [IntKind.wrap, IntKind.bits, IntKind.signed]; omega
    have hsh : Int.fdiv ((i + j : Nat) : Int) (2 ^ min (Int.toNat 1) 64) = (((i + j) / 2 : Nat) : Int) := by
      have : (2 ^ min (Int.toNat 1) 64 : Int) = 2 := rfl
      rw [this, Int.fdiv_eq_ediv_of_nonneg _ (by decide)]
      omega
    have hw3 : IntKind.i64.wrap (((i + j) / 2 : Nat) : Int) = (((i + j) / 2 : Nat) : Int) := wrap_id (by omega) (by omega)
    have hw4 : IntKind.i64.wrap ((((i + j) / 2 : Nat) : Int) + 1) = (((i + j) / 2 + 1 : Nat) : Int) := by rw [wrap_id (by omega) (by omega)]; omega
    repeat' first
      | ((with_reducible show wx _ (XCode.cond _ _ _) _ _); refine wx_if rfl (fun _ => ?_) (fun _ => ?_))
      | ((with_reducible show SimCall _ 236 _ _ _); refine (c236 hO _ _ _).mono ?_; rintro r h' ⟨rfl, rfl⟩)
      | simp (maxSteps := 1000000) only [go_sem, hlt', hw1, hw2, hsh, hw3, hw4, hp1, hp2]
    · rename_i e
      simp at e
      refine ⟨j - ((i + j) / 2 + 1), by omega, (i + j) / 2 + 1, j, rfl, by omega, hj, ?_, hhi, rfl⟩
      intro m a hm2 ha
      have := hs m ((i + j) / 2) a y (by omega) ha he
      omega
    · rename_i e
      simp at e
      refine ⟨(i + j) / 2 - i, by omega, i, (i + j) / 2, rfl, by omega, by omega, hlo, ?_, rfl⟩
      intro m a hm2 ha
      have := hs ((i + j) / 2) m y a hm2 he ha
      omega
  · have hlt' : ¬ ((i : Int) < j) := by omega
    have hie : i = j := by omega
    subst hie
    by_cases hin : i < xs.length
    · have hin' : (i : Int) < xs.length := by omega
      obtain ⟨p, hp1, hp2⟩ := hv.2 i _ (List.getElem?_eq_getElem hin)
      repeat' first
        | ((with_reducible show SemL _ _ _ _); refine SemL.of ?_)
        | simp (maxSteps := 1000000) only [go_sem, hlt', hin', hp1, hp2]
        | ((with_reducible show wl _ (XI.mk _ (some _) (XBody.op _) :: _) _ _); first | refine wl_optF rfl (fun e2 => by ((try simp only [Bool.and_eq_true] at e2); first | (simp (maxSteps := 1000000) only [e2, go_sem, hlt', hin', hp1, hp2]; first | done | rfl))) ?_ | refine wl_opt2T rfl (fun e1 e2 => by ((try simp only [Bool.and_eq_true] at e1); first | (simp (maxSteps := 1000000) only [e1, e2, go_sem, hlt', hin', hp1, hp2]; first | done | rfl))) ?_)
        | ((with_reducible show wl _ (XI.mk _ (some _) (XBody.call (XO.f 237) _) :: _) _ _); first | refine wl_optcF rfl rfl (fun e2 => by simp (maxSteps := 1000000) only [e2, go_sem, hlt', hin', hp1, hp2]; exact (c237 hO _ _)) ?_ | refine wl_optc2T rfl rfl (fun e1 e2 => by simp (maxSteps := 1000000) only [e1, e2, go_sem, hlt', hin', hp1, hp2]; exact (c237 hO _ _)) ?_)
      all_goals exact ⟨i, _, rfl, hj, hlo, hhi⟩
    · have hin' : ¬ (i : Int) < xs.length := by omega
      repeat' first
        | ((with_reducible show SemL _ _ _ _); refine SemL.of ?_)
        | simp (maxSteps := 1000000) only [go_sem, hlt', hin']
      all_goals exact ⟨i, _, rfl, hj, hlo, hhi⟩
end Go.Tidy
namespace Go.Tidy
open Go Go.Eng Go.Proofs
variable {cx : Cx}
theorem places_get {ws : List Nat} {n k : Nat} (h : k ≤ n) : (placesN ws n)[k]? = some (psum ws k : Int) := by
  unfold placesN beginsN
  rw [List.getElem?_map, List.getElem?_range (by omega)]
  rfl
theorem places_get' {ws : List Nat} {n k : Nat} {a : Int} (h : (placesN ws n)[k]? = some a) : k ≤ n ∧ a = psum ws k := by
  have hk := (List.getElem?_eq_some_iff.1 h).1
  have hl : (placesN ws n).length = n + 1 := beginsN_len _ _
  have hkn : k ≤ n := by omega
  rw [places_get hkn] at h
  simp only [Option.some.injEq] at h
  exact ⟨hkn, h.symm⟩
theorem rows_set {b : List Stp} {k : Nat} (hk : k < b.length) (s : Stp) : (b.flatMap Stp.row).take (k * 6) ++ (s.row ++ (b.flatMap Stp.row).drop (k * 6 + 6)) = (b.set k s).flatMap Stp.row := by
  have := cells_set (f := Stp.row) (sz := 6) Stp.len hk s
  unfold setCells at this
  rw [Stp.len, List.append_assoc] at this
  exact this
theorem rows_to {b : List Stp} {k : Nat} {s : Stp} (hs : b[k]? = some s) (t : Int) : (b.flatMap Stp.row).take (k * 6 + 5) ++ VI t :: (b.flatMap Stp.row).drop (k * 6 + 5 + 1) = (b.set k ⟨s.ins, t⟩).flatMap Stp.row := by
  obtain ⟨hk, rfl⟩ := List.getElem?_eq_some_iff.1 hs
  rw [← rows_set hk]
  have e1 : (b.flatMap Stp.row).take (k * 6 + 5) = (b.flatMap Stp.row).take (k * 6) ++ ((b.flatMap Stp.row).drop (k * 6)).take 5 := List.take_add
  have e2 : ((b.flatMap Stp.row).drop (k * 6)).take 5 = b[k].row.take 5 := by
    have := cells_at (f := Stp.row) (sz := 6) Stp.len hs
    rw [← this, List.take_take]
    rfl
  rw [e1, e2, List.append_assoc]
  rfl
structure Taken (is : List Ins) (b : List Stp) : Prop where
  len : b.length = is.length
  each : ∀ (k : Nat) s, b[k]? = some s → is[k]? = some s.ins ∧ (leads s.ins = false → s.to = -1) ∧ (leads s.ins = true → ∀ t, t < is.length → (psum (wsI is) t : Int) = psum (wsI is) k + 1 + s.ins.far → s.to = t)
theorem wsB_ins {b : List Stp} {is : List Ins} (hl : b.length = is.length) (h : ∀ (k : Nat) s, b[k]? = some s → is[k]? = some s.ins) : wsB b = wsI is := by
  have : b.map (·.ins) = is := by
    refine List.ext_getElem? fun k => ?_
    rw [List.getElem?_map]
    cases hb : b[k]? with
    | none =>
      rw [List.getElem?_eq_none_iff] at hb
      rw [List.getElem?_eq_none (by omega)]
      rfl
    | some s => rw [h k s hb]; rfl
  unfold wsB wsI
  rw [← this, List.map_map]
  rfl
set_option maxRecDepth 100000 in
set_option maxHeartbeats 4000000 in
theorem c125 (hO : On cx) {h : AH} {v : AV} {is : List Ins} (hv : SlIns h v is) (hl : is.length < 1099511627775) (hmay : ∀ i ∈ is, may i = 0) :
    SimCall cx 125 [v] h fun r h' => ∃ b, Taken is b ∧ r = .sl h.length 0 0 b.length 6 ∧ h' = h ++ [.cells 0 (b.flatMap Stp.row)] := by
  refine (SimCall.gc1 hole_id (Q := fun n sz cs => ∃ b, Taken is b ∧ n = b.length ∧ sz = 6 ∧ cs = b.flatMap Stp.row) ?_).mono (by rintro r h' ⟨n, sz, cs, ⟨b, hb, rfl, rfl, rfl⟩, rfl, rfl⟩; exact ⟨b, hb, rfl, rfl⟩)
  have h00 : (0 : Int) ≤ is.length := by omega
  have h48 : (is.length : Int) * ((48 : Nat) : Int) ≤ 281474976710656 := by omega
  have hbig : (is.length : Int) < 9223372036854775808 := by omega
  have hfl : ∀ n : Nat, (List.replicate n [VI 0, VI 0, VI 0, VI 0, VI 0, VI 0]).flatten = (List.replicate n (⟨⟨0, 0, 0, 0, 0⟩, 0⟩ : Stp)).flatMap Stp.row := by
    intro n
    induction n with
    | zero => rfl
    | succ n ih => rw [List.replicate_succ, List.flatten_cons, ih]; rfl
  refine SimCall.by hO.P res125 ?_
  unfold x125 r125
  repeat' first
    | simp (maxSteps := 1000000) only [go_sem, hv.len, h00, h48, hbig, Int.le_refl, Int.toNat_natCast, hfl]
  refine SimLoop.inv [0, 2, 9, 0, 0] (fun k s => ∃ (i : Nat) (b : List Stp) (g : AH), k = is.length - i ∧ i ≤ is.length ∧ b.length = is.length ∧ (∀ (k : Nat) s, k < i → b[k]? = some s → is[k]? = some s.ins ∧ s.to = -1) ∧
    s = ⟨[v, .un, .un, .sl h.length 0 0 is.length 6, .un, .un, .un, .un, .un, .un, .un, .un, .un, v, VI is.length, VI i, .un, .un, .un, .un, .un, .un, .un, .un, .un, .un, .un, .un, .un, .un, .un, .un, .un, .un, .un, .un, .un, .un, .un, .un, .un, .un, .un, .un, .un, .un, .un, .un, .un, .un, .un, .un, .un, .un, .un, .un, .un, .un, .un, .un, .un, .un, .un], h ++ (.cells 0 (b.flatMap Stp.row) :: g)⟩) ?_ is.length ?_
  rotate_left
  · exact ⟨0, List.replicate is.length ⟨⟨0, 0, 0, 0, 0⟩, 0⟩, [], rfl, Nat.zero_le _, List.length_replicate, fun k s hk => absurd hk (by omega), by simp only [go_sem]; rfl⟩
  rintro k s ⟨i, b, g, rfl, hi, hbl, hb, rfl⟩
  have hrl := cells_len (f := Stp.row) (sz := 6) Stp.len b
  by_cases hlt : i < is.length
  · obtain ⟨p, hp1, hp2, hp3, _⟩ := hv.get Ins.len (by decide) (List.getElem?_eq_getElem hlt)
    have hlt' : ((i : Int) < is.length) := by omega
    have hw := wrap_succ hlt (by omega)
    have hgi := List.getElem?_eq_getElem hlt
    generalize is[i] = x at hp1 hp2 hp3 hgi
    have h0i : (0 : Int) ≤ i := by omega
    have hfit : i * 6 + 6 ≤ (b.flatMap Stp.row).length := by omega
    have hset : (b.flatMap Stp.row).take (i * 6) ++ VI x.op :: VI x.dst :: VI x.src :: VI x.off :: VI x.imm :: VI (-1) :: (b.flatMap Stp.row).drop (i * 6 + 6) = (b.set i ⟨x, -1⟩).flatMap Stp.row := rows_set (by omega) ⟨x, -1⟩
    repeat' first
      | simp (maxSteps := 1000000) only [go_sem, hp1, hp2, hp3, hlt', hw, h0i, hfit, hset, Ins.row, Int.toNat_natCast, Nat.zero_add]
    refine ⟨is.length - (i + 1), by omega, i + 1, _, _, rfl, by omega, by rw [List.length_set]; exact hbl, ?_, rfl⟩
    intro k s hk hs
    by_cases hki : k = i
    · subst hki
      rw [List.getElem?_set_self (by omega)] at hs
      simp only [Option.some.injEq] at hs
      subst hs
      exact ⟨hgi, rfl⟩
    · rw [List.getElem?_set_ne (fun h => hki h.symm)] at hs
      exact hb k s (by omega) hs
  · have hlt' : ¬ ((i : Int) < is.length) := by omega
    have hin : i = is.length := by omega
    subst hin
    have hws : wsB b = wsI is := wsB_ins hbl fun k s hs => (hb k s (by rw [← hbl]; exact (List.getElem?_eq_some_iff.1 hs).1) hs).1
    have hsl : SlT Stp.row 6 (h ++ (.cells 0 (b.flatMap Stp.row) :: g)) (.sl h.length 0 0 is.length 6) b := by
      rw [← hbl]
      exact SlT.whole (f := Stp.row) (xs := b) (l := b.flatMap Stp.row) (fun g' => by simp only [go_sem]) Stp.len rfl
    have h177 := c177 hO hsl (by omega)
    rw [hws] at h177
    repeat' first
      | ((with_reducible show SimCall _ 177 _ _ _); refine (h177).mono ?_; rintro r h' ⟨rfl, rfl⟩)
      | simp (maxSteps := 1000000) only [go_sem, hlt', hv.len]
    generalize hpl : placesN (wsI is) b.length = pl
    have hpl2 : pl = placesN (wsI is) is.length := by rw [← hpl, hbl]
    have hpll : pl.length = is.length + 1 := by rw [hpl2]; exact beginsN_len _ _
    refine SimLoop.inv [0, 2, 2, 21, 0, 0] (fun k s => ∃ (i : Nat) (b : List Stp) (g2 : AH), k = is.length - i ∧ i ≤ is.length ∧ b.length = is.length ∧ (∀ (k : Nat) s, b[k]? = some s → is[k]? = some s.ins) ∧ (∀ (k : Nat) s, i ≤ k → b[k]? = some s → s.to = -1) ∧
      (∀ (k : Nat) s, k < i → b[k]? = some s → (leads s.ins = false → s.to = -1) ∧ (leads s.ins = true → ∀ t, t < is.length → (psum (wsI is) t : Int) = psum (wsI is) k + 1 + s.ins.far → s.to = t)) ∧
      s = ⟨[v, .un, .un, .sl h.length 0 0 is.length 6, .un, .un, .sl (h.length + (g.length + 1)) 0 0 pl.length 1, .un, .un, .un, .un, .un, .un, .un, .un, .un, .un, .un, .un, .un, .un, .un, .un, .un, .un, .un, .un, .un, v, VI is.length, VI i, .un, .un, .un, .un, .un, .un, .un, .un, .un, .un, .un, .un, .un, .un, .un, .un, .un, .un, .un, .un, .un, .un, .un, .un, .un, .un, .un, .un, .un, .un, .un, .un], h ++ (.cells 0 (b.flatMap Stp.row) :: (g ++ .cells 0 (pl.map VI) :: g2))⟩) ?_ is.length ?_
    rotate_left
    · refine ⟨0, b, [], rfl, Nat.zero_le _, hbl, fun k s hs => (hb k s (by rw [← hbl]; exact (List.getElem?_eq_some_iff.1 hs).1) hs).1, fun k s _ hs => (hb k s (by rw [← hbl]; exact (List.getElem?_eq_some_iff.1 hs).1) hs).2, fun k s hk => absurd hk (by omega), ?_⟩
      rw [hpll, ← hbl]
      simp only [go_sem]
      rfl
    clear hrl hb hws hsl h177 hpl
    clear hbl b
    rintro k s ⟨i, b, g2, rfl, hi2, hbl, hins, hno, hyes, rfl⟩
    have hrl := cells_len (f := Stp.row) (sz := 6) Stp.len b
    by_cases hlt2 : i < is.length
    · obtain ⟨p, hp1, hp2, hp3, _⟩ := hv.get Ins.len (by decide) (List.getElem?_eq_getElem hlt2)
      have hlt2' : ((i : Int) < is.length) := by omega
      have hw := wrap_succ hlt2 (by omega)
      have hgi := List.getElem?_eq_getElem hlt2
      have hmx := hmay _ (List.getElem_mem hlt2)
      generalize is[i] = x at hp1 hp2 hp3 hgi hmx
      have hbi := List.getElem?_eq_getElem (show i < b.length by omega)
      have hbx : b[i].ins = x := by
        have := hins i _ hbi
        rw [hgi] at this
        exact (Option.some.inj this).symm
      have hno2 := hno i _ (Nat.le_refl _) hbi
      have h0i : (0 : Int) ≤ i := by omega
      have hto := rows_to hbi
      rw [hbx] at hto
      have hfit : i * 6 + 5 + 1 ≤ (b.flatMap Stp.row).length := by omega
      have hipl : (i : Int) < pl.length := by omega
      have hpli : (pl.map VI)[i]? = some (VI (psum (wsI is) i : Nat)) := by
        rw [hpl2, List.getElem?_map, places_get (by omega)]; rfl
      have hpb := psum_bound is i
      have hheld := held_of_may hmx
      have hfar : -2147483648 ≤ x.off ∧ x.off < 2147483648 ∧ (x.op = 6 → -2147483648 ≤ x.imm ∧ x.imm < 2147483648) := by
        unfold heldB at hheld
        simp only [Bool.and_eq_true, Bool.or_eq_true, decide_eq_true_eq] at hheld
        refine ⟨by omega, by omega, fun h => by omega⟩
      have hw1 : IntKind.i64.wrap (((psum (wsI is) i : Nat) : Int) + 1) = ((psum (wsI is) i : Nat) : Int) + 1 := wrap_id (by omega) (by omega)
      have hsrch : ∀ (y : Int) (H : AH), H.rd (h.length + (g.length + 1)) 0 = some (pl.map VI) → SimCall cx 179 [.sl (h.length + (g.length + 1)) 0 0 pl.length 1, VI y] H fun r h' => h' = H ∧ ∃ (n : Nat) (t : Bool), r = .tup [VI n, VB t] ∧ n ≤ pl.length ∧ (∀ (i : Nat) a, i < n → pl[i]? = some a → a < y) ∧ ∀ (i : Nat) a, n ≤ i → pl[i]? = some a → y ≤ a := by
        intro y H hrd
        refine c179 hO y (sli_whole hrd) (by omega) ?_
        intro i j a b hij ha hb
        rw [hpl2] at ha hb
        obtain ⟨_, rfl⟩ := places_get' ha
        obtain ⟨_, rfl⟩ := places_get' hb
        have := psum_mono (wsI is) hij
        omega
      have huni : ∀ (y : Int) (n : Nat), (∀ (i : Nat) a, i < n → pl[i]? = some a → a < y) → (∀ (i : Nat) a, n ≤ i → pl[i]? = some a → y ≤ a) → ∀ t, t < is.length → (psum (wsI is) t : Int) = y → n = t := by
        intro y n h1 h2 t ht hy
        rcases Nat.lt_trichotomy n t with q | q | q
        · have := h2 n _ (Nat.le_refl _) (by rw [hpl2]; exact places_get (by omega))
          have := psum_lt (wsI is) (fun w hw => by obtain ⟨j, _, rfl⟩ := List.mem_map.1 hw; exact wd_pos j) q (by simp [wsI]; omega)
          omega
        · exact q
        · have := h1 t _ q (by rw [hpl2]; exact places_get (by omega))
          omega
      have hfin : ∀ (y : Int), (leads x = false → y = -1) → (leads x = true → ∀ t, t < is.length → (psum (wsI is) t : Int) = psum (wsI is) i + 1 + x.far → y = t) →
          ∀ (k : Nat) s, k < i + 1 → (b.set i ⟨x, y⟩)[k]? = some s → (leads s.ins = false → s.to = -1) ∧ (leads s.ins = true → ∀ t, t < is.length → (psum (wsI is) t : Int) = psum (wsI is) k + 1 + s.ins.far → s.to = t) := by
        intro y h1 h2 k s hk hs
        by_cases hki : k = i
        · subst hki
          rw [List.getElem?_set_self (by omega)] at hs
          simp only [Option.some.injEq] at hs
          subst hs
          exact ⟨h1, h2⟩
        · rw [List.getElem?_set_ne (fun h => hki h.symm)] at hs
          exact hyes k s (by omega) hs
      have hinsS : ∀ (y : Int) (k : Nat) s, (b.set i ⟨x, y⟩)[k]? = some s → is[k]? = some s.ins := by
        intro y k s hs
        by_cases hki : k = i
        · subst hki
          rw [List.getElem?_set_self (by omega)] at hs
          simp only [Option.some.injEq] at hs
          subst hs
          exact hgi
        · rw [List.getElem?_set_ne (fun h => hki h.symm)] at hs
          exact hins k s hs
      have hnoS : ∀ (y : Int) (k : Nat) s, i + 1 ≤ k → (b.set i ⟨x, y⟩)[k]? = some s → s.to = -1 := by
        intro y k s hk hs
        rw [List.getElem?_set_ne (by omega)] at hs
        exact hno k s (by omega) hs
      by_cases h6 : x.op = 6
      · have hd6 : decide (x.op = 6) = true := decide_eq_true h6
        have hxf : x.far = x.imm := by unfold Ins.far; rw [if_pos h6]
        have hrng := hfar.2.2 h6
        have hw2 : IntKind.i64.wrap (((psum (wsI is) i : Nat) : Int) + 1 + x.imm) = ((psum (wsI is) i : Nat) : Int) + 1 + x.imm := wrap_id (by omega) (by omega)
        repeat' first
          | ((with_reducible show wx _ (XCode.cond _ _ _) _ _); refine wx_if rfl (fun _ => ?_) (fun _ => ?_))
          | ((with_reducible show SimCall _ 178 _ _ _); refine (c178 hO x _).mono ?_; rintro r h' ⟨rfl, rfl⟩)
          | ((with_reducible show SimCall _ 179 _ _ _); refine (hsrch _ _ (by simp only [go_sem])).mono ?_; rintro r h' ⟨rfl, n, t, rfl, hn1, hn2, hn3⟩)
          | simp (maxSteps := 1000000) only [go_sem, hp1, hp2, hp3, hlt2', hlt', hw, h0i, hto, hfit, hipl, hpli, hw1, hw2, hd6, Ins.row, Int.toNat_natCast, Nat.zero_add, Nat.mul_one]
        · rename_i e
          simp at e
          refine ⟨is.length - (i + 1), by omega, i + 1, b, _, rfl, by omega, hbl, hins, fun k s hk hs => hno k s (by omega) hs, ?_, rfl⟩
          intro k s hk hs
          by_cases hki : k = i
          · subst hki
            rw [hbi] at hs
            simp only [Option.some.injEq] at hs
            subst hs
            rw [hbx]
            exact ⟨fun _ => hno2, fun q => by rw [e] at q; cases q⟩
          · exact hyes k s (by omega) hs
        · rename_i e
          simp at e
          refine ⟨is.length - (i + 1), by omega, i + 1, b.set i ⟨x, n⟩, _, rfl, by omega, by rw [List.length_set]; exact hbl, hinsS _, hnoS _, hfin n (fun q => by rw [e] at q; cases q) (fun _ t ht he => ?_), rfl⟩
          rw [huni _ n hn2 hn3 t ht (by rw [he, hxf])]
      · have hd6 : decide (x.op = 6) = false := decide_eq_false h6
        have hxf : x.far = x.off := by unfold Ins.far; rw [if_neg h6]
        have hw2 : IntKind.i64.wrap (((psum (wsI is) i : Nat) : Int) + 1 + x.off) = ((psum (wsI is) i : Nat) : Int) + 1 + x.off := wrap_id (by omega) (by omega)
        repeat' first
          | ((with_reducible show wx _ (XCode.cond _ _ _) _ _); refine wx_if rfl (fun _ => ?_) (fun _ => ?_))
          | ((with_reducible show SimCall _ 178 _ _ _); refine (c178 hO x _).mono ?_; rintro r h' ⟨rfl, rfl⟩)
          | ((with_reducible show SimCall _ 179 _ _ _); refine (hsrch _ _ (by simp only [go_sem])).mono ?_; rintro r h' ⟨rfl, n, t, rfl, hn1, hn2, hn3⟩)
          | simp (maxSteps := 1000000) only [go_sem, hp1, hp2, hp3, hlt2', hlt', hw, h0i, hto, hfit, hipl, hpli, hw1, hw2, hd6, Ins.row, Int.toNat_natCast, Nat.zero_add, Nat.mul_one]
        · rename_i e
          simp at e
          refine ⟨is.length - (i + 1), by omega, i + 1, b, _, rfl, by omega, hbl, hins, fun k s hk hs => hno k s (by omega) hs, ?_, rfl⟩
          intro k s hk hs
          by_cases hki : k = i
          · subst hki
            rw [hbi] at hs
            simp only [Option.some.injEq] at hs
            subst hs
            rw [hbx]
            exact ⟨fun _ => hno2, fun q => by rw [e] at q; cases q⟩
          · exact hyes k s (by omega) hs
        · rename_i e
          simp at e
          refine ⟨is.length - (i + 1), by omega, i + 1, b.set i ⟨x, n⟩, _, rfl, by omega, by rw [List.length_set]; exact hbl, hinsS _, hnoS _, hfin n (fun q => by rw [e] at q; cases q) (fun _ t ht he => ?_), rfl⟩
          rw [huni _ n hn2 hn3 t ht (by rw [he, hxf])]
    · have hlt2' : ¬ ((i : Int) < is.length) := by omega
      repeat' first
        | simp (maxSteps := 1000000) only [go_sem, hlt2']
      refine ⟨_, rfl, h.length, 0, is.length, 6, _, rfl, Nat.le_refl _, ?_, ?_, b, ⟨hbl, fun k s hs => ⟨hins k s hs, hyes k s (by have := (List.getElem?_eq_some_iff.1 hs).1; omega) hs⟩⟩, hbl.symm, rfl, rfl⟩
      · simp only [go_sem]
      · intro y hy
        obtain ⟨s, _, hy⟩ := List.mem_flatMap.1 hy
        simp only [Stp.row, List.mem_cons, List.not_mem_nil, or_false] at hy
        rcases hy with rfl | rfl | rfl | rfl | rfl | rfl <;> exact .v _
end Go.Tidy
namespace Go.Tidy
open Go Go.Eng Go.Proofs
variable {cx : Cx}
theorem laidL_take {b : List Stp} {i : Nat} {s : Stp} (h : b[i]? = some s) : (laidL b).take (i + 1) = (laidL b).take i ++ [laidI (wsB b) i s] := by
  obtain ⟨hi, rfl⟩ := List.getElem?_eq_some_iff.1 h
  have hl : i < (laidL b).length := by simp [laidL]; exact hi
  rw [List.take_succ_eq_append_getElem hl]
  simp [laidL]
def OutI (L : Nat) (sv : AV) (xs : List Ins) (g : AH) : Prop :=
  (xs = [] ∧ sv = .v (.slice none 0 0)) ∨ ∃ g1 g2 ver, g = g1 ++ AO.cells ver (xs.flatMap Ins.row) :: g2 ∧ sv = .sl (L + (g1.length + 1)) ver 0 xs.length 5
set_option maxRecDepth 100000 in
set_option maxHeartbeats 4000000 in
theorem c127 (hO : On cx) {h : AH} {bv : AV} {b : List Stp} (hb : SlT Stp.row 6 h bv b) (hne : 0 < b.length) (hl : b.length < 1099511627776) (hto : ∀ s ∈ b, s.to < b.length) :
    SimCall cx 127 [bv] h fun r h' => r = .sl h.length 0 0 b.length 5 ∧ h' = h ++ [.cells 0 ((laidL b).flatMap Ins.row)] := by
  refine (SimCall.gc1 hole_id (Q := fun n sz cs => n = b.length ∧ sz = 5 ∧ cs = (laidL b).flatMap Ins.row) ?_).mono (by rintro r h' ⟨n, sz, cs, ⟨rfl, rfl, rfl⟩, rfl, rfl⟩; exact ⟨rfl, rfl⟩)
  have hll : (laidL b).length = b.length := by simp [laidL]
  refine SimCall.by hO.P res127 ?_
  unfold x127 r127
  repeat' first
    | ((with_reducible show SimCall _ 177 _ _ _); refine (c177 hO hb hl).mono ?_; rintro r h' ⟨rfl, rfl⟩)
    | simp (maxSteps := 1000000) only [go_sem, hb.len]
  have hpll : (placesN (wsB b) b.length).length = b.length + 1 := beginsN_len _ _
  refine SimLoop.inv [3, 0, 6, 0, 0] (fun k s => ∃ (i : Nat) (sv : AV) (g : AH), k = b.length - i ∧ i ≤ b.length ∧ OutI h.length sv ((laidL b).take i) g ∧
    s = ⟨[.un, .un, .un, .sl h.length 0 0 (b.length + 1) 1, sv, .un, .un, .un, .un, .un, .un, bv, VI b.length, VI i, .un, .un, .un, .un, .un, .un, .un, .un, .un, .un, .un, .un, .un, .un, .un, .un, .un, .un, .un, .un, .un, .un, .un, .un, .un, .un, .un, .un, .un, .un, .un, .un, .un], h ++ (.cells 0 ((placesN (wsB b) b.length).map VI) :: g)⟩) ?_ b.length ?_
  rotate_left
  · exact ⟨0, _, [], rfl, Nat.zero_le _, .inl ⟨rfl, rfl⟩, by simp only [go_sem]; rfl⟩
  rintro k s ⟨i, sv, g, rfl, hi, hgr, rfl⟩
  by_cases hlt : i < b.length
  · obtain ⟨p, hp1, hp2, hp3, _⟩ := hb.get Stp.len (by decide) (List.getElem?_eq_getElem hlt)
    have hlt' : ((i : Int) < b.length) := by omega
    have hw := wrap_succ hlt (by omega)
    have htk := laidL_take (List.getElem?_eq_getElem hlt)
    have hts := hto _ (List.getElem_mem hlt)
    have hxl : ((laidL b).take i).length = i := by rw [List.length_take]; omega
    generalize b[i] = s at hp1 hp2 hp3 htk hts
    obtain ⟨⟨op, dst, src, off, imm⟩, to⟩ := s
    simp only at hts
    generalize (laidL b).take i = xs at htk hxl hgr
    have hrl := cells_len (f := Ins.row) (sz := 5) Ins.len xs
    have htk2 : (xs.flatMap Ins.row).take (xs.length * 5) = xs.flatMap Ins.row := List.take_of_length_le (by omega)
    have hnle : ¬ (xs.length + 1) * 5 ≤ (xs.flatMap Ins.row).length := by omega
    have hnle2 : xs.length * 5 ≤ (xs.flatMap Ins.row).length := by omega
    have hby : (xs.length + 1) * 40 ≤ 140737488355328 := by omega
    have h0i : (0 : Int) ≤ i := by omega
    have hi1 : (i : Int) < ((b.length + 1 : Nat) : Int) := by omega
    have hpi : ((placesN (wsB b) b.length).map VI)[i]? = some (VI (psum (wsB b) i : Nat)) := by rw [List.getElem?_map, places_get (by omega)]; rfl
    have hbi := psumB_bound b i
    by_cases h0 : 0 ≤ to
    · obtain ⟨t, rfl⟩ := Int.eq_ofNat_of_zero_le h0
      have ht1 : (t : Int) < ((b.length + 1 : Nat) : Int) := by omega
      have hpt : ((placesN (wsB b) b.length).map VI)[t]? = some (VI (psum (wsB b) t : Nat)) := by rw [List.getElem?_map, places_get (by omega)]; rfl
      have hbt := psumB_bound b t
      have hw1 : IntKind.i64.wrap (((psum (wsB b) t : Nat) : Int) - ((psum (wsB b) i : Nat) : Int)) = ((psum (wsB b) t : Nat) : Int) - ((psum (wsB b) i : Nat) : Int) := wrap_id (by omega) (by omega)
      have hw2 : IntKind.i64.wrap (((psum (wsB b) t : Nat) : Int) - ((psum (wsB b) i : Nat) : Int) - 1) = dist (wsB b) i t := by rw [wrap_id (by omega) (by omega)]; rfl
      have hli : laidI (wsB b) i ⟨⟨op, dst, src, off, imm⟩, (t : Int)⟩ = if op = 6 then ⟨op, dst, src, off, dist (wsB b) i t⟩ else ⟨op, dst, src, dist (wsB b) i t, imm⟩ := by
        unfold laidI
        rw [if_pos h0]
        unfold Ins.aim
        simp
      rcases hgr with ⟨hx, rfl⟩ | ⟨g1, g2, ver, rfl, rfl⟩
      · skip
        repeat' first
          | ((with_reducible show wx _ (XCode.cond _ _ _) _ _); refine wx_if rfl (fun _ => ?_) (fun _ => ?_))
          | simp (maxSteps := 1000000) only [go_sem, hp1, hp2, hp3, hlt', hw, h0i, hi1, hpi, h0, ht1, hpt, hw1, hw2, Stp.row, xRows, Int.toNat_natCast, Nat.mul_one, Nat.zero_add]
        · rename_i e
          simp at e
          refine ⟨b.length - (i + 1), by omega, i + 1, _, _, rfl, by omega, ?_, rfl⟩
          rw [htk, hx, hli, if_pos e]
          exact .inr ⟨g ++ [.cells 0 (⟨⟨op, dst, src, off, imm⟩, t⟩ : Stp).row, .cells 0 (⟨op, dst, src, off, dist (wsB b) i t⟩ : Ins).row, .cells 0 (⟨op, dst, src, off, dist (wsB b) i t⟩ : Ins).row], [], 0, by simp [Ins.row, Stp.row], by simp⟩
        · rename_i e
          simp at e
          refine ⟨b.length - (i + 1), by omega, i + 1, _, _, rfl, by omega, ?_, rfl⟩
          rw [htk, hx, hli, if_neg e]
          exact .inr ⟨g ++ [.cells 0 (⟨⟨op, dst, src, off, imm⟩, t⟩ : Stp).row, .cells 0 (⟨op, dst, src, dist (wsB b) i t, imm⟩ : Ins).row, .cells 0 (⟨op, dst, src, dist (wsB b) i t, imm⟩ : Ins).row], [], 0, by simp [Ins.row, Stp.row], by simp⟩
      · skip
        repeat' first
          | ((with_reducible show wx _ (XCode.cond _ _ _) _ _); refine wx_if rfl (fun _ => ?_) (fun _ => ?_))
          | simp (maxSteps := 1000000) only [go_sem, hp1, hp2, hp3, hlt', hw, h0i, hi1, hpi, h0, ht1, hpt, hw1, hw2, Stp.row, xRows, Int.toNat_natCast, Nat.mul_one, Nat.zero_add, htk2, hnle, hnle2, hby]
        · rename_i e
          simp at e
          refine ⟨b.length - (i + 1), by omega, i + 1, _, _, rfl, by omega, ?_, rfl⟩
          rw [htk, hli, if_pos e]
          exact .inr ⟨g1, g2 ++ [.cells 0 (⟨⟨op, dst, src, off, imm⟩, t⟩ : Stp).row, .cells 0 (⟨op, dst, src, off, dist (wsB b) i t⟩ : Ins).row, .cells 0 (⟨op, dst, src, off, dist (wsB b) i t⟩ : Ins).row], ver + 1, by simp [Ins.row, Stp.row], by simp⟩
        · rename_i e
          simp at e
          refine ⟨b.length - (i + 1), by omega, i + 1, _, _, rfl, by omega, ?_, rfl⟩
          rw [htk, hli, if_neg e]
          exact .inr ⟨g1, g2 ++ [.cells 0 (⟨⟨op, dst, src, off, imm⟩, t⟩ : Stp).row, .cells 0 (⟨op, dst, src, dist (wsB b) i t, imm⟩ : Ins).row, .cells 0 (⟨op, dst, src, dist (wsB b) i t, imm⟩ : Ins).row], ver + 1, by simp [Ins.row, Stp.row], by simp⟩
    · have hli : laidI (wsB b) i ⟨⟨op, dst, src, off, imm⟩, to⟩ = ⟨op, dst, src, off, imm⟩ := by
        unfold laidI
        rw [if_neg h0]
      rcases hgr with ⟨hx, rfl⟩ | ⟨g1, g2, ver, rfl, rfl⟩
      · skip
        repeat' first
          | simp (maxSteps := 1000000) only [go_sem, hp1, hp2, hp3, hlt', hw, h0, Stp.row, xRows, Int.toNat_natCast, Nat.mul_one, Nat.zero_add]
        · skip
          refine ⟨b.length - (i + 1), by omega, i + 1, _, _, rfl, by omega, ?_, rfl⟩
          rw [htk, hx, hli]
          exact .inr ⟨g ++ [.cells 0 (⟨⟨op, dst, src, off, imm⟩, to⟩ : Stp).row, .cells 0 (⟨op, dst, src, off, imm⟩ : Ins).row, .cells 0 (⟨op, dst, src, off, imm⟩ : Ins).row], [], 0, by simp [Ins.row, Stp.row], by simp⟩
      · skip
        repeat' first
          | simp (maxSteps := 1000000) only [go_sem, hp1, hp2, hp3, hlt', hw, h0, Stp.row, xRows, Int.toNat_natCast, Nat.mul_one, Nat.zero_add, htk2, hnle, hnle2, hby]
        · skip
          refine ⟨b.length - (i + 1), by omega, i + 1, _, _, rfl, by omega, ?_, rfl⟩
          rw [htk, hli]
          exact .inr ⟨g1, g2 ++ [.cells 0 (⟨⟨op, dst, src, off, imm⟩, to⟩ : Stp).row, .cells 0 (⟨op, dst, src, off, imm⟩ : Ins).row, .cells 0 (⟨op, dst, src, off, imm⟩ : Ins).row], ver + 1, by simp [Ins.row, Stp.row], by simp⟩
  · have hlt' : ¬ ((i : Int) < b.length) := by omega
    have hib : i = b.length := by omega
    have htl : (laidL b).take i = laidL b := List.take_of_length_le (by omega)
    rw [htl] at hgr
    subst hib
    repeat' first
      | simp (maxSteps := 1000000) only [go_sem, hlt']
    rcases hgr with ⟨hx, rfl⟩ | ⟨g1, g2, ver, rfl, rfl⟩
    · rw [hx] at hll
      simp at hll
      omega
    · refine ⟨_, rfl, h.length + (g1.length + 1), ver, _, 5, _, rfl, by omega, by simp only [go_sem], ?_, hll, rfl, rfl⟩
      intro y hy
      obtain ⟨s, _, hy⟩ := List.mem_flatMap.1 hy
      simp only [Ins.row, List.mem_cons, List.not_mem_nil, or_false] at hy
      rcases hy with rfl | rfl | rfl | rfl | rfl <;> exact .v _
end Go.Tidy
namespace Go.Tidy
open Go Go.Eng Go.Proofs
variable {cx : Cx}
theorem Stp.get {h : AH} {v : AV} {b : List Stp} (hb : SlT Stp.row 6 h v b) {k : Nat} {s : Stp} (hk : b[k]? = some s) :
    ∃ p q0 q5, xIad 6 v (VI k) = some p ∧ xFad 0 p = some q0 ∧ xFad 5 p = some q5 ∧ (∀ g, xLda (h ++ g) 5 q0 = some s.ins.av) ∧ (∀ g, xLd1 (h ++ g) q5 = some (VI s.to)) ∧ xLda h 5 q0 = some s.ins.av ∧ xLd1 h q5 = some (VI s.to) := by
  have hlt := (List.getElem?_eq_some_iff.1 hk).1
  obtain ⟨p, hp1, hp2, hp3, hp4⟩ := hb.get Stp.len (by decide) hk
  obtain ⟨q5, h1, h2, h3⟩ := hp4 5 (VI s.to) rfl
  have key : ∀ H, xLda H 6 p = some (.agg s.row) → ∀ q0, xFad 0 p = some q0 → xLda H 5 q0 = some s.ins.av := by
    intro H hH q0 hq
    cases p with
    | ptr id ver off =>
      simp only [xFad, Option.some.injEq] at hq
      subst hq
      simp only [xLda, Nat.add_zero] at hH ⊢
      cases hrd : AH.rd H id ver with
      | none => rw [hrd] at hH; cases hH
      | some cs =>
        rw [hrd] at hH
        simp only [Option.bind_some] at hH ⊢
        split at hH
        · rename_i hle
          simp only [Option.some.injEq, AV.agg.injEq] at hH
          rw [if_pos (by omega)]
          have : (cs.drop off).take 5 = ((cs.drop off).take 6).take 5 := by rw [List.take_take]; rfl
          rw [this, hH]
          rfl
        · cases hH
    | rp cs =>
      simp only [xFad, Option.some.injEq, List.drop_zero] at hq
      subst hq
      simp only [xLda] at hH ⊢
      split at hH
      · rename_i hle
        simp only [Option.some.injEq, AV.agg.injEq] at hH
        rw [if_pos (by omega)]
        have : cs.take 5 = (cs.take 6).take 5 := by rw [List.take_take]; rfl
        rw [this, hH]
        rfl
      · cases hH
    | _ => cases hq
  have hq0 : ∃ q0, xFad 0 p = some q0 := by
    cases p <;> first | exact ⟨_, rfl⟩ | (simp [xLda] at hp2)
  obtain ⟨q0, hq0⟩ := hq0
  exact ⟨p, q0, q5, hp1, hq0, h1, fun g => key _ (hp3 g) q0 hq0, h3, key _ hp2 q0 hq0, h2⟩
def unmark : List Bool → Nat
  | [] => 0
  | d :: r => (if d then 0 else 1) + unmark r
theorem unmark_set : ∀ {R : List Bool} {i : Nat}, R[i]? = some false → unmark (R.set i true) + 1 = unmark R
  | [], i, h => by simp at h
  | x :: r, 0, h => by
    simp at h
    subst h
    simp [unmark]
    omega
  | x :: r, i + 1, h => by
    have := unmark_set (R := r) (i := i) (by simpa using h)
    simp only [List.set_cons_succ, unmark]
    omega
theorem unmark_new (n : Nat) : unmark (List.replicate n false) = n := by
  induction n with
  | zero => rfl
  | succ n ih => simp only [List.replicate_succ, unmark, ih]; simp; omega
def tdC (st : List Nat) : List AV := st.reverse.map fun k : Nat => VI (k : Int)
theorem set_midD (cs : List AV) {i : Nat} (hi : i < cs.length) (x : AV) : cs.take i ++ x :: cs.drop (i + 1) = cs.set i x := by
  rw [List.set_eq_take_append_cons_drop, if_pos hi]
theorem tdC_cons (k : Nat) (st : List Nat) : tdC (k :: st) = tdC st ++ [VI k] := by simp [tdC]
theorem tdC_len (st : List Nat) : (tdC st).length = st.length := by simp [tdC]
structure Goes (b : List Stp) (R : List Bool) (st : List Nat) : Prop where
  len : R.length = b.length
  inn : ∀ k ∈ st, k < b.length
  zero : R[0]? = some true ∨ 0 ∈ st
  to : ∀ (k : Nat) s, b[k]? = some s → R[k]? = some true → leads s.ins = true → R[s.to.toNat]? = some true ∨ s.to.toNat ∈ st
  next : ∀ (k : Nat) s, b[k]? = some s → R[k]? = some true → jumps s.ins ≠ 1 → jumps s.ins ≠ 4 → R[k + 1]? = some true ∨ k + 1 ∈ st
theorem Goes.skip {b : List Stp} {R : List Bool} {st : List Nat} {k : Nat} (h : Goes b R (k :: st)) (hk : R[k]? = some true) : Goes b R st := by
  have key : ∀ j, (R[j]? = some true ∨ j ∈ k :: st) → R[j]? = some true ∨ j ∈ st := by
    intro j hj
    rcases hj with q | q
    · exact .inl q
    · rcases List.mem_cons.1 q with rfl | q
      · exact .inl hk
      · exact .inr q
  exact ⟨h.len, fun j hj => h.inn j (by simp [hj]), key 0 h.zero, fun j s h1 h2 h3 => key _ (h.to j s h1 h2 h3), fun j s h1 h2 h3 h4 => key _ (h.next j s h1 h2 h3 h4)⟩
theorem Goes.mark {b : List Stp} {R : List Bool} {st st2 : List Nat} {k : Nat} {s : Stp} (h : Goes b R (k :: st)) (hk : R[k]? = some false) (hs : b[k]? = some s) (hsub : ∀ j ∈ st, j ∈ st2) (hinn : ∀ j ∈ st2, j < b.length)
    (h1 : leads s.ins = true → s.to.toNat ∈ st2) (h2 : jumps s.ins ≠ 1 → jumps s.ins ≠ 4 → k + 1 ∈ st2) : Goes b (R.set k true) st2 := by
  have hlt := (List.getElem?_eq_some_iff.1 hk).1
  have key : ∀ j, (R[j]? = some true ∨ j ∈ k :: st) → (R.set k true)[j]? = some true ∨ j ∈ st2 := by
    intro j hj
    by_cases hjk : j = k
    · subst hjk; exact .inl (List.getElem?_set_self hlt)
    · rcases hj with q | q
      · rw [List.getElem?_set_ne (fun q => hjk q.symm)]; exact .inl q
      · rcases List.mem_cons.1 q with q | q
        · exact absurd q hjk
        · exact .inr (hsub j q)
  refine ⟨by rw [List.length_set]; exact h.len, hinn, key 0 h.zero, ?_, ?_⟩
  · intro j s' hs' hR hl
    by_cases hjk : j = k
    · subst hjk
      rw [hs] at hs'
      cases hs'
      exact .inr (h1 hl)
    · rw [List.getElem?_set_ne (fun q => hjk q.symm)] at hR
      exact key _ (h.to j s' hs' hR hl)
  · intro j s' hs' hR h3 h4
    by_cases hjk : j = k
    · subst hjk
      rw [hs] at hs'
      cases hs'
      exact .inr (h2 h3 h4)
    · rw [List.getElem?_set_ne (fun q => hjk q.symm)] at hR
      exact key _ (h.next j s' hs' hR h3 h4)
theorem Goes.reach {b : List Stp} {R : List Bool} (h : Goes b R []) : Reach b fun k => R.getD k false := by
  have key : ∀ j, (R[j]? = some true ∨ j ∈ ([] : List Nat)) → R.getD j false = true := by
    intro j hj
    rcases hj with q | q
    · rw [List.getD_eq_getElem?_getD, q]; rfl
    · simp at q
  have back : ∀ j, R.getD j false = true → R[j]? = some true := by
    intro j hj
    rw [List.getD_eq_getElem?_getD] at hj
    cases hr : R[j]? with
    | none => rw [hr] at hj; simp at hj
    | some t => rw [hr] at hj; simp at hj; rw [hj]
  exact ⟨key 0 h.zero, fun k s hk hr hl => key _ (h.to k s hk (back k hr) hl), fun k s hk hr h1 h4 => key _ (h.next k s hk (back k hr) h1 h4)⟩
set_option maxRecDepth 100000 in
set_option maxHeartbeats 4000000 in
theorem c238 (hO : On cx) {h : AH} {bv : AV} {b : List Stp} (hb : SlT Stp.row 6 h bv b) (hf : Fits b) (hl : b.length < 1099511627776) :
    SimCall cx 238 [bv] h fun r h' => ∃ R : List Bool, R.length = b.length ∧ Reach b (fun k => R.getD k false) ∧ r = .sl h.length 0 0 b.length 1 ∧ h' = h ++ [.cells 0 (R.map VB)] := by
  refine (SimCall.gc1 hole_id (Q := fun n sz cs => ∃ R : List Bool, R.length = b.length ∧ Reach b (fun k => R.getD k false) ∧ n = b.length ∧ sz = 1 ∧ cs = R.map VB) ?_).mono (by rintro r h' ⟨n, sz, cs, ⟨R, h1, h2, rfl, rfl, rfl⟩, rfl, rfl⟩; exact ⟨R, h1, h2, rfl, rfl⟩)
  have hne := hf.ne
  have h00 : (0 : Int) ≤ b.length := by omega
  have h1b : (b.length : Int) * ((1 : Nat) : Int) ≤ 281474976710656 := by omega
  have hbig : (b.length : Int) < 9223372036854775808 := by omega
  have hfl : ∀ n : Nat, (List.replicate n [VB false]).flatten = (List.replicate n false).map VB := by
    intro n
    induction n with
    | zero => rfl
    | succ n ih => rw [List.replicate_succ, List.flatten_cons, ih]; rfl
  refine SimCall.by hO.P res238 ?_
  unfold x238 r238
  repeat' first
    | simp (maxSteps := 1000000) only [go_sem, hb.len, h00, h1b, hbig, Int.le_refl, Int.toNat_natCast, hfl]
  refine SimLoop.inv [0, 2, 0] (fun k s => ∃ (R : List Bool) (st : List Nat) (g1 g2 : AH) (ver : Nat) (rest : List AV), k = 3 * unmark R + st.length ∧ unmark R + st.length ≤ b.length + 1 ∧ Goes b R st ∧
    s = ⟨[bv, .un, .un, .sl h.length 0 0 b.length 1, .sl (h.length + (g1.length + 1)) ver 0 st.length 1, .un, .un, .un, .un, .un, .un, .un, .un, .un, .un, .un, .un, .un, .un, .un, .un, .un, .un, .un, .un, .un, .un, .un, .un, .un, .un, .un, .un, .un, .un, .un, .un, .un, .un, .un, .un, .un, .un, .un, .un, .un, .un, .un, .un, .un, .un, .un, .un, .un, .un, .un, .un, .un, .un, .un, .un, .un, .un, .un], h ++ (.cells 0 (R.map VB) :: (g1 ++ .cells ver (tdC st ++ rest) :: g2))⟩) ?_ (3 * b.length + 1) ?_
  rotate_left
  · refine ⟨List.replicate b.length false, [0], [], [], 0, [], by rw [unmark_new]; rfl, by rw [unmark_new]; exact Nat.le_refl _, ⟨by simp, fun k hk => by simp at hk; omega, .inr (by simp), ?_, ?_⟩, by simp only [go_sem, tdC, List.reverse_cons, List.reverse_nil]; rfl⟩
    · intro k s _ hR
      have := List.eq_of_mem_replicate (List.mem_of_getElem? hR)
      cases this
    · intro k s _ hR
      have := List.eq_of_mem_replicate (List.mem_of_getElem? hR)
      cases this
  rintro k s ⟨R, st, g1, g2, ver, rest, rfl, hun, hg, rfl⟩
  cases st with
  | nil =>
    have hlf : ¬ (0 : Int) < ((0 : Nat) : Int) := by decide
    repeat' first
      | simp (maxSteps := 1000000) only [go_sem, hlf]
    refine ⟨_, rfl, h.length, 0, _, 1, _, rfl, Nat.le_refl _, by simp only [go_sem], ?_, R, hg.len, hg.reach, rfl, rfl, rfl⟩
    intro y hy
    obtain ⟨t, _, rfl⟩ := List.mem_map.1 hy
    exact .v _
  | cons k st =>
    have hkl := hg.inn k (by simp)
    have hRl := hg.len
    have hRk := List.getElem?_eq_getElem (show k < R.length by omega)
    have hbk := List.getElem?_eq_getElem hkl
    obtain ⟨p, q0, q5, hp1, hp2, hp3, hp4, hp5, _, _⟩ := Stp.get hb hbk
    have hto := hf.to k _ hbk
    have hnoT := hf.no k _ hbk
    have hlast := fun q1 q4 => hf.last' hbk q1 q4
    generalize b[k] = s at hbk hp4 hp5 hto hnoT hlast
    have hRm : (R.map VB)[k]? = some (VB R[k]) := by rw [List.getElem?_map, hRk]; rfl
    have hset : (R.map VB).take k ++ VB true :: (R.map VB).drop (k + 1) = (R.set k true).map VB := by
      rw [set_midD _ (by simp; omega), List.map_set]
    have hil : k + 1 ≤ (R.map VB).length := by simp; omega
    have h0k : (0 : Int) ≤ (k : Int) := by omega
    have hkb : (k : Int) < (b.length : Int) := by omega
    have hpos : (0 : Int) < ((st.length + 1 : Nat) : Int) := by omega
    have hstl : st.length + 1 ≤ b.length + 1 := by simp at hun; omega
    have hwl : IntKind.i64.wrap (((st.length + 1 : Nat) : Int) - 1) = (st.length : Int) := by rw [wrap_id (by omega) (by omega)]; omega
    have h0s : (0 : Int) ≤ (st.length : Int) := by omega
    have hss : (st.length : Int) < ((st.length + 1 : Nat) : Int) := by omega
    have hle5 : (st.length : Int) ≤ ((st.length + 1 : Nat) : Int) := by omega
    have hBl := tdC_len st
    rw [tdC_cons]
    generalize hBg : tdC st = B at hBl
    have r0 : ∀ (x : AV) l, (B ++ x :: l)[st.length]? = some x := fun x l => by rw [← hBl]; simp
    cases hRb : R[k] with
    | true =>
      rw [hRb] at hRm hRk
      repeat' first
        | simp (maxSteps := 1000000) only [go_sem, hpos, hwl, h0s, hss, hle5, r0, h0k, hkb, hRm, xHi, xLo, or_true, Nat.zero_mul, Nat.sub_zero, Int.toNat_natCast, Nat.zero_add, Nat.mul_one]
      refine ⟨3 * unmark R + st.length, by simp, R, st, g1, g2, ver, VI k :: rest, rfl, by simp at hun; omega, hg.skip hRk, ?_⟩
      rw [← hBg]
    | false =>
      rw [hRb] at hRm hRk
      have hun2 := unmark_set hRk
      have hwk : IntKind.i64.wrap ((k : Int) + 1) = ((k + 1 : Nat) : Int) := by rw [wrap_id (by omega) (by omega)]; omega
      have tB : ∀ l, List.take st.length (B ++ l) = B := fun l => by rw [← hBl, List.take_left]
      have tB1 : ∀ (x : AV) l, List.take (st.length + 1) (B ++ x :: l) = B ++ [x] := fun x l => by rw [← hBl, List.take_length_add_append]; rfl
      have dB : ∀ (x : AV) l, List.drop (st.length + 1) (B ++ x :: l) = l := fun x l => by rw [← hBl, ← List.drop_drop, List.drop_left]; rfl
      have dB1 : ∀ (x y : AV) l, List.drop (st.length + 1 + 1) (B ++ x :: y :: l) = l := fun x y l => by rw [← hBl, Nat.add_assoc, ← List.drop_drop, List.drop_left]; rfl
      have hby : (st.length + 1 + 1) * 8 ≤ 140737488355328 := by omega
      by_cases hld : leads s.ins = true
      · obtain ⟨h0t, htl, _⟩ := hto hld
        obtain ⟨⟨op, dst, src, off, imm⟩, to⟩ := s
        simp only at h0t htl hp5
        obtain ⟨t, rfl⟩ := Int.eq_ofNat_of_zero_le h0t
        cases rest with
        | nil =>
          have hf1 : st.length + 1 ≤ B.length + (0 + 1) := by omega
          have hf1' : st.length + 1 ≤ B.length + 1 := by omega
          have hf2 : ¬ st.length + 1 + 1 ≤ B.length + 1 := by omega
          have hf3 : st.length + 1 ≤ B.length + 1 := by omega
          repeat' first
            | ((with_reducible show wx _ (XCode.cond _ _ _) _ _); refine wx_if rfl (fun _ => ?_) (fun _ => ?_))
            | ((with_reducible show SemL _ _ _ _); refine SemL.of ?_)
            | ((with_reducible show SimCall _ 145 _ _ _); refine (c145 hO ⟨op, dst, src, off, imm⟩ _).mono ?_; rintro r h' ⟨rfl, rfl⟩)
            | simp (maxSteps := 1000000) only [go_sem, hpos, hwl, h0s, hss, hle5, r0, h0k, hkb, hRm, hset, hil, hp1, hp2, hp3, hp4, hp5, hf1, hf2, tB, tB1, dB, dB1, hwk, xHi, xLo, xRows, or_true, Nat.zero_mul, Nat.sub_zero, Int.toNat_natCast, Nat.zero_add, Nat.mul_one, hf1', hf3, hby, h0t]
            | ((with_reducible show wl _ (XI.mk _ (some _) (XBody.op _) :: _) _ _); refine wl_optT rfl (fun e2 => by ((try simp only [Bool.and_eq_true] at e2); first | (simp (maxSteps := 1000000) only [e2, go_sem, hpos, hwl, h0s, hss, hle5, r0, h0k, hkb, hRm, hset, hil, hp1, hp2, hp3, hp4, hp5, hf1, hf2, tB, tB1, dB, dB1, hwk, xHi, xLo, xRows, or_true, Nat.zero_mul, Nat.sub_zero, Int.toNat_natCast, Nat.zero_add, Nat.mul_one, hf1', hf3, hby, h0t]; first | done | rfl))) ?_)
          · rename_i e
            simp at e
            refine ⟨3 * unmark (R.set k true) + ((k + 1) :: t :: st).length, ?_, R.set k true, (k + 1) :: t :: st, g1, g2 ++ [.cells 0 [VI t], .cells 0 [VI ((k + 1 : Nat) : Int)]], ver + 1, [], rfl, ?_, hg.mark hRk hbk ?_ ?_ ?_ ?_, ?_⟩
            · (try simp only [List.length_cons]); omega
            · (try simp only [List.length_cons] at hun ⊢); omega
            · intro j hj; simp [hj]
            · intro j hj
              have hj2 : j ∈ st → j < b.length := fun q => hg.inn j (by simp [q])
              have hnx := hlast e.1 e.2
              simp only [List.mem_cons] at hj
              rcases hj with rfl | rfl | hj
              · omega
              · omega
              · exact hj2 hj
            · intro q; simp
            · intro q1 q4; simp
            · simp only [tdC_cons, hBg, List.append_assoc, List.cons_append, List.nil_append]; rfl
          · rename_i e
            simp at e
            refine ⟨3 * unmark (R.set k true) + (t :: st).length, ?_, R.set k true, t :: st, g1, g2 ++ [.cells 0 [VI t]], ver, [], rfl, ?_, hg.mark hRk hbk ?_ ?_ ?_ ?_, ?_⟩
            · (try simp only [List.length_cons]); omega
            · (try simp only [List.length_cons] at hun ⊢); omega
            · intro j hj; simp [hj]
            · intro j hj
              have hj2 : j ∈ st → j < b.length := fun q => hg.inn j (by simp [q])
              simp only [List.mem_cons] at hj
              rcases hj with rfl | hj
              · omega
              · exact hj2 hj
            · intro q; simp
            · intro q1 q4; exact absurd (e q1) q4
            · simp only [tdC_cons, hBg, List.append_assoc, List.cons_append, List.nil_append]; rfl
        | cons x0 rest =>
          have hf1 : st.length + 1 ≤ B.length + (rest.length + 1 + 1) := by omega
          have hf2 : st.length + 1 + 1 ≤ B.length + (rest.length + 1 + 1) := by omega
          repeat' first
            | ((with_reducible show wx _ (XCode.cond _ _ _) _ _); refine wx_if rfl (fun _ => ?_) (fun _ => ?_))
            | ((with_reducible show SemL _ _ _ _); refine SemL.of ?_)
            | ((with_reducible show SimCall _ 145 _ _ _); refine (c145 hO ⟨op, dst, src, off, imm⟩ _).mono ?_; rintro r h' ⟨rfl, rfl⟩)
            | simp (maxSteps := 1000000) only [go_sem, hpos, hwl, h0s, hss, hle5, r0, h0k, hkb, hRm, hset, hil, hp1, hp2, hp3, hp4, hp5, hf1, hf2, tB, tB1, dB, dB1, hwk, xHi, xLo, xRows, or_true, Nat.zero_mul, Nat.sub_zero, Int.toNat_natCast, Nat.zero_add, Nat.mul_one, h0t]
            | ((with_reducible show wl _ (XI.mk _ (some _) (XBody.op _) :: _) _ _); refine wl_optT rfl (fun e2 => by ((try simp only [Bool.and_eq_true] at e2); first | (simp (maxSteps := 1000000) only [e2, go_sem, hpos, hwl, h0s, hss, hle5, r0, h0k, hkb, hRm, hset, hil, hp1, hp2, hp3, hp4, hp5, hf1, hf2, tB, tB1, dB, dB1, hwk, xHi, xLo, xRows, or_true, Nat.zero_mul, Nat.sub_zero, Int.toNat_natCast, Nat.zero_add, Nat.mul_one, h0t]; first | done | rfl))) ?_)
          · rename_i e
            simp at e
            refine ⟨3 * unmark (R.set k true) + ((k + 1) :: t :: st).length, ?_, R.set k true, (k + 1) :: t :: st, g1, g2 ++ [.cells 0 [VI t], .cells 0 [VI ((k + 1 : Nat) : Int)]], ver, rest, rfl, ?_, hg.mark hRk hbk ?_ ?_ ?_ ?_, ?_⟩
            · (try simp only [List.length_cons]); omega
            · (try simp only [List.length_cons] at hun ⊢); omega
            · intro j hj; simp [hj]
            · intro j hj
              have hj2 : j ∈ st → j < b.length := fun q => hg.inn j (by simp [q])
              have hnx := hlast e.1 e.2
              simp only [List.mem_cons] at hj
              rcases hj with rfl | rfl | hj
              · omega
              · omega
              · exact hj2 hj
            · intro q; simp
            · intro q1 q4; simp
            · simp only [tdC_cons, hBg, List.append_assoc, List.cons_append, List.nil_append]; rfl
          · rename_i e
            simp at e
            refine ⟨3 * unmark (R.set k true) + (t :: st).length, ?_, R.set k true, t :: st, g1, g2 ++ [.cells 0 [VI t]], ver, x0 :: rest, rfl, ?_, hg.mark hRk hbk ?_ ?_ ?_ ?_, ?_⟩
            · (try simp only [List.length_cons]); omega
            · (try simp only [List.length_cons] at hun ⊢); omega
            · intro j hj; simp [hj]
            · intro j hj
              have hj2 : j ∈ st → j < b.length := fun q => hg.inn j (by simp [q])
              simp only [List.mem_cons] at hj
              rcases hj with rfl | hj
              · omega
              · exact hj2 hj
            · intro q; simp
            · intro q1 q4; exact absurd (e q1) q4
            · simp only [tdC_cons, hBg, List.append_assoc, List.cons_append, List.nil_append]; rfl
      · have hto1 := hnoT (by simpa using hld)
        have hld' : leads s.ins = false := by simpa using hld
        obtain ⟨⟨op, dst, src, off, imm⟩, to⟩ := s
        simp only at hto1
        subst hto1
        have hf1 : st.length + 1 ≤ B.length + (rest.length + 1) := by omega
        skip
        repeat' first
          | ((with_reducible show wx _ (XCode.cond _ _ _) _ _); refine wx_if rfl (fun _ => ?_) (fun _ => ?_))
          | ((with_reducible show SemL _ _ _ _); refine SemL.of ?_)
          | ((with_reducible show SimCall _ 145 _ _ _); refine (c145 hO ⟨op, dst, src, off, imm⟩ _).mono ?_; rintro r h' ⟨rfl, rfl⟩)
          | simp (maxSteps := 1000000) only [go_sem, hpos, hwl, h0s, hss, hle5, r0, h0k, hkb, hRm, hset, hil, hp1, hp2, hp3, hp4, hp5, hf1, tB, tB1, dB, dB1, hwk, xHi, xLo, xRows, or_true, Nat.zero_mul, Nat.sub_zero, Int.toNat_natCast, Nat.zero_add, Nat.mul_one]
          | ((with_reducible show wl _ (XI.mk _ (some _) (XBody.op _) :: _) _ _); refine wl_optT rfl (fun e2 => by ((try simp only [Bool.and_eq_true] at e2); first | (simp (maxSteps := 1000000) only [e2, go_sem, hpos, hwl, h0s, hss, hle5, r0, h0k, hkb, hRm, hset, hil, hp1, hp2, hp3, hp4, hp5, hf1, tB, tB1, dB, dB1, hwk, xHi, xLo, xRows, or_true, Nat.zero_mul, Nat.sub_zero, Int.toNat_natCast, Nat.zero_add, Nat.mul_one]; first | done | rfl))) ?_)
        · rename_i e
          simp at e
          refine ⟨3 * unmark (R.set k true) + ((k + 1) :: st).length, ?_, R.set k true, (k + 1) :: st, g1, g2 ++ [.cells 0 [VI ((k + 1 : Nat) : Int)]], ver, rest, rfl, ?_, hg.mark hRk hbk ?_ ?_ ?_ ?_, ?_⟩
          · (try simp only [List.length_cons]); omega
          · (try simp only [List.length_cons] at hun ⊢); omega
          · intro j hj; simp [hj]
          · intro j hj
            have hj2 : j ∈ st → j < b.length := fun q => hg.inn j (by simp [q])
            have hnx := hlast e.1 e.2
            simp only [List.mem_cons] at hj
            rcases hj with rfl | hj
            · omega
            · exact hj2 hj
          · intro q; exact absurd q hld
          · intro q1 q4; simp
          · simp only [tdC_cons, hBg, List.append_assoc, List.cons_append, List.nil_append]; rfl
        · rename_i e
          simp at e
          refine ⟨3 * unmark (R.set k true) + (st).length, ?_, R.set k true, st, g1, g2, ver, VI k :: rest, rfl, ?_, hg.mark hRk hbk ?_ ?_ ?_ ?_, ?_⟩
          · (try simp only [List.length_cons]); omega
          · (try simp only [List.length_cons] at hun ⊢); omega
          · intro j hj; simp [hj]
          · intro j hj
            have hj2 : j ∈ st → j < b.length := fun q => hg.inn j (by simp [q])
            exact hj2 hj
          · intro q; exact absurd q hld
          · intro q1 q4; exact absurd (e q1) q4
          · simp only [tdC_cons, hBg, List.append_assoc, List.cons_append, List.nil_append]
end Go.Tidy
namespace Go.Tidy
open Go Go.Eng Go.Proofs
variable {cx : Cx}
theorem find_int2 (x : Int) : ∀ (es : List (Nat × Value × AV)), (∀ e ∈ es, ∃ n : Int, e.2.1 = .int .i64 n) → ∃ o : Option Nat, xFind ⟨false, [1]⟩ (.int .i64 x) es = some o ∧ (o = none → ∀ e ∈ es, e.2.1 ≠ .int .i64 x) ∧ ∀ i, o = some i → ∃ e, es[i]? = some e ∧ e.2.1 = .int .i64 x
  | [], _ => ⟨none, rfl, fun _ e he => by simp at he, fun i h => by cases h⟩
  | e :: r, h => by
    obtain ⟨n, hn⟩ := h e (by simp)
    obtain ⟨o, h1, h2, h3⟩ := find_int2 x r (fun e' he => h e' (by simp [he]))
    simp only [xFind, hn]
    by_cases hx : x = n
    · subst hx
      refine ⟨some 0, by simp [xEq, ofV, xEqs, sameOne], (fun q => by cases q), fun i hi => ?_⟩
      cases hi
      exact ⟨e, rfl, hn⟩
    · refine ⟨o.map (· + 1), by simp [xEq, ofV, xEqs, sameOne, hx, h1], ?_, ?_⟩
      · intro q e' he
        rcases List.mem_cons.1 he with rfl | he
        · rw [hn]; intro q2; cases q2; exact hx rfl
        · cases o with
          | none => exact h2 rfl e' he
          | some j => cases q
      · intro i hi
        cases o with
        | none => cases hi
        | some j =>
          simp at hi
          subst hi
          obtain ⟨e', q1, q2⟩ := h3 j rfl
          exact ⟨e', by simpa using q1, q2⟩
def mapG (vf : Nat → Int) (n : Nat) : List (Nat × Value × AV) := (List.range n).map fun k => (k, .int .i64 (k : Int), VI (vf k))
theorem mapG_succ (vf : Nat → Int) (n : Nat) : mapG vf (n + 1) = mapG vf n ++ [(n, .int .i64 (n : Int), VI (vf n))] := by
  unfold mapG
  rw [List.range_succ, List.map_append]
  rfl
theorem mapG_int (vf : Nat → Int) (n : Nat) : ∀ e ∈ mapG vf n, ∃ x : Int, e.2.1 = .int .i64 x := by
  intro e he
  obtain ⟨k, _, rfl⟩ := List.mem_map.1 he
  exact ⟨_, rfl⟩
section
variable {H : AH} {m : AV} {id c n k : Nat} {vf : Nat → Int}
theorem lku_G (hm : H.mapAt m = some (id, c, mapG vf n)) (hk : k < n) : xLku H ⟨false, [1]⟩ (.int .i64 0) false m (VI k) = some (VI (vf k)) := by
  obtain ⟨o, h1, h2, h3⟩ := find_int2 (k : Int) (mapG vf n) (mapG_int vf n)
  have hgk : ∀ i, i < n → (mapG vf n)[i]? = some (i, .int .i64 (i : Int), VI (vf i)) := by
    intro i hi
    unfold mapG
    rw [List.getElem?_map, List.getElem?_range hi]
    rfl
  unfold xLku xLk
  simp only [AV.toV, Option.bind_some, keyI_ok, if_true, hm, h1, Option.map_some]
  cases o with
  | none => exact absurd rfl (h2 rfl _ (List.mem_of_getElem? (hgk k hk)))
  | some i =>
    obtain ⟨e, q1, q2⟩ := h3 i rfl
    have hi : i < n := by
      have := (List.getElem?_eq_some_iff.1 q1).1
      simpa [mapG] using this
    rw [hgk i hi] at q1
    cases q1
    simp only [Value.int.injEq, true_and] at q2
    have : i = k := by omega
    subst this
    simp [hgk i hi]
theorem mup_G (hm : H.mapAt m = some (id, n, mapG vf n)) : xMup H ⟨false, [1]⟩ m (VI n) (VI (vf n)) = some (H.set id (.map (n + 1) (mapG vf (n + 1)))) := by
  obtain ⟨o, h1, h2, h3⟩ := find_int2 (n : Int) (mapG vf n) (mapG_int vf n)
  unfold xMup
  simp only [AV.toV, Option.bind_some, keyI_ok, if_true, hm, h1]
  cases o with
  | none => simp [mapG_succ]
  | some i =>
    obtain ⟨e, q1, q2⟩ := h3 i rfl
    obtain ⟨j, hj, rfl⟩ := List.mem_map.1 (List.mem_of_getElem? q1)
    simp at hj q2
    omega
end
def movS (g : Nat → Bool) (s : Stp) : Stp := ⟨s.ins, if 0 ≤ s.to then cnt g 0 s.to.toNat else s.to⟩
def woL (b : List Stp) (g : Nat → Bool) (i : Nat) : List Stp := (keepL g 0 (b.take i)).map (movS g)
theorem woL_all (b : List Stp) (g : Nat → Bool) {i : Nat} (h : b.length ≤ i) : woL b g i = withoutL b g := by
  unfold woL withoutL
  rw [List.take_of_length_le h]
  rfl
theorem woL_succ {b : List Stp} {g : Nat → Bool} {i : Nat} {s : Stp} (h : b[i]? = some s) : woL b g (i + 1) = woL b g i ++ (if g i then [] else [movS g s]) := by
  obtain ⟨hi, rfl⟩ := List.getElem?_eq_some_iff.1 h
  unfold woL
  rw [List.take_succ_eq_append_getElem hi, keepL_append, List.map_append]
  have : 0 + (b.take i).length = i := by simp; omega
  rw [this]
  simp only [keepL]
  split <;> rfl
def OutS (L : Nat) (sv : AV) (xs : List Stp) (g : AH) : Prop :=
  (xs = [] ∧ sv = .v (.slice none 0 0)) ∨ ∃ g1 g2 ver, g = g1 ++ AO.cells ver (xs.flatMap Stp.row) :: g2 ∧ sv = .sl (L + (g1.length + 1)) ver 0 xs.length 6
def Changed (h : AH) (bv : AV) (b : List Stp) (P : List Stp → Prop) (r : AV) (h' : AH) : Prop :=
  ∃ G, h' = h ++ G ∧ (r = .tup [bv, VB false] ∨ ∃ b' g1 g2 ver, G = g1 ++ AO.cells ver (b'.flatMap Stp.row) :: g2 ∧ r = .tup [.sl (h.length + g1.length) ver 0 b'.length 6, VB true] ∧ b'.length < b.length ∧ P b')
set_option maxRecDepth 100000 in
set_option maxHeartbeats 4000000 in
theorem c239 (hO : On cx) {h : AH} {bv : AV} {b : List Stp} (hb : SlT Stp.row 6 h bv b) (hl : b.length < 1099511627776) (hto : ∀ s ∈ b, s.to < b.length) {F : FuncId} {caps : List AV} {gone : Nat → Bool}
    (hg : ∀ (k : Nat), k < b.length → ∀ x, SimCall cx F ([VI k] ++ caps) (h ++ x) fun r h' => h' = h ++ x ∧ r = VB (gone k)) (hkeep : 0 < cnt gone 0 b.length) :
    SimCall cx 239 [bv, .fn F caps] h (Changed h bv b fun b' => b' = withoutL b gone) := by
  refine SimCall.by hO.P res239 ?_
  unfold x239 r239
  repeat' first
    | simp (maxSteps := 1000000) only [go_sem, hb.len]
  refine SimLoop.inv [0, 0, 4, 0, 5, 0, 0] (fun k s => ∃ (i : Nat) (p : Nat), k = b.length - i ∧ i ≤ b.length ∧ p = cnt gone 0 i ∧
    s = ⟨[bv, .fn F caps, .un, .un, .un, .un, .mp h.length, VI p, .un, .un, .un, .un, .un, bv, VI b.length, VI i, .un, .un, .un, .un, .un, .un, .un, .un, .un, .un, .un, .un, .un, .un, .un, .un, .un, .un, .un, .un, .un, .un, .un, .un, .un, .un, .un, .un, .un, .un, .un, .un, .un, .un, .un, .un, .un, .un, .un, .un, .un], h ++ [.map i (mapG (fun k => (cnt gone 0 k : Int)) i)]⟩) ?_ b.length ?_
  rotate_left
  · exact ⟨0, 0, rfl, Nat.zero_le _, rfl, by simp only [go_sem]; rfl⟩
  rintro k s ⟨i, p, rfl, hi, hp, rfl⟩
  have hpi : p ≤ i := by rw [hp]; exact cnt_le gone 0 i
  by_cases hlt : i < b.length
  · have hlt' : ((i : Int) < b.length) := by omega
    have hw := wrap_succ hlt (by omega)
    have hw2 : IntKind.i64.wrap ((p : Int) + 1) = ((p + 1 : Nat) : Int) := by rw [wrap_id (by omega) (by omega)]; omega
    have hmup : xMup (h ++ [.map i (mapG (fun k => (cnt gone 0 k : Int)) i)]) ⟨false, [1]⟩ (.mp h.length) (VI i) (VI p) = some (h ++ [.map (i + 1) (mapG (fun k => (cnt gone 0 k : Int)) (i + 1))]) := by
      have := mup_G (H := h ++ [.map i (mapG (fun k => (cnt gone 0 k : Int)) i)]) (m := .mp h.length) (id := h.length) (n := i) (vf := fun k => (cnt gone 0 k : Int)) (by simp only [go_sem])
      simp only [← hp] at this
      rw [this]
      simp only [go_sem]
    have hci : cnt gone 0 (i + 1) = p + if gone i then 0 else 1 := by rw [cnt, Nat.zero_add, hp]
    have hgi := hg i hlt
    repeat' first
      | simp (maxSteps := 1000000) only [go_sem, hlt', hw, hw2, hmup]
    refine (hgi _).mono ?_
    rintro r h' ⟨rfl, rfl⟩
    repeat' first
      | ((with_reducible show wx _ (XCode.cond _ _ _) _ _); refine wx_if rfl (fun _ => ?_) (fun _ => ?_))
      | simp (maxSteps := 1000000) only [go_sem, hlt', hw, hw2, hmup]
    · rename_i e
      simp at e
      exact ⟨b.length - (i + 1), by omega, i + 1, p + 1, rfl, by omega, by rw [hci, e]; rfl, rfl⟩
    · rename_i e
      simp at e
      exact ⟨b.length - (i + 1), by omega, i + 1, p, rfl, by omega, by rw [hci, e]; rfl, rfl⟩
  · have hlt' : ¬ ((i : Int) < b.length) := by omega
    have hib : i = b.length := by omega
    subst hib
    repeat' first
      | ((with_reducible show wx _ (XCode.cond _ _ _) _ _); refine wx_if rfl (fun _ => ?_) (fun _ => ?_))
      | simp (maxSteps := 1000000) only [go_sem, hlt', hb.len]
    · exact ⟨_, rfl, .inl rfl⟩
    · rename_i e
      simp at e
      have hwl : (withoutL b gone).length = p := by rw [withoutL_length, hp]
      have hwlt : (withoutL b gone).length < b.length := by omega
      generalize hmo : AO.map b.length (mapG (fun k => (cnt gone 0 k : Int)) b.length) = mo
      have hlk : ∀ (t : Nat), t < b.length → ∀ x, xLku (h ++ mo :: x) ⟨false, [1]⟩ (.int .i64 0) false (.mp h.length) (VI t) = some (VI (cnt gone 0 t : Nat)) := by
        intro t ht x
        rw [← hmo]
        exact lku_G (id := h.length) (c := b.length) (n := b.length) (vf := fun k => (cnt gone 0 k : Int)) (by simp only [go_sem]) ht
      refine SimLoop.inv [1, 4, 2, 23, 0, 0] (fun k s => ∃ (i : Nat) (sv : AV) (g : AH), k = b.length - i ∧ i ≤ b.length ∧ OutS h.length sv (woL b gone i) g ∧
        s = ⟨[.un, .fn F caps, .un, .un, .un, .un, .mp h.length, .un, .un, sv, .un, .un, .un, .un, .un, .un, .un, .un, .un, .un, .un, .un, .un, .un, .un, .un, .un, .un, .un, .un, .un, .un, .un, bv, VI b.length, VI i, .un, .un, .un, .un, .un, .un, .un, .un, .un, .un, .un, .un, .un, .un, .un, .un, .un, .un, .un, .un, .un], h ++ (mo :: g)⟩) ?_ b.length ?_
      rotate_left
      · exact ⟨0, _, [], rfl, Nat.zero_le _, .inl ⟨rfl, rfl⟩, by rw [← hmo]; simp only [go_sem]; rfl⟩
      rintro k s ⟨i, sv, g, rfl, hi2, hout, rfl⟩
      by_cases hlt2 : i < b.length
      · obtain ⟨q, hp1, hp2, hp3, _⟩ := hb.get Stp.len (by decide) (List.getElem?_eq_getElem hlt2)
        have hlt2' : ((i : Int) < b.length) := by omega
        have hw := wrap_succ hlt2 (by omega)
        have hwo := woL_succ (g := gone) (List.getElem?_eq_getElem hlt2)
        have hts := hto _ (List.getElem_mem hlt2)
        have hgi := hg i hlt2
        have hxl : (woL b gone i).length ≤ i := by
          unfold woL
          rw [List.length_map]
          refine Nat.le_trans (keepL_sub gone (b.take i) 0).length_le ?_
          simp
          omega
        generalize b[i] = s at hp1 hp2 hp3 hwo hts
        obtain ⟨⟨op, dst, src, off, imm⟩, to⟩ := s
        simp only at hts
        generalize woL b gone i = xs at hwo hout hxl
        have hrl := cells_len (f := Stp.row) (sz := 6) Stp.len xs
        have htk2 : (xs.flatMap Stp.row).take (xs.length * 6) = xs.flatMap Stp.row := List.take_of_length_le (by omega)
        have hnle : ¬ (xs.length + 1) * 6 ≤ (xs.flatMap Stp.row).length := by omega
        have hnle2 : xs.length * 6 ≤ (xs.flatMap Stp.row).length := by omega
        have hby : (xs.length + 1) * 48 ≤ 140737488355328 := by omega
        repeat' first
          | simp (maxSteps := 1000000) only [go_sem, hp1, hp2, hp3, hlt2', hw, Stp.row]
        refine (hgi _).mono ?_
        rintro r h' ⟨rfl, rfl⟩
        by_cases h0 : 0 ≤ to
        · obtain ⟨t, rfl⟩ := Int.eq_ofNat_of_zero_le h0
          have hlkt := hlk t (by omega)
          have hmv : movS gone ⟨⟨op, dst, src, off, imm⟩, (t : Int)⟩ = ⟨⟨op, dst, src, off, imm⟩, (cnt gone 0 t : Nat)⟩ := by
            unfold movS
            simp
          rcases hout with ⟨hx, rfl⟩ | ⟨g1, g2, ver, rfl, rfl⟩
          · skip
            repeat' first
              | ((with_reducible show wx _ (XCode.cond _ _ _) _ _); refine wx_if rfl (fun _ => ?_) (fun _ => ?_))
              | simp (maxSteps := 1000000) only [go_sem, h0, hlkt, hw, hlt2', Stp.row, xRows, Int.toNat_natCast, Nat.mul_one, Nat.zero_add]
            · rename_i e
              rw [if_pos e, List.append_nil] at hwo
              refine ⟨b.length - (i + 1), by omega, i + 1, _, _, rfl, by omega, ?_, rfl⟩
              rw [hwo]
              exact .inl ⟨hx, rfl⟩
            · rename_i e
              rw [if_neg (by rw [e]; decide), hmv] at hwo
              refine ⟨b.length - (i + 1), by omega, i + 1, _, _, rfl, by omega, ?_, rfl⟩
              rw [hwo, hx]
              exact .inr ⟨g ++ [.cells 0 (⟨⟨op, dst, src, off, imm⟩, (cnt gone 0 t : Nat)⟩ : Stp).row, .cells 0 (⟨⟨op, dst, src, off, imm⟩, (cnt gone 0 t : Nat)⟩ : Stp).row], [], 0, by simp [Stp.row], by simp⟩
          · skip
            repeat' first
              | ((with_reducible show wx _ (XCode.cond _ _ _) _ _); refine wx_if rfl (fun _ => ?_) (fun _ => ?_))
              | simp (maxSteps := 1000000) only [go_sem, h0, hlkt, hw, hlt2', Stp.row, xRows, Int.toNat_natCast, Nat.mul_one, Nat.zero_add, htk2, hnle, hnle2, hby]
            · rename_i e
              rw [if_pos e, List.append_nil] at hwo
              refine ⟨b.length - (i + 1), by omega, i + 1, _, _, rfl, by omega, ?_, rfl⟩
              rw [hwo]
              exact .inr ⟨g1, g2 ++ [.cells 0 (⟨⟨op, dst, src, off, imm⟩, (t : Int)⟩ : Stp).row], ver, by simp [Stp.row], rfl⟩
            · rename_i e
              rw [if_neg (by rw [e]; decide), hmv] at hwo
              refine ⟨b.length - (i + 1), by omega, i + 1, _, _, rfl, by omega, ?_, rfl⟩
              rw [hwo]
              exact .inr ⟨g1, g2 ++ [.cells 0 (⟨⟨op, dst, src, off, imm⟩, (cnt gone 0 t : Nat)⟩ : Stp).row, .cells 0 (⟨⟨op, dst, src, off, imm⟩, (cnt gone 0 t : Nat)⟩ : Stp).row], ver + 1, by simp [Stp.row], by simp⟩
        · have hmv : movS gone ⟨⟨op, dst, src, off, imm⟩, to⟩ = ⟨⟨op, dst, src, off, imm⟩, to⟩ := by
            unfold movS
            simp [h0]
          rcases hout with ⟨hx, rfl⟩ | ⟨g1, g2, ver, rfl, rfl⟩
          · skip
            repeat' first
              | ((with_reducible show wx _ (XCode.cond _ _ _) _ _); refine wx_if rfl (fun _ => ?_) (fun _ => ?_))
              | simp (maxSteps := 1000000) only [go_sem, h0, hw, hlt2', Stp.row, xRows, Int.toNat_natCast, Nat.mul_one, Nat.zero_add]
            · rename_i e
              rw [if_pos e, List.append_nil] at hwo
              refine ⟨b.length - (i + 1), by omega, i + 1, _, _, rfl, by omega, ?_, rfl⟩
              rw [hwo]
              exact .inl ⟨hx, rfl⟩
            · rename_i e
              rw [if_neg (by rw [e]; decide), hmv] at hwo
              refine ⟨b.length - (i + 1), by omega, i + 1, _, _, rfl, by omega, ?_, rfl⟩
              rw [hwo, hx]
              exact .inr ⟨g ++ [.cells 0 (⟨⟨op, dst, src, off, imm⟩, to⟩ : Stp).row, .cells 0 (⟨⟨op, dst, src, off, imm⟩, to⟩ : Stp).row], [], 0, by simp [Stp.row], by simp⟩
          · skip
            repeat' first
              | ((with_reducible show wx _ (XCode.cond _ _ _) _ _); refine wx_if rfl (fun _ => ?_) (fun _ => ?_))
              | simp (maxSteps := 1000000) only [go_sem, h0, hw, hlt2', Stp.row, xRows, Int.toNat_natCast, Nat.mul_one, Nat.zero_add, htk2, hnle, hnle2, hby]
            · rename_i e
              rw [if_pos e, List.append_nil] at hwo
              refine ⟨b.length - (i + 1), by omega, i + 1, _, _, rfl, by omega, ?_, rfl⟩
              rw [hwo]
              exact .inr ⟨g1, g2 ++ [.cells 0 (⟨⟨op, dst, src, off, imm⟩, to⟩ : Stp).row], ver, by simp [Stp.row], rfl⟩
            · rename_i e
              rw [if_neg (by rw [e]; decide), hmv] at hwo
              refine ⟨b.length - (i + 1), by omega, i + 1, _, _, rfl, by omega, ?_, rfl⟩
              rw [hwo]
              exact .inr ⟨g1, g2 ++ [.cells 0 (⟨⟨op, dst, src, off, imm⟩, to⟩ : Stp).row, .cells 0 (⟨⟨op, dst, src, off, imm⟩, to⟩ : Stp).row], ver + 1, by simp [Stp.row], by simp⟩
      · have hlt2' : ¬ ((i : Int) < b.length) := by omega
        have hib2 : woL b gone i = withoutL b gone := woL_all b gone (by omega)
        rw [hib2] at hout
        repeat' first
          | simp (maxSteps := 1000000) only [go_sem, hlt2']
        rcases hout with ⟨hx, _⟩ | ⟨g1, g2, ver, rfl, rfl⟩
        · rw [hx] at hwl
          simp at hwl
          omega
        · exact ⟨_, rfl, .inr ⟨withoutL b gone, mo :: g1, g2, ver, rfl, rfl, hwlt, rfl⟩⟩
end Go.Tidy
namespace Go.Tidy
open Go Go.Eng Go.Proofs
variable {cx : Cx}
structure Keeps (b b' : List Stp) : Prop where
  fits : Fits b'
  ins : ∀ s ∈ b', ∃ s0 ∈ b, s.ins = s0.ins
  slots : (wsB b').sum ≤ (wsB b).sum
theorem Keeps.refl {b : List Stp} (h : Fits b) : Keeps b b := ⟨h, fun s hs => ⟨s, hs, rfl⟩, Nat.le_refl _⟩
theorem Keeps.trans {a b c : List Stp} (h : Keeps a b) (k : Keeps b c) : Keeps a c := by
  refine ⟨k.fits, fun s hs => ?_, Nat.le_trans k.slots h.slots⟩
  obtain ⟨s1, h1, e1⟩ := k.ins s hs
  obtain ⟨s2, h2, e2⟩ := h.ins s1 h1
  exact ⟨s2, h2, e1.trans e2⟩
theorem keeps_without {b : List Stp} {g : Nat → Bool} (h : Fits (withoutL b g)) : Keeps b (withoutL b g) := by
  refine ⟨h, fun s hs => ?_, ?_⟩
  · obtain ⟨k, hk⟩ := List.mem_iff_getElem?.1 hs
    obtain ⟨j, s0, h1, _, _, h4, _⟩ := withoutL_get hk
    exact ⟨s0, List.mem_of_getElem? h1, h4⟩
  · rw [wsB_without]
    exact sum_sub (keepL_sub g (wsB b) 0)
theorem Fits.toAll {b : List Stp} (hf : Fits b) : ∀ s ∈ b, s.to < b.length := by
  intro s hs
  obtain ⟨k, hk⟩ := List.mem_iff_getElem?.1 hs
  by_cases hl : leads s.ins = true
  · exact (hf.to k s hk hl).2.1
  · have := hf.no k s hk (by simpa using hl)
    have := hf.ne
    omega
theorem Changed.more {h : AH} {bv : AV} {b : List Stp} {P Q : List Stp → Prop} {r : AV} {h' : AH} (a : AH) (hc : Changed (h ++ a) bv b P r h') (hpq : ∀ b', P b' → Q b') : Changed h bv b Q r h' := by
  obtain ⟨G, rfl, h1⟩ := hc
  refine ⟨a ++ G, by rw [List.append_assoc], ?_⟩
  rcases h1 with rfl | ⟨b', g1, g2, ver, rfl, rfl, h2, h3⟩
  · exact .inl rfl
  · refine .inr ⟨b', a ++ g1, g2, ver, by rw [List.append_assoc], ?_, h2, hpq b' h3⟩
    rw [List.length_append, List.length_append, Nat.add_assoc]
theorem c180 (hO : On cx) {h : AH} {bv : AV} {b : List Stp} (hb : SlT Stp.row 6 h bv b) (hf : Fits b) (hl : b.length < 1099511627776) :
    SimCall cx 180 [bv] h (Changed h bv b (Keeps b)) := by
  refine SimCall.by hO.P res180 ?_
  unfold x180 r180
  repeat' first
    | simp (maxSteps := 1000000) only [go_sem]
  refine (c238 hO hb hf hl).mono ?_
  rintro r h' ⟨R, hRl, hR, rfl, rfl⟩
  have hclo : ∀ (k : Nat), k < b.length → ∀ x, SimCall cx 240 ([VI k] ++ [.ptr (h.length + 1) 0 0]) (h ++ [.cells 0 (R.map VB), .cells 0 [.sl h.length 0 0 b.length 1]] ++ x) fun r h' => h' = h ++ [.cells 0 (R.map VB), .cells 0 [.sl h.length 0 0 b.length 1]] ++ x ∧ r = VB (!R.getD k false) := by
    intro k hk x
    have hk' : (k : Int) < b.length := by omega
    have h0k : (0 : Int) ≤ k := by omega
    have hRk := List.getElem?_eq_getElem (show k < R.length by omega)
    have hRm : (R.map VB)[k]? = some (VB (R.getD k false)) := by rw [List.getElem?_map, List.getD_eq_getElem?_getD, hRk]; rfl
    refine SimCall.by hO.P res240 ?_
    unfold x240 r240
    repeat' first
      | simp (maxSteps := 1000000) only [go_sem, hk', h0k, hRm, Int.toNat_natCast, Nat.mul_one, Nat.zero_add]
  have hgone : 0 < cnt (fun k => !R.getD k false) 0 b.length := by
    have := cnt_lt (fun k => !R.getD k false) hf.ne (by have h0 : R.getD 0 false = true := hR.zero; show (!R.getD 0 false) = false; rw [h0]; rfl)
    simpa [cnt] using this
  have h239 := c239 hO (hb.more [.cells 0 (R.map VB), .cells 0 [.sl h.length 0 0 b.length 1]]) hl hf.toAll hclo hgone
  repeat' first
    | simp (maxSteps := 1000000) only [go_sem]
  refine h239.mono ?_
  intro r h' hc
  have hc2 : Changed h bv b (Keeps b) r h' := Changed.more [.cells 0 (R.map VB), .cells 0 [.sl h.length 0 0 b.length 1]] hc (fun b' e => by rw [e]; exact keeps_without (hf.unreached hR))
  clear hc h239 hclo
  obtain ⟨t, ht⟩ : ∃ x y, r = .tup [x, y] := by
    obtain ⟨G, _, hc⟩ := hc2
    rcases hc with h1 | ⟨b', g1, g2, ver, _, h1, _⟩
    · exact ⟨_, _, h1⟩
    · exact ⟨_, _, h1⟩
  obtain ⟨u, rfl⟩ := ht
  repeat' first
    | simp (maxSteps := 1000000) only [go_sem]
  exact hc2
set_option maxHeartbeats 1000000 in
theorem c181 (hO : On cx) {h : AH} {bv : AV} {b : List Stp} (hb : SlT Stp.row 6 h bv b) (hf : Fits b) (hl : b.length < 1099511627776) :
    SimCall cx 181 [bv] h (Changed h bv b (Keeps b)) := by
  have c1 := hb.cells
  refine SimCall.by hO.P res181 ?_
  unfold x181 r181
  have hclo : ∀ (k : Nat), k < b.length → ∀ x, SimCall cx 241 ([VI k] ++ [.ptr h.length 0 0]) (h ++ [.cells 0 [bv]] ++ x) fun r h' => h' = h ++ [.cells 0 [bv]] ++ x ∧ r = VB (idleB b k) := by
    intro k hk x
    have hbk := List.getElem?_eq_getElem hk
    obtain ⟨p, q0, q5, hp1, hp2, hp3, hp4, hp5, _, _⟩ := Stp.get hb hbk
    have hid : idleB b k = ((decide (b[k].ins.op = 191) && decide (b[k].ins.off = 0) && decide (b[k].ins.dst = b[k].ins.src)) || (isJ b[k].ins && decide (b[k].to = k + 1))) := by
      unfold idleB
      rw [hbk]
    generalize b[k] = s at hp4 hp5 hid
    obtain ⟨⟨op, dst, src, off, imm⟩, to⟩ := s
    have hwk : IntKind.i64.wrap ((k : Int) + 1) = (k : Int) + 1 := wrap_id (by omega) (by omega)
    refine SimCall.gc ?_
    refine SimCall.by hO.P res241 ?_
    unfold x241 r241
    repeat' first
      | ((with_reducible show SemL _ _ _ _); refine SemL.of ?_)
      | simp (maxSteps := 1000000) only [go_sem, hp1, hp2, hp3, hp4, hp5, hwk]
      | ((with_reducible show wl _ (XI.mk _ (some _) (XBody.op _) :: _) _ _); first | refine wl_optT rfl (fun e2 => by ((try simp only [Bool.and_eq_true] at e2); first | (simp (maxSteps := 1000000) only [e2, go_sem, hp1, hp2, hp3, hp4, hp5, hwk]; first | done | rfl))) ?_ | refine wl_optF rfl (fun e2 => by ((try simp only [Bool.and_eq_true] at e2); first | (simp (maxSteps := 1000000) only [e2, go_sem, hp1, hp2, hp3, hp4, hp5, hwk]; first | done | rfl))) ?_ | refine wl_opt2T rfl (fun e1 e2 => by ((try simp only [Bool.and_eq_true] at e1); first | (simp (maxSteps := 1000000) only [e1, e2, go_sem, hp1, hp2, hp3, hp4, hp5, hwk]; first | done | rfl))) ?_)
      | ((with_reducible show wl _ (XI.mk _ (some _) (XBody.call (XO.f 242) _) :: _) _ _); refine wl_optcF rfl rfl (fun e2 => by simp (maxSteps := 1000000) only [e2, go_sem, hp1, hp2, hp3, hp4, hp5, hwk]; exact (c242' hO ⟨op, dst, src, off, imm⟩ _)) ?_)
    refine ⟨⟨_, rfl⟩, plain_v _, ?_⟩
    rw [hid]
  have hgone : 0 < cnt (idleB b) 0 b.length := by
    have := hf.idle.ne
    rwa [withoutL_length] at this
  have h239 := c239 hO (hb.more [.cells 0 [bv]]) hl hf.toAll hclo hgone
  repeat' first
    | simp (maxSteps := 1000000) only [go_sem, c1]
  refine h239.mono ?_
  intro r h' hc
  have hc2 : Changed h bv b (Keeps b) r h' := Changed.more [.cells 0 [bv]] hc (fun b' e => by rw [e]; exact keeps_without (hf.idle))
  clear hc h239 hclo
  obtain ⟨t, ht⟩ : ∃ x y, r = .tup [x, y] := by
    obtain ⟨G, _, hc⟩ := hc2
    rcases hc with h1 | ⟨b', g1, g2, ver, _, h1, _⟩
    · exact ⟨_, _, h1⟩
    · exact ⟨_, _, h1⟩
  obtain ⟨u, rfl⟩ := ht
  repeat' first
    | simp (maxSteps := 1000000) only [go_sem]
  exact hc2
theorem c126 (hO : On cx) (h : AH) : SimCall cx 126 [] h fun r h' => h' = h ++ [.cells 0 [.fn 180 [], .fn 181 [], .fn 182 []]] ∧ r = .sl h.length 0 0 3 1 := by
  refine SimCall.by hO.P res126 ?_
  unfold x126 r126
  repeat' first
    | simp (maxSteps := 1000000) only [go_sem]
end Go.Tidy
namespace Go.Tidy
open Go Go.Eng Go.Proofs
variable {cx : Cx}
def keyZ (k : Int) : Value := .int .i64 k
theorem keyZ_eq (a b : Int) : xEq ⟨false, [1]⟩ (ofV (keyZ a)) (ofV (keyZ b)) = some (decide (a = b)) := by simp [xEq, ofV, keyZ, xEqs, sameOne]
theorem nodup_inj : ∀ {l : List Int}, l.Nodup → ∀ {i j : Nat} {x : Int}, l[i]? = some x → l[j]? = some x → i = j
  | [], _, i, j, x, h, _ => by simp at h
  | y :: r, hn, i, j, x, hi, hj => by
    rw [List.nodup_cons] at hn
    cases i with
    | zero =>
      cases j with
      | zero => rfl
      | succ j =>
        simp at hi hj
        subst hi
        exact absurd (List.mem_of_getElem? hj) hn.1
    | succ i =>
      cases j with
      | zero =>
        simp at hi hj
        subst hj
        exact absurd (List.mem_of_getElem? hi) hn.1
      | succ j =>
        have := nodup_inj hn.2 (i := i) (j := j) (x := x) (by simpa using hi) (by simpa using hj)
        rw [this]
section
variable {H : AH} {m : AV} {id c : Nat} {ks : List Int} {k : Int}
theorem lku_in (hm : H.mapAt m = some (id, c, esOf keyZ (VI 1) 0 ks)) (hk : k ∈ ks) : xLku H ⟨false, [1]⟩ (.int .i64 0) false m (VI k) = some (VI 1) := by
  unfold xLku xLk
  simp only [AV.toV, Option.bind_some, keyI_ok, if_true, hm, Option.map_some]
  have hf := esOf_find (x := VI 1) (k := k) keyZ_eq 0 ks
  rw [show (Value.int .i64 k) = keyZ k from rfl, hf]
  cases hi : ks.findIdx? fun y => decide (k = y) with
  | none =>
    rw [List.findIdx?_eq_none_iff] at hi
    simpa using hi k hk
  | some i =>
    have hlt := (List.findIdx?_eq_some_iff_getElem.1 hi).1
    simp [esOf_get, List.getElem?_eq_getElem hlt]
theorem lku_out (hm : H.mapAt m = some (id, c, esOf keyZ (VI 1) 0 ks)) (hk : k ∉ ks) : xLku H ⟨false, [1]⟩ (.int .i64 0) false m (VI k) = some (VI 0) := by
  unfold xLku xLk
  simp only [AV.toV, Option.bind_some, keyI_ok, if_true, hm, Option.map_some]
  have hf := esOf_find (x := VI 1) (k := k) keyZ_eq 0 ks
  rw [show (Value.int .i64 k) = keyZ k from rfl, hf]
  have : ks.findIdx? (fun y => decide (k = y)) = none := by
    rw [List.findIdx?_eq_none_iff]
    intro y hy
    simp only [decide_eq_false_iff_not]
    rintro rfl
    exact hk hy
  rw [this]
  rfl
theorem mup_out (hm : H.mapAt m = some (id, ks.length, esOf keyZ (VI 1) 0 ks)) (hk : k ∉ ks) : xMup H ⟨false, [1]⟩ m (VI k) (VI 1) = some (H.set id (.map (ks.length + 1) (esOf keyZ (VI 1) 0 (ks ++ [k])))) := by
  unfold xMup
  simp only [AV.toV, Option.bind_some, keyI_ok, if_true, hm]
  have hf := esOf_find (x := VI 1) (k := k) keyZ_eq 0 ks
  rw [show (Value.int .i64 k) = keyZ k from rfl, hf]
  have : ks.findIdx? (fun y => decide (k = y)) = none := by
    rw [List.findIdx?_eq_none_iff]
    intro y hy
    simp only [decide_eq_false_iff_not]
    rintro rfl
    exact hk hy
  rw [this, esOf_app, Nat.zero_add]
  rfl
theorem mup_in (hm : H.mapAt m = some (id, c, esOf keyZ (VI 1) 0 ks)) (hk : k ∈ ks) (hn : ks.Nodup) : ∃ es, xMup H ⟨false, [1]⟩ m (VI k) (VI 2) = some (H.set id (.map c es)) ∧
    ∀ H2 : AH, H2.mapAt m = some (id, c, es) → xLku H2 ⟨false, [1]⟩ (.int .i64 0) false m (VI k) = some (VI 2) := by
  have hf := esOf_find (x := VI 1) (k := k) keyZ_eq 0 ks
  cases hi : ks.findIdx? fun y => decide (k = y) with
  | none =>
    rw [List.findIdx?_eq_none_iff] at hi
    simpa using hi k hk
  | some i =>
    obtain ⟨hlt, hki, _⟩ := List.findIdx?_eq_some_iff_getElem.1 hi
    simp only [decide_eq_true_eq] at hki
    refine ⟨(esOf keyZ (VI 1) 0 ks).modify i fun e => (e.1, .int .i64 k, VI 2), ?_, ?_⟩
    · unfold xMup
      simp only [AV.toV, Option.bind_some, keyI_ok, if_true, hm]
      rw [show (Value.int .i64 k) = keyZ k from rfl, hf, hi]
      rfl
    · intro H2 hm2
      have hge : ∀ j, ((esOf keyZ (VI 1) 0 ks).modify i fun e => (e.1, .int .i64 k, VI 2))[j]? = (ks[j]?).map fun y => (j, .int .i64 y, if j = i then VI 2 else VI 1) := by
        intro j
        rw [List.getElem?_modify, esOf_get]
        cases hj : ks[j]? with
        | none => simp
        | some y =>
          by_cases hji : i = j
          · subst hji
            obtain ⟨hjl, hjv⟩ := List.getElem?_eq_some_iff.1 hj
            have : y = k := by rw [← hjv, ← hki]
            simp [keyZ, this]
          · have : ¬ j = i := fun q => hji q.symm
            simp [keyZ, hji, this]
      obtain ⟨o, h1, h2, h3⟩ := find_int2 k ((esOf keyZ (VI 1) 0 ks).modify i fun e => (e.1, .int .i64 k, VI 2)) (by
        intro e he
        obtain ⟨j, hj⟩ := List.mem_iff_getElem?.1 he
        rw [hge j, Option.map_eq_some_iff] at hj
        obtain ⟨y, _, rfl⟩ := hj
        exact ⟨y, rfl⟩)
      unfold xLku xLk
      simp only [AV.toV, Option.bind_some, keyI_ok, if_true, hm2, h1, Option.map_some]
      cases o with
      | none =>
        exfalso
        have := hge i
        rw [List.getElem?_eq_getElem hlt] at this
        exact h2 rfl _ (List.mem_of_getElem? this) (by simp [hki])
      | some j =>
        obtain ⟨e, q1, q2⟩ := h3 j rfl
        have hgj := hge j
        rw [q1] at hgj
        cases hj : ks[j]? with
        | none => rw [hj] at hgj; cases hgj
        | some y =>
          rw [hj] at hgj
          simp only [Option.map_some, Option.some.injEq] at hgj
          subst hgj
          simp only [Value.int.injEq, true_and] at q2
          have hji : j = i := by
            refine nodup_inj hn (x := k) (by rw [hj, q2]) ?_
            rw [List.getElem?_eq_getElem hlt, ← hki]
          rw [hji] at q1 ⊢
          simp only [q1]
          simp
end
set_option maxRecDepth 100000 in
set_option maxHeartbeats 2000000 in
theorem c243 (hO : On cx) {h : AH} {bv : AV} {b : List Stp} (hb : SlT Stp.row 6 h bv b) (hf : Fits b) (hl : b.length < 1099511627776) {k : Nat} {s0 : Stp} (hk : b[k]? = some s0) (hj : isJ s0.ins = true) :
    SimCall cx 243 [bv, VI k] h fun r h' => h' = h ∧ ∃ t : Int, r = VI t ∧ (t < 0 ∨ ∃ (n : Nat) (s : Stp), t = n ∧ b[n]? = some s ∧ isJ s.ins = false ∧ ∀ s2, b[s0.to.toNat]? = some s2 → isJ s2.ins = false → (n : Int) = s0.to) := by
  have hkl := (List.getElem?_eq_some_iff.1 hk).1
  have hstep : ∀ (j : Nat) (s : Stp), b[j]? = some s → isJ s.ins = true → ∃ t : Nat, s.to = t ∧ t < b.length := by
    intro j s hs hjs
    have hld := jump_leads (hf.may j s hs) (by simpa [isJ] using hjs)
    obtain ⟨h1, h2, _⟩ := hf.to j s hs hld
    exact ⟨s.to.toNat, by omega, by omega⟩
  obtain ⟨t0, ht0, ht0l⟩ := hstep k s0 hk hj
  obtain ⟨p, q0, q5, hp1, hp2, hp3, hp4, hp5, _, _⟩ := Stp.get hb hk
  refine SimCall.gc ?_
  refine SimCall.by hO.P res243 ?_
  unfold x243 r243
  have hm0 : xMup (h ++ [.map 0 []]) ⟨false, [1]⟩ (.mp h.length) (VI k) (VI 1) = some (h ++ [.map 1 (esOf keyZ (VI 1) 0 [(k : Int)])]) := by
    have := mup_out (H := h ++ [.map 0 []]) (m := .mp h.length) (id := h.length) (ks := []) (k := (k : Int)) (by simp only [go_sem]; rfl) (by simp)
    simpa [go_sem] using this
  repeat' first
    | simp (maxSteps := 1000000) only [go_sem, hm0, hp1, hp3, hp5, ht0]
  refine SimLoop.inv [0, 4, 0] (fun m s => ∃ (R : List Bool) (ks : List Int) (t : Nat), m = unmark R ∧ R.length = b.length ∧ t < b.length ∧ ks.Nodup ∧ (∀ (j : Nat), (j : Int) ∈ ks ↔ R[j]? = some true) ∧ (∀ s2, b[t0]? = some s2 → isJ s2.ins = false → t = t0) ∧
    s = ⟨[bv, .un, .un, .un, .un, .mp h.length, VI t, .un, .un, .un, .un, .un, .un, .un, .un, .un, .un, .un, .un, .un, .un, .un, .un, .un, .un, .un, .un, .un, .un, .un, .un, .un, .un, .un, .un, .un], h ++ [.map ks.length (esOf keyZ (VI 1) 0 ks)]⟩) ?_ (unmark ((List.replicate b.length false).set k true)) ?_
  rotate_left
  · refine ⟨(List.replicate b.length false).set k true, [(k : Int)], t0, rfl, by simp, ht0l, by simp, ?_, fun _ _ _ => rfl, by simp only [go_sem]⟩
    intro j
    by_cases hjk : j = k
    · subst hjk
      rw [List.getElem?_set_self (by simpa using hkl)]
      simp
    · rw [List.getElem?_set_ne (fun q => hjk q.symm)]
      simp only [List.mem_singleton]
      constructor
      · intro q; omega
      · intro q
        have := List.eq_of_mem_replicate (List.mem_of_getElem? q)
        cases this
  rintro m s ⟨R, ks, t, rfl, hRl, htl, hnd, hks, hfirst, rfl⟩
  have hbt := List.getElem?_eq_getElem htl
  obtain ⟨p2, a0, a5, ha1, ha2, ha3, ha4, ha5, _, _⟩ := Stp.get hb hbt
  have hst := hstep t _ hbt
  generalize b[t] = s at hbt ha4 ha5 hst
  obtain ⟨⟨op, dst, src, off, imm⟩, to⟩ := s
  simp only at ha5 hst
  by_cases hjs : isJ ⟨op, dst, src, off, imm⟩ = true
  · obtain ⟨t2, ht2, ht2l⟩ := hst hjs
    by_cases hin : (t : Int) ∈ ks
    · have hlk := lku_in (H := h ++ [.map ks.length (esOf keyZ (VI 1) 0 ks)]) (m := .mp h.length) (id := h.length) (c := ks.length) (by simp only [go_sem]) hin
      obtain ⟨es, hmu, hlk2⟩ := mup_in (H := h ++ [.map ks.length (esOf keyZ (VI 1) 0 ks)]) (m := .mp h.length) (id := h.length) (c := ks.length) (by simp only [go_sem]) hin hnd
      have hmu2 : xMup (h ++ [.map ks.length (esOf keyZ (VI 1) 0 ks)]) ⟨false, [1]⟩ (.mp h.length) (VI t) (VI 2) = some (h ++ [.map ks.length es]) := by rw [hmu]; simp only [go_sem]
      have hlk3 := hlk2 (h ++ [.map ks.length es]) (by simp only [go_sem])
      repeat' first
        | ((with_reducible show SimCall _ 242 _ _ _); refine (c242' hO ⟨op, dst, src, off, imm⟩ _).mono ?_; rintro r h' ⟨rfl, rfl⟩)
        | simp (maxSteps := 1000000) only [go_sem, ha1, ha2, ha3, ha4, ha5, ht2, hlk, hmu2, hlk3, hjs, wrap_id]
      exact ⟨more_one, plain_v _, -1, rfl, .inl (by decide)⟩
    · have hlk := lku_out (H := h ++ [.map ks.length (esOf keyZ (VI 1) 0 ks)]) (m := .mp h.length) (id := h.length) (c := ks.length) (by simp only [go_sem]) hin
      have hmu := mup_out (H := h ++ [.map ks.length (esOf keyZ (VI 1) 0 ks)]) (m := .mp h.length) (id := h.length) (by simp only [go_sem]) hin
      have hmu2 : xMup (h ++ [.map ks.length (esOf keyZ (VI 1) 0 ks)]) ⟨false, [1]⟩ (.mp h.length) (VI t) (VI 1) = some (h ++ [.map (ks.length + 1) (esOf keyZ (VI 1) 0 (ks ++ [(t : Int)]))]) := by rw [hmu]; simp only [go_sem]
      have hlk3 := lku_in (H := h ++ [.map (ks.length + 1) (esOf keyZ (VI 1) 0 (ks ++ [(t : Int)]))]) (m := .mp h.length) (id := h.length) (c := ks.length + 1) (ks := ks ++ [(t : Int)]) (k := (t : Int)) (by simp only [go_sem]) (by simp)
      have hRt : R[t]? = some false := by
        have hlt := List.getElem?_eq_getElem (show t < R.length by omega)
        cases hv : R[t] with
        | false => rw [hlt, hv]
        | true => exact absurd ((hks t).2 (by rw [hlt, hv])) hin
      have hun := unmark_set hRt
      repeat' first
        | ((with_reducible show SimCall _ 242 _ _ _); refine (c242' hO ⟨op, dst, src, off, imm⟩ _).mono ?_; rintro r h' ⟨rfl, rfl⟩)
        | simp (maxSteps := 1000000) only [go_sem, ha1, ha2, ha3, ha4, ha5, ht2, hlk, hmu2, hlk3, hjs, wrap_id]
      refine ⟨unmark (R.set t true), by omega, R.set t true, ks ++ [(t : Int)], t2, rfl, by rw [List.length_set]; exact hRl, ht2l, ?_, ?_, ?_, by rw [List.length_append]; rfl⟩
      · rw [List.nodup_append]
        refine ⟨hnd, by simp, fun x hx y hy => ?_⟩
        simp at hy
        subst hy
        rintro rfl
        exact hin hx
      · intro j
        by_cases hjt : j = t
        · subst hjt
          rw [List.getElem?_set_self (by omega)]
          simp
        · rw [List.getElem?_set_ne (fun q => hjt q.symm)]
          simp only [List.mem_append, List.mem_singleton]
          rw [← hks j]
          constructor
          · rintro (q | q)
            · exact q
            · omega
          · exact .inl
      · intro s2 hs2 hjs2
        have := hfirst s2 hs2 hjs2
        subst this
        rw [hbt] at hs2
        simp only [Option.some.injEq] at hs2
        subst hs2
        rw [hjs] at hjs2
        cases hjs2
  · have hjs2 : isJ ⟨op, dst, src, off, imm⟩ = false := by simpa using hjs
    repeat' first
      | ((with_reducible show SimCall _ 242 _ _ _); refine (c242' hO ⟨op, dst, src, off, imm⟩ _).mono ?_; rintro r h' ⟨rfl, rfl⟩)
      | simp (maxSteps := 1000000) only [go_sem, ha1, ha2, ha3, ha4, ha5, hjs2]
    refine ⟨more_one, plain_v _, t, rfl, .inr ⟨t, _, rfl, hbt, hjs2, fun s2 hs2 hj2 => ?_⟩⟩
    have := hfirst s2 (by simpa using hs2) hj2
    omega
end Go.Tidy
namespace Go.Tidy
open Go Go.Eng Go.Proofs
variable {cx : Cx}
def jjL (is : List Ins) : List Stp → Nat
  | [] => 0
  | s :: r => (if isJ s.ins && isJ (is.getD s.to.toNat ⟨0, 0, 0, 0, 0⟩) then 1 else 0) + jjL is r
def jj (b : List Stp) : Nat := jjL (b.map (·.ins)) b
theorem jjL_set {is : List Ins} : ∀ {l : List Stp} {k : Nat} {s s' : Stp}, l[k]? = some s → (isJ s.ins && isJ (is.getD s.to.toNat ⟨0, 0, 0, 0, 0⟩)) = true → (isJ s'.ins && isJ (is.getD s'.to.toNat ⟨0, 0, 0, 0, 0⟩)) = false → jjL is (l.set k s') + 1 = jjL is l
  | [], k, s, s', h, _, _ => by simp at h
  | x :: r, 0, s, s', h, h1, h2 => by
    simp at h
    subst h
    simp only [List.set_cons_zero, jjL, h1, h2]
    simp
    omega
  | x :: r, k + 1, s, s', h, h1, h2 => by
    have := jjL_set (l := r) (k := k) (by simpa using h) h1 h2
    simp only [List.set_cons_succ, jjL]
    omega
theorem ins_set {b : List Stp} {k : Nat} {s : Stp} (hs : b[k]? = some s) (t : Int) : (b.set k ⟨s.ins, t⟩).map (·.ins) = b.map (·.ins) := by
  refine List.ext_getElem? fun m => ?_
  rw [List.getElem?_map, List.getElem?_map]
  have hk := (List.getElem?_eq_some_iff.1 hs).1
  by_cases hm : m = k
  · subst hm
    rw [List.getElem?_set_self hk, hs]; rfl
  · rw [List.getElem?_set_ne (fun q => hm q.symm)]
theorem wsB_of_ins {b b' : List Stp} (h : b'.map (·.ins) = b.map (·.ins)) : wsB b' = wsB b := by
  have e : ∀ c : List Stp, wsB c = (c.map (·.ins)).map wd := by intro c; unfold wsB; rw [List.map_map]; rfl
  rw [e, e, h]
theorem keeps_thread {b : List Stp} {k t : Nat} {s : Stp} (hs : b[k]? = some s) (hf : Fits (b.set k ⟨s.ins, (t : Int)⟩)) : Keeps b (b.set k ⟨s.ins, (t : Int)⟩) := by
  have hi := ins_set hs t
  refine ⟨hf, fun x hx => ?_, by rw [wsB_of_ins hi]; exact Nat.le_refl _⟩
  have hx2 : x.ins ∈ b.map (·.ins) := by rw [← hi]; exact List.mem_map_of_mem hx
  obtain ⟨s0, h1, h2⟩ := List.mem_map.1 hx2
  exact ⟨s0, h1, h2.symm⟩
theorem thread_step {b : List Stp} (hf : Fits b) {k n : Nat} {s sn : Stp} (hs : b[k]? = some s) (hj : isJ s.ins = true) (hn : b[n]? = some sn) (hnj : isJ sn.ins = false) (hne : ¬ (n : Int) = s.to)
    (hlast : ∀ s2, b[s.to.toNat]? = some s2 → isJ s2.ins = true) (hd : ¬ s.ins.op = 6 → -32768 ≤ dist (wsB b) k n ∧ dist (wsB b) k n < 32768) :
    Keeps b (b.set k ⟨s.ins, (n : Int)⟩) ∧ jj (b.set k ⟨s.ins, (n : Int)⟩) < jj b := by
  have hnl := (List.getElem?_eq_some_iff.1 hn).1
  have hld := jump_leads (hf.may k s hs) (by simpa [isJ] using hj)
  obtain ⟨h1, h2, _⟩ := hf.to k s hs hld
  refine ⟨keeps_thread hs (hf.thread hs hj hnl hd), ?_⟩
  have hi := ins_set hs (n : Int)
  unfold jj
  rw [hi]
  have hto := List.getElem?_eq_getElem (show s.to.toNat < b.length by omega)
  have hjt := hlast _ hto
  have e1 : (b.map (·.ins)).getD s.to.toNat ⟨0, 0, 0, 0, 0⟩ = (b[s.to.toNat]'(by omega)).ins := by
    rw [List.getD_eq_getElem?_getD, List.getElem?_map, hto]; rfl
  have e2 : (b.map (·.ins)).getD n ⟨0, 0, 0, 0, 0⟩ = sn.ins := by
    rw [List.getD_eq_getElem?_getD, List.getElem?_map, hn]; rfl
  have := jjL_set (is := b.map (·.ins)) (s' := ⟨s.ins, (n : Int)⟩) hs (by rw [hj, e1, hjt]; rfl) (by
    simp only [Int.toNat_natCast]
    rw [e2, hnj]
    simp)
  omega
theorem rows_toF {b : List Stp} {k : Nat} {s : Stp} (hs : b[k]? = some s) : ∀ t : Int, (b.flatMap Stp.row).take (k * 6 + 5) ++ VI t :: (b.flatMap Stp.row).drop (k * 6 + 5 + 1) = (b.set k ⟨s.ins, t⟩).flatMap Stp.row := rows_to hs
set_option maxRecDepth 100000 in
set_option maxHeartbeats 4000000 in
theorem c182 (hO : On cx) {h : AH} {b0 : List Stp} {g1 g2 : AH} {ver : Nat} (hf0 : Fits b0) (hl : b0.length < 1099511627776) :
    SimCall cx 182 [.sl (h.length + g1.length) ver 0 b0.length 6] (h ++ (g1 ++ AO.cells ver (b0.flatMap Stp.row) :: g2)) fun r h' => ∃ b G c, h' = h ++ (g1 ++ AO.cells ver (b.flatMap Stp.row) :: (g2 ++ G)) ∧ r = .tup [.sl (h.length + g1.length) ver 0 b.length 6, VB c] ∧ b.length = b0.length ∧ Keeps b0 b ∧ jj b ≤ jj b0 ∧ (c = true → jj b < jj b0) := by
  have hsl : ∀ (b : List Stp) (x : AH), SlT Stp.row 6 (h ++ (g1 ++ AO.cells ver (b.flatMap Stp.row) :: x)) (.sl (h.length + g1.length) ver 0 b.length 6) b := fun b x =>
    SlT.whole (f := Stp.row) (xs := b) (l := b.flatMap Stp.row) (fun g' => by simp only [go_sem]) Stp.len rfl
  have h177 := c177 hO (hsl b0 g2) hl
  refine SimCall.by hO.P res182 ?_
  unfold x182 r182
  repeat' first
    | ((with_reducible show SimCall _ 177 _ _ _); refine (h177).mono ?_; rintro r h' ⟨rfl, rfl⟩)
    | simp (maxSteps := 1000000) only [go_sem]
  have hpll : (placesN (wsB b0) b0.length).length = b0.length + 1 := beginsN_len _ _
  refine SimLoop.inv [0, 3, 0, 5, 0, 0] (fun m s => ∃ (i : Nat) (b : List Stp) (c : Bool), m = b0.length - i ∧ i ≤ b0.length ∧ b.length = b0.length ∧ b.map (·.ins) = b0.map (·.ins) ∧ Keeps b0 b ∧ jj b ≤ jj b0 ∧ (c = true → jj b < jj b0) ∧
    s = ⟨[.sl (h.length + g1.length) ver 0 b0.length 6, .un, .un, .un, .sl (h.length + (g1.length + (g2.length + 1))) 0 0 (b0.length + 1) 1, VB c, .un, .un, .un, .un, .un, .sl (h.length + g1.length) ver 0 b0.length 6, VI b0.length, VI i, .un, .un, .un, .un, .un, .un, .un, .un, .un, .un, .un, .un, .un, .un, .un, .un, .un, .un, .un, .un, .un, .un, .un, .un, .un, .un, .un, .un, .un, .un, .un, .un, .un, .un, .un, .un, .un, .un, .un, .un, .un, .un, .un, .un, .un, .un, .un, .un, .un, .un, .un, .un, .un, .un, .un, .un],
      h ++ (g1 ++ .cells ver (b.flatMap Stp.row) :: (g2 ++ [.cells 0 ((placesN (wsB b0) b0.length).map VI)]))⟩) ?_ b0.length ?_
  rotate_left
  · exact ⟨0, b0, false, rfl, Nat.zero_le _, rfl, rfl, Keeps.refl hf0, Nat.le_refl _, (fun q => by cases q), by simp only [go_sem]; rfl⟩
  rintro m s ⟨i, b, c, rfl, hi, hbl, hins, hkp, hjl, hcc, rfl⟩
  have hf := hkp.fits
  have hws : wsB b = wsB b0 := wsB_of_ins hins
  by_cases hlt : i < b0.length
  · have hlt' : ((i : Int) < b0.length) := by omega
    have hw := wrap_succ hlt (by omega)
    have hib : i < b.length := by omega
    have hbi := List.getElem?_eq_getElem hib
    have hslb := hsl b (g2 ++ [.cells 0 ((placesN (wsB b0) b0.length).map VI)])
    rw [hbl] at hslb
    have hto := rows_toF hbi
    have hpl : ∀ (t : Nat), t ≤ b0.length → ((placesN (wsB b0) b0.length).map VI)[t]? = some (VI (psum (wsB b0) t : Nat)) := by
      intro t ht
      rw [List.getElem?_map, places_get ht]; rfl
    have hrl := cells_len (f := Stp.row) (sz := 6) Stp.len b
    have hfit : i * 6 + 5 + 1 ≤ (b.flatMap Stp.row).length := by omega
    have hpi := hpl i (by omega)
    have hbp := psumB_bound b0 i
    have h0i : (0 : Int) ≤ i := by omega
    have hi1 : (i : Int) < ((b0.length + 1 : Nat) : Int) := by omega
    have h243 := fun (hj : isJ b[i].ins = true) => c243 hO hslb hf (by omega) hbi hj
    have hstep := fun (hj : isJ b[i].ins = true) (n : Nat) (sn : Stp) => thread_step (n := n) (sn := sn) hf hbi hj
    generalize b[i] = s at hbi hto h243 hstep
    obtain ⟨⟨op, dst, src, off, imm⟩, to⟩ := s
    simp only at hto hstep
    have hfit5 : i * 6 + 5 ≤ (b.flatMap Stp.row).length := by omega
    have hat := cells_at (f := Stp.row) (sz := 6) Stp.len hbi
    have hrow5 : ((b.flatMap Stp.row).drop (i * 6)).take 5 = [VI op, VI dst, VI src, VI off, VI imm] := by
      have : ((b.flatMap Stp.row).drop (i * 6)).take 5 = (((b.flatMap Stp.row).drop (i * 6)).take 6).take 5 := by rw [List.take_take]; rfl
      rw [this, hat]
      rfl
    have hc0 : (b.flatMap Stp.row)[i * 6]? = some (VI op) := cells_one (f := Stp.row) (sz := 6) Stp.len hbi (j := 0) (by decide)
    have hc5 : (b.flatMap Stp.row)[i * 6 + 5]? = some (VI to) := cells_one (f := Stp.row) (sz := 6) Stp.len hbi (j := 5) (by decide)
    by_cases hj : isJ ⟨op, dst, src, off, imm⟩ = true
    · skip
      repeat' first
        | ((with_reducible show SimCall _ 242 _ _ _); refine (c242' hO ⟨op, dst, src, off, imm⟩ _).mono ?_; rintro r h' ⟨rfl, rfl⟩)
        | simp (maxSteps := 1000000) only [go_sem, hlt', hw, h0i, hfit5, hrow5, hj, Int.toNat_natCast, Nat.zero_add]
      refine (h243 hj).mono ?_
      rintro r h' ⟨rfl, t, rfl, hcase⟩
      rcases hcase with htn | ⟨n, sn, rfl, hn, hnj, hfirst⟩
      · skip
        repeat' first
          | ((with_reducible show SemL _ _ _ _); refine SemL.of ?_)
          | simp (maxSteps := 1000000) only [go_sem, hlt', hw, h0i, hc0, hc5, htn, Bool.true_or, Int.toNat_natCast, Nat.zero_add]
        exact ⟨b0.length - (i + 1), by omega, i + 1, b, c, rfl, by omega, hbl, hins, hkp, hjl, hcc, rfl⟩
      · have hnl := (List.getElem?_eq_some_iff.1 hn).1
        have hn0 : ¬ (n : Int) < 0 := by omega
        have hnn : (0 : Int) ≤ n := by omega
        have hn1 : (n : Int) < ((b0.length + 1 : Nat) : Int) := by omega
        have hpn := hpl n (by omega)
        have hbn := psumB_bound b0 n
        have hw1 : IntKind.i64.wrap (((psum (wsB b0) n : Nat) : Int) - ((psum (wsB b0) i : Nat) : Int)) = ((psum (wsB b0) n : Nat) : Int) - ((psum (wsB b0) i : Nat) : Int) := wrap_id (by omega) (by omega)
        have hw2 : IntKind.i64.wrap (((psum (wsB b0) n : Nat) : Int) - ((psum (wsB b0) i : Nat) : Int) - 1) = dist (wsB b0) i n := by rw [wrap_id (by omega) (by omega)]; rfl
        have htn := hto (n : Int)
        repeat' first
          | ((with_reducible show wx _ (XCode.cond _ _ _) _ _); refine wx_if rfl (fun _ => ?_) (fun _ => ?_))
          | ((with_reducible show SemL _ _ _ _); refine SemL.of ?_)
          | simp (maxSteps := 1000000) only [go_sem, hlt', hw, hc0, hc5, hn0, hnn, hn1, h0i, hi1, hpi, hpn, hw1, hw2, Bool.false_or, hfit, htn, Int.toNat_natCast, Nat.mul_one, Nat.zero_add]
          | ((with_reducible show wl _ (XI.mk _ (some _) (XBody.op _) :: _) _ _); first | refine wl_optF rfl (fun e2 => by ((try simp only [Bool.and_eq_true] at e2); first | (simp (maxSteps := 1000000) only [e2, go_sem, hlt', hw, hc0, hc5, hn0, hnn, hn1, h0i, hi1, hpi, hpn, hw1, hw2, Bool.false_or, hfit, htn, Int.toNat_natCast, Nat.mul_one, Nat.zero_add]; first | done | rfl))) ?_ | refine wl_opt2T rfl (fun e1 e2 => by ((try simp only [Bool.and_eq_true] at e1); first | (simp (maxSteps := 1000000) only [e1, e2, go_sem, hlt', hw, hc0, hc5, hn0, hnn, hn1, h0i, hi1, hpi, hpn, hw1, hw2, Bool.false_or, hfit, htn, Int.toNat_natCast, Nat.mul_one, Nat.zero_add]; first | done | rfl))) ?_)
        · exact ⟨b0.length - (i + 1), by omega, i + 1, b, c, rfl, by omega, hbl, hins, hkp, hjl, hcc, rfl⟩
        · rename_i e1 e2
          simp at e1 e2
          have hdd : ¬ op = 6 → -32768 ≤ dist (wsB b) i n ∧ dist (wsB b) i n < 32768 := by
            intro h6
            rw [hws]
            rcases e2 with q | q
            · exact absurd q h6
            · exact q
          obtain ⟨k1, k2⟩ := hstep hj n sn hn hnj e1 (fun s2 hs2 => by
            cases q : isJ s2.ins with
            | true => rfl
            | false => exact absurd (hfirst s2 hs2 q) e1) hdd
          refine ⟨b0.length - (i + 1), by omega, i + 1, _, true, rfl, by omega, by rw [List.length_set]; exact hbl, by rw [ins_set hbi]; exact hins, hkp.trans k1, by omega, fun _ => by omega, rfl⟩
        · exact ⟨b0.length - (i + 1), by omega, i + 1, b, c, rfl, by omega, hbl, hins, hkp, hjl, hcc, rfl⟩
    · have hj2 : isJ ⟨op, dst, src, off, imm⟩ = false := by simpa using hj
      repeat' first
        | ((with_reducible show SimCall _ 242 _ _ _); refine (c242' hO ⟨op, dst, src, off, imm⟩ _).mono ?_; rintro r h' ⟨rfl, rfl⟩)
        | simp (maxSteps := 1000000) only [go_sem, hlt', hw, h0i, hfit5, hrow5, hj2, Int.toNat_natCast, Nat.zero_add]
      exact ⟨b0.length - (i + 1), by omega, i + 1, b, c, rfl, by omega, hbl, hins, hkp, hjl, hcc, rfl⟩
  · have hlt' : ¬ ((i : Int) < b0.length) := by omega
    repeat' first
      | simp (maxSteps := 1000000) only [go_sem, hlt']
    exact ⟨b, _, c, rfl, by rw [hbl], hbl, hkp, hjl, hcc⟩
end Go.Tidy
namespace Go.Tidy
open Go Go.Eng Go.Proofs
variable {cx : Cx}
theorem jjL_le (is : List Ins) : ∀ l : List Stp, jjL is l ≤ l.length
  | [] => Nat.le_refl _
  | s :: r => by
    have := jjL_le is r
    simp only [jjL, List.length_cons]
    split <;> omega
def far (b : List Stp) : Nat := b.length * (b.length + 1) + jj b
theorem far_len {b b' : List Stp} (h : b'.length < b.length) : far b' < far b := by
  unfold far
  have h1 : jj b' ≤ b'.length := jjL_le _ _
  have h2 : (b'.length + 1) * (b'.length + 1) ≤ b.length * (b.length + 1) := Nat.mul_le_mul (by omega) (by omega)
  have h3 : (b'.length + 1) * (b'.length + 1) = b'.length * (b'.length + 1) + (b'.length + 1) := Nat.succ_mul _ _
  omega
theorem far_jj {b b' : List Stp} (hl : b'.length = b.length) (h : jj b' < jj b) : far b' < far b := by
  unfold far
  rw [hl]
  omega
theorem rd_elsewhere {h g1 g2 G : AH} {o o' : AO} {id ver : Nat} {cs : List AV} (hid : id ≠ h.length + g1.length) (hr : AH.rd (h ++ (g1 ++ o :: g2)) id ver = some cs) : AH.rd (h ++ (g1 ++ o' :: (g2 ++ G))) id ver = some cs := by
  have hlt := rd_lt hr
  have : (h ++ (g1 ++ o' :: (g2 ++ G)))[id]? = (h ++ (g1 ++ o :: g2))[id]? := by
    rw [← List.append_assoc, ← List.append_assoc]
    by_cases hc : id < (h ++ g1).length
    · rw [List.getElem?_append_left hc, List.getElem?_append_left hc]
    · rw [List.getElem?_append_right (by omega), List.getElem?_append_right (by omega)]
      have hl : (h ++ g1).length = h.length + g1.length := List.length_append
      obtain ⟨j, hj⟩ : ∃ j, id - (h ++ g1).length = j + 1 := ⟨id - (h ++ g1).length - 1, by omega⟩
      rw [hj, List.getElem?_cons_succ, List.getElem?_cons_succ]
      simp only [List.length_append, List.length_cons] at hlt hj
      rw [List.getElem?_append_left (by omega)]
  unfold AH.rd at hr ⊢
  rw [this]
  exact hr
def Chg (h : AH) (g1 g2 : AH) (ver : Nat) (b : List Stp) (r : AV) (h' : AH) : Prop :=
  ∃ b' g1' ver' g2' c, h' = h ++ (g1' ++ AO.cells ver' (b'.flatMap Stp.row) :: g2') ∧ r = .tup [.sl (h.length + g1'.length) ver' 0 b'.length 6, VB c] ∧ Keeps b b' ∧ (c = true → far b' < far b) ∧ far b' ≤ far b ∧ b'.length ≤ b.length ∧
    ∀ id cs, id ≠ h.length + g1.length → AH.rd (h ++ (g1 ++ AO.cells ver (b.flatMap Stp.row) :: g2)) id 0 = some cs → AH.rd h' id 0 = some cs ∧ id ≠ h.length + g1'.length
theorem chg_of {h g1 g2 : AH} {ver : Nat} {b : List Stp} (hf : Fits b) {r : AV} {h' : AH} (hc : Changed (h ++ (g1 ++ AO.cells ver (b.flatMap Stp.row) :: g2)) (.sl (h.length + g1.length) ver 0 b.length 6) b (Keeps b) r h') : Chg h g1 g2 ver b r h' := by
  obtain ⟨G, rfl, h1⟩ := hc
  rcases h1 with rfl | ⟨b', a1, a2, v2, rfl, rfl, h2, h3⟩
  · refine ⟨b, g1, ver, g2 ++ G, false, by simp, rfl, Keeps.refl hf, (fun q => by cases q), Nat.le_refl _, Nat.le_refl _, fun id cs hid hr => ⟨?_, hid⟩⟩
    rw [rd_old (rd_lt hr)]; exact hr
  · refine ⟨b', g1 ++ AO.cells ver (b.flatMap Stp.row) :: (g2 ++ a1), v2, a2, true, by simp, ?_, h3, fun _ => far_len h2, Nat.le_of_lt (far_len h2), by omega, fun id cs hid hr => ⟨?_, ?_⟩⟩
    · simp only [List.length_append, List.length_cons]
      congr 3
      omega
    · rw [rd_old (rd_lt hr)]; exact hr
    · have := rd_lt hr
      simp only [List.length_append, List.length_cons] at this ⊢
      omega
theorem laid_call {b : List Stp} (hf : Fits b) (hs : (wsB b).sum < 2147483647) {i : Ins} (hi : i ∈ laidL b) (h3 : jumps i = 3) : ∃ s ∈ b, i = s.ins := by
  obtain ⟨k, hk⟩ := List.mem_iff_getElem?.1 hi
  unfold laidL at hk
  rw [List.getElem?_mapIdx, Option.map_eq_some_iff] at hk
  obtain ⟨s, h1, rfl⟩ := hk
  refine ⟨s, List.mem_of_getElem? h1, ?_⟩
  by_cases hl : leads s.ins = true
  · exfalso
    obtain ⟨h0, _, h5⟩ := hf.to k s h1 hl
    have hv : if s.ins.op = 6 then -2147483648 ≤ dist (wsB b) k s.to.toNat ∧ dist (wsB b) k s.to.toNat < 2147483648 else -32768 ≤ dist (wsB b) k s.to.toNat ∧ dist (wsB b) k s.to.toNat < 32768 := by
      split
      · have a1 := psum_all (wsB b) (Nat.le_refl _)
        have a2 : psum (wsB b) k ≤ (wsB b).sum := by rw [← psum_all (wsB b) (t := max k (wsB b).length) (by omega)]; exact psum_mono _ (by omega)
        have a3 : psum (wsB b) s.to.toNat ≤ (wsB b).sum := by rw [← psum_all (wsB b) (t := max s.to.toNat (wsB b).length) (by omega)]; exact psum_mono _ (by omega)
        unfold dist
        omega
      · rename_i h6; exact h5 h6
    have := (leads_aim hl hv).1
    unfold laidI at h3
    rw [if_pos h0, this] at h3
    unfold leads at hl
    simp [h3] at hl
  · have h0 := hf.no k s h1 (by simpa using hl)
    unfold laidI
    rw [if_neg (by omega)]
def chgC : List AV := [.fn 180 [], .fn 181 [], .fn 182 []]
set_option maxRecDepth 100000 in
set_option maxHeartbeats 4000000 in
theorem c70 (hO : On cx) {h : AH} {v : AV} {nf nt : Int} {is : List Ins} (hv : SlIns h v is) (hl : is.length < 1099511627775) (hb : BodyOk nf nt is) (hs : (wsI is).sum < 2147483647) :
    SimCall cx 70 [v] h fun r h' => ∃ js, Made nf nt is js ∧ r = .sl h.length 0 0 js.length 5 ∧ h' = h ++ [.cells 0 (js.flatMap Ins.row)] := by
  refine (SimCall.gc1 hole_id (Q := fun n sz cs => ∃ js, Made nf nt is js ∧ n = js.length ∧ sz = 5 ∧ cs = js.flatMap Ins.row) ?_).mono (by rintro r h' ⟨n, sz, cs, ⟨js, h1, rfl, rfl, rfl⟩, rfl, rfl⟩; exact ⟨js, h1, rfl, rfl⟩)
  refine SimCall.by hO.P res70 ?_
  unfold x70 r70
  repeat' first
    | simp (maxSteps := 1000000) only [go_sem]
  refine (c125 hO hv hl (fun i hi => (hb.rule i hi).may)).mono ?_
  rintro r h' ⟨b0, htk, rfl, rfl⟩
  obtain ⟨hf0, hws0, hr0⟩ := takenUp_fits hb htk.len htk.each
  have hl0 : b0.length < 1099511627776 := by have := htk.len; omega
  repeat' first
    | simp (maxSteps := 1000000) only [go_sem]
  refine SimLoop.inv [3] (fun m s => ∃ (b : List Stp) (g1 g2 : AH) (ver : Nat), m = far b ∧ Keeps b0 b ∧ b.length ≤ b0.length ∧
    s = ⟨[.un, .un, .un, .sl (h.length + g1.length) ver 0 b.length 6, .un, .un, .un, .un, .un, .un, .un, .un, .un, .un, .un, .un, .un, .un, .un, .un, .un, .un, .un, .un, .un], h ++ (g1 ++ .cells ver (b.flatMap Stp.row) :: g2)⟩) ?_ (far b0) ?_
  rotate_left
  · exact ⟨b0, [], [], 0, rfl, Keeps.refl hf0, Nat.le_refl _, by simp only [go_sem]⟩
  rintro m s ⟨b, g1, g2, ver, rfl, hk, hbl, rfl⟩
  have h3 : ((3 : Nat) : Int) = 3 := rfl
  repeat' first
    | ((with_reducible show SimCall _ 126 _ _ _); refine (c126 hO _).mono ?_; rintro r h' ⟨rfl, rfl⟩)
    | simp (maxSteps := 1000000) only [go_sem]
  refine SimLoop.inv [3, 5, 0, 0] (fun m s => ∃ (i : Nat) (b' : List Stp) (g1 g2 : AH) (ver fid : Nat), m = 3 - i ∧ i ≤ 3 ∧ Keeps b b' ∧ far b' ≤ far b ∧ b'.length ≤ b.length ∧ fid ≠ h.length + g1.length ∧ AH.rd (h ++ (g1 ++ .cells ver (b'.flatMap Stp.row) :: g2)) fid 0 = some chgC ∧
    s = ⟨[.un, .un, .un, .sl (h.length + g1.length) ver 0 b'.length 6, .un, .un, .un, .un, .un, .sl fid 0 0 3 1, VI ((3 : Nat) : Int), VI i, .un, .un, .un, .un, .un, .un, .un, .un, .un, .un, .un, .un, .un], h ++ (g1 ++ .cells ver (b'.flatMap Stp.row) :: g2)⟩) ?_ 3 ?_
  rotate_left
  · refine ⟨0, b, g1, g2 ++ [.cells 0 chgC], ver, h.length + (g1.length + (g2.length + 1)), rfl, by omega, Keeps.refl hk.fits, Nat.le_refl _, Nat.le_refl _, by omega, by simp only [go_sem], by simp only [go_sem]; rfl⟩
  rintro m s ⟨i, b', g1', g2', ver', fid, rfl, hi, hk', hfar, hbl', hfid, hrd, rfl⟩
  have hf' := hk'.fits
  have hlb : b'.length < 1099511627776 := by omega
  have hsl : SlT Stp.row 6 (h ++ (g1' ++ .cells ver' (b'.flatMap Stp.row) :: g2')) (.sl (h.length + g1'.length) ver' 0 b'.length 6) b' :=
    SlT.whole (f := Stp.row) (xs := b') (l := b'.flatMap Stp.row) (fun g' => by simp only [go_sem]) Stp.len rfl
  have k180 : SimCall cx 180 [.sl (h.length + g1'.length) ver' 0 b'.length 6] (h ++ (g1' ++ .cells ver' (b'.flatMap Stp.row) :: g2')) (Chg h g1' g2' ver' b') := (c180 hO hsl hf' hlb).mono fun r h' hc => chg_of hf' hc
  have k181 : SimCall cx 181 [.sl (h.length + g1'.length) ver' 0 b'.length 6] (h ++ (g1' ++ .cells ver' (b'.flatMap Stp.row) :: g2')) (Chg h g1' g2' ver' b') := (c181 hO hsl hf' hlb).mono fun r h' hc => chg_of hf' hc
  have k182 : SimCall cx 182 [.sl (h.length + g1'.length) ver' 0 b'.length 6] (h ++ (g1' ++ .cells ver' (b'.flatMap Stp.row) :: g2')) (Chg h g1' g2' ver' b') := by
    refine (c182 hO hf' hlb).mono ?_
    rintro r h' ⟨b2, G, c, rfl, rfl, e1, e2, e3, e4⟩
    refine ⟨b2, g1', ver', g2' ++ G, c, rfl, rfl, e2, fun q => far_jj e1 (e4 q), ?_, by omega, fun id cs hid hr => ⟨rd_elsewhere hid hr, hid⟩⟩
    unfold far
    rw [e1]
    omega
  have fin : ∀ r h', Chg h g1' g2' ver' b' r h' → ∃ (b2 : List Stp) (a1 a2 : AH) (v2 : Nat) (c : Bool), h' = h ++ (a1 ++ AO.cells v2 (b2.flatMap Stp.row) :: a2) ∧ r = .tup [.sl (h.length + a1.length) v2 0 b2.length 6, VB c] ∧ Keeps b b2 ∧ (c = true → far b2 < far b) ∧ far b2 ≤ far b ∧ b2.length ≤ b.length ∧ fid ≠ h.length + a1.length ∧ AH.rd h' fid 0 = some chgC := by
    rintro r h' ⟨b2, a1, v2, a2, c, e1, e2, e3, e4, e5, e6, e7⟩
    obtain ⟨q1, q2⟩ := e7 fid chgC hfid hrd
    exact ⟨b2, a1, a2, v2, c, e1, e2, hk'.trans e3, fun q => Nat.lt_of_lt_of_le (e4 q) hfar, by omega, by omega, q2, q1⟩
  have h0i : (0 : Int) ≤ i := by omega
  by_cases hlt : i < 3
  · have hlt' : (i : Int) < ((3 : Nat) : Int) := by omega
    have hw := wrap_succ hlt (by omega)
    have hcall : ∀ F : FuncId, chgC[i]? = some (.fn F []) → SimCall cx F [.sl (h.length + g1'.length) ver' 0 b'.length 6] (h ++ (g1' ++ .cells ver' (b'.flatMap Stp.row) :: g2')) (Chg h g1' g2' ver' b') := by
      intro F hF
      match i, hlt, hF with
      | 0, _, hF => simp [chgC] at hF; subst hF; exact k180
      | 1, _, hF => simp [chgC] at hF; subst hF; exact k181
      | 2, _, hF => simp [chgC] at hF; subst hF; exact k182
    obtain ⟨F, hF⟩ : ∃ F, chgC[i]? = some (.fn F []) := by
      match i, hlt with
      | 0, _ => exact ⟨_, rfl⟩
      | 1, _ => exact ⟨_, rfl⟩
      | 2, _ => exact ⟨_, rfl⟩
    repeat' first
      | simp (maxSteps := 1000000) only [go_sem, hlt', h0i, hrd, hF, Int.toNat_natCast, Nat.mul_one, Nat.zero_add]
    refine (hcall F hF).mono ?_
    intro r h' hc
    obtain ⟨b2, a1, a2, v2, c, rfl, rfl, e3, e4, e5, e6, e7, e8⟩ := fin r h' hc
    repeat' first
      | ((with_reducible show wx _ (XCode.cond _ _ _) _ _); refine wx_if rfl (fun _ => ?_) (fun _ => ?_))
      | simp (maxSteps := 1000000) only [go_sem, hw]
    · rename_i e
      exact ⟨far b2, e4 e, b2, a1, a2, v2, rfl, hk.trans e3, by omega, rfl⟩
    · exact ⟨3 - (i + 1), by omega, i + 1, b2, a1, a2, v2, fid, rfl, by omega, e3, e5, e6, e7, e8, rfl⟩
  · have hlt' : ¬ (i : Int) < ((3 : Nat) : Int) := by omega
    have hkb := hk.trans hk'
    have hne := hkb.fits.ne
    have h127 := c127 hO hsl hne (by omega) hkb.fits.toAll
    repeat' first
      | ((with_reducible show SimCall _ 127 _ _ _); refine (h127).mono ?_; rintro r h' ⟨rfl, rfl⟩)
      | simp (maxSteps := 1000000) only [go_sem, hlt']
    have hsum : (wsB b').sum ≤ (wsI is).sum := by have := hkb.slots; rw [hws0] at this; exact this
    refine ⟨_, rfl, _, _, _, _, _, rfl, by omega, by simp only [go_sem], ?_, laidL b', ⟨laid_ok hkb.fits (fun s hs' => ?_) (by omega), by rw [wsI_laid]; exact hsum, ?_⟩, by simp [laidL], rfl, rfl⟩
    · intro y hy
      obtain ⟨s, _, hy⟩ := List.mem_flatMap.1 hy
      simp only [Ins.row, List.mem_cons, List.not_mem_nil, or_false] at hy
      rcases hy with rfl | rfl | rfl | rfl | rfl <;> exact .v _
    · obtain ⟨s0, h0, e0⟩ := hkb.ins s hs'
      rw [e0]
      exact hr0 s0 h0
    · intro c hc
      unfold callsOf at hc ⊢
      obtain ⟨i, hi, rfl⟩ := List.mem_map.1 hc
      obtain ⟨hi, h3⟩ := List.mem_filter.1 hi
      obtain ⟨s, hs', rfl⟩ := laid_call hkb.fits (by omega) hi (of_decide_eq_true h3)
      obtain ⟨s0, h0, e0⟩ := hkb.ins s hs'
      obtain ⟨k, hk⟩ := List.mem_iff_getElem?.1 h0
      refine List.mem_map.2 ⟨s.ins, List.mem_filter.2 ⟨?_, h3⟩, rfl⟩
      rw [e0]
      exact List.mem_of_getElem? (htk.each k s0 hk).1
end Go.Tidy
namespace Go.Tidy
open Go Go.Eng Go.Proofs
variable {cx : Cx}
theorem c141' (hP : cx.P = Tryz.prog) (n : Int) (h : AH) : SimCall cx 141 [VI n] h fun r h' => h' = h ∧ r = VB false := by
  refine SimCall.gc ?_
  refine SimCall.by hP res141 ?_
  unfold x141 r141
  repeat' first
    | simp (maxSteps := 1000000) only [go_sem]
  all_goals first | exact ⟨more_one, plain_v _⟩ | exact ⟨more_nil, plain_v _⟩ | refine ⟨by first | exact more_one | exact more_nil, by first | exact plain_v _ | exact plain_tup (by simp [Plain.v]), ?_⟩
  all_goals try simp only [decide_eq_true_eq, decide_eq_false_iff_not, Bool.not_eq_true', Bool.not_eq_false', AV.v.injEq, AV.tup.injEq, List.cons.injEq, Value.int.injEq, Value.bool.injEq, true_and, and_true] at *
  all_goals (try simp only [band] at *)
  all_goals (try simp_all)
  all_goals grind
theorem c140 (hP : cx.P = Tryz.prog) (s : ByteArray) (h : AH) : SimCall cx 140 [.v (.string s)] h fun r h' => h' = h ∧ r = VB false := by
  refine SimCall.gc ?_
  refine SimCall.by hP res140 ?_
  unfold x140 r140
  repeat' first
    | simp (maxSteps := 1000000) only [go_sem]
  all_goals first | exact ⟨more_one, plain_v _⟩ | exact ⟨more_nil, plain_v _⟩ | refine ⟨by first | exact more_one | exact more_nil, by first | exact plain_v _ | exact plain_tup (by simp [Plain.v]), ?_⟩
  all_goals try simp only [decide_eq_true_eq, decide_eq_false_iff_not, Bool.not_eq_true', Bool.not_eq_false', AV.v.injEq, AV.tup.injEq, List.cons.injEq, Value.int.injEq, Value.bool.injEq, true_and, and_true] at *
  all_goals (try simp only [band] at *)
  all_goals (try simp_all)
  all_goals grind
def cmpS (a b : ByteArray) : Int := if Op.bytesLess a.toList b.toList = true then -1 else if (Op.bytesLess a.toList b.toList || decide (a = b)) = false then 1 else 0
def cmpI (a b : Int) : Int := if a < b then -1 else if b < a then 1 else 0
def cmpF (f g : Fn) : Int := if cmpS f.name g.name = 0 then cmpI f.obj g.obj else cmpS f.name g.name
theorem c83 (hP : cx.P = Tryz.prog) (a b : ByteArray) (h : AH) : SimCall cx 83 [.v (.string a), .v (.string b)] h fun r h' => h' = h ∧ r = VI (cmpS a b) := by
  refine SimCall.gc ?_
  refine SimCall.by hP res83 ?_
  unfold x83 r83
  repeat' first
    | ((with_reducible show wx _ (XCode.cond _ _ _) _ _); refine wx_if rfl (fun _ => ?_) (fun _ => ?_))
    | ((with_reducible show SimCall _ 140 _ _ _); refine (c140 hP _ _).mono ?_; rintro r h' ⟨rfl, rfl⟩)
    | simp (maxSteps := 1000000) only [go_sem]
  all_goals first | exact ⟨more_one, plain_v _⟩ | exact ⟨more_nil, plain_v _⟩ | refine ⟨by first | exact more_one | exact more_nil, by first | exact plain_v _ | exact plain_tup (by simp [Plain.v]), ?_⟩
  all_goals try simp only [decide_eq_true_eq, decide_eq_false_iff_not, Bool.not_eq_true', Bool.not_eq_false', AV.v.injEq, AV.tup.injEq, List.cons.injEq, Value.int.injEq, Value.bool.injEq, true_and, and_true] at *
  all_goals unfold cmpS
  all_goals (try simp only [band] at *)
  all_goals (try simp_all)
  all_goals grind
theorem c84 (hP : cx.P = Tryz.prog) (a b : Int) (h : AH) : SimCall cx 84 [VI a, VI b] h fun r h' => h' = h ∧ r = VI (cmpI a b) := by
  refine SimCall.gc ?_
  refine SimCall.by hP res84 ?_
  unfold x84 r84
  repeat' first
    | ((with_reducible show wx _ (XCode.cond _ _ _) _ _); refine wx_if rfl (fun _ => ?_) (fun _ => ?_))
    | ((with_reducible show SimCall _ 141 _ _ _); refine (c141' hP _ _).mono ?_; rintro r h' ⟨rfl, rfl⟩)
    | simp (maxSteps := 1000000) only [go_sem]
  all_goals first | exact ⟨more_one, plain_v _⟩ | exact ⟨more_nil, plain_v _⟩ | refine ⟨by first | exact more_one | exact more_nil, by first | exact plain_v _ | exact plain_tup (by simp [Plain.v]), ?_⟩
  all_goals try simp only [decide_eq_true_eq, decide_eq_false_iff_not, Bool.not_eq_true', Bool.not_eq_false', AV.v.injEq, AV.tup.injEq, List.cons.injEq, Value.int.injEq, Value.bool.injEq, true_and, and_true] at *
  all_goals unfold cmpI
  all_goals (try simp only [band] at *)
  all_goals (try simp_all)
  all_goals grind
theorem c82 (hP : cx.P = Tryz.prog) {a b : Int} {h : AH} {id : Nat} (hrd : ∀ g, AH.rd (h ++ g) id 0 = some [VI a, VI b]) : SimCall cx 82 [.sl id 0 0 2 1] h fun r h' => h' = h ∧ r = VI (if a = 0 then b else a) := by
  have hrd0 := hrd []
  rw [List.append_nil] at hrd0
  refine SimCall.gc ?_
  refine SimCall.by hP res82 ?_
  unfold x82 r82
  have h1 : (0 : Int) < ((2 : Nat) : Int) := by decide
  have h2 : (1 : Int) < ((2 : Nat) : Int) := by decide
  have h3 : ¬ (2 : Int) < ((2 : Nat) : Int) := by decide
  have w1 : IntKind.i64.wrap 1 = 1 := by decide
  have w2 : IntKind.i64.wrap 2 = 2 := by decide
  repeat' first
    | ((with_reducible show wx _ (XCode.cond _ _ _) _ _); refine wx_if rfl (fun _ => ?_) (fun _ => ?_))
    | ((with_reducible show SimLoop _ _ _ _); refine SimLoop.go ?_)
    | simp (maxSteps := 1000000) only [go_sem, hrd0, h1, h2, h3, w1, w2, Int.reduceToNat, Nat.zero_mul, Nat.mul_one, List.getElem?_cons_zero, List.getElem?_cons_succ]
  all_goals rename_i e1
  · refine ⟨more_nil, plain_v _, ?_⟩
    rw [if_neg (by simpa using e1)]
  · refine ⟨more_nil, plain_v _, ?_⟩
    rename_i e2
    rw [if_pos (by simpa using e2)]
  · refine ⟨more_nil, plain_v _, ?_⟩
    rename_i e2
    rw [if_pos (by simpa using e2)]
    simp at e1
    rw [e1]
set_option maxRecDepth 100000 in
theorem c81 (hP : cx.P = Tryz.prog) {fs : List Fn} {fn : Nat → List AV} (hr : ∀ (i : Nat) x, fs[i]? = some x → fn i = Fn.row x) {i j : Nat} {f g : Fn} (hi : fs[i]? = some f) (hj : fs[j]? = some g) :
    SimCall cx 81 [VI i, VI j, .rp [.un, .ro 4 fs.length fn]] [] fun r h' => h' = [] ∧ r = VI (cmpF f g) := by
  have hil : i < fs.length := (List.getElem?_eq_some_iff.1 hi).1
  have hjl : j < fs.length := (List.getElem?_eq_some_iff.1 hj).1
  have hp1 : xIad 4 (.ro 4 fs.length fn) (VI i) = some (.rp (Fn.row f)) := by simp [xIad, hil, hr i f hi]
  have hp2 : xIad 4 (.ro 4 fs.length fn) (VI j) = some (.rp (Fn.row g)) := by simp [xIad, hjl, hr j g hj]
  have hq1 : ∀ (h : AH) x, xLda h 4 (.rp (Fn.row x)) = some (.agg (Fn.row x)) := fun _ _ => rfl
  have hf1 : ∀ a b : AV, xFad 1 (.rp [a, b]) = some (.rp [b]) := fun _ _ => rfl
  have hl1 : ∀ (h : AH) (a : AV), xLd1 h (.rp [a]) = some a := fun _ _ => rfl
  refine SimCall.gc ?_
  refine SimCall.by hP res81 ?_
  unfold x81 r81
  repeat' first
    | ((with_reducible show dK _ 83 _ _ _); refine dK_of _ (c83 hP _ _ _) ?_)
    | ((with_reducible show dK _ 84 _ _ _); refine dK_of _ (c84 hP _ _ _) ?_)
    | ((with_reducible show dK _ 82 _ _ _); refine dK_of _ (c82 hP (fun _ => rfl)) ?_)
    | simp (maxSteps := 1000000) only [go_sem, hp1, hp2, hq1, hf1, hl1, true_and, implies_true, Fn.row, List.nil_append]
  exact ⟨⟨_, rfl⟩, plain_v _, rfl⟩
end Go.Tidy
namespace Go.Tidy
open Go Go.Eng Go.Proofs
open Go.Sort in
open Go.Shelf in
shelf_lay_g SlLaysF.n6 Slsf 6 at Tryz 80 as lays80
variable {cx : Cx}
theorem cmpS_zero {a b : ByteArray} : cmpS a b = 0 ↔ a = b := by
  unfold cmpS
  constructor
  · intro h
    split at h
    · omega
    · split at h
      · omega
      · rename_i h1 h2
        simp [h1] at h2
        exact h2
  · rintro rfl
    have : Op.bytesLess a.toList a.toList = false := by rw [bytesLess_eq]; simp [List.lt_irrefl]
    simp [this]
theorem cmpF_lt {f g : Fn} : cmpF f g < 0 ↔ f.name.toList < g.name.toList ∨ f.name = g.name ∧ f.obj < g.obj := by
  unfold cmpF
  by_cases h : cmpS f.name g.name = 0
  · rw [if_pos h]
    have he := cmpS_zero.1 h
    have hn : ¬ f.name.toList < g.name.toList := by rw [he]; exact List.lt_irrefl _
    unfold cmpI
    constructor
    · intro h1
      refine .inr ⟨he, ?_⟩
      split at h1
      · assumption
      · split at h1 <;> omega
    · rintro (h1 | ⟨_, h1⟩)
      · exact absurd h1 hn
      · rw [if_pos h1]; omega
  · rw [if_neg h]
    have he : ¬ f.name = g.name := fun e => h (cmpS_zero.2 e)
    unfold cmpS
    rw [bytesLess_eq]
    constructor
    · intro h1
      split at h1
      · rename_i h2; exact .inl (by simpa using h2)
      · split at h1 <;> omega
    · rintro (h1 | ⟨h1, _⟩)
      · simp [h1]
      · exact absurd h1 he
theorem str_ext {a b : ByteArray} (h : a.toList = b.toList) : a = b := by
  rw [Lib.toList_data, Lib.toList_data] at h
  exact ByteArray.ext (Array.toList_inj.1 h)
open Go.Sort in
theorem swoF {α : Type} (fa : α → Fn) : SWO (ltOf fun x y => cmpF (fa x) (fa y)) where
  irrefl x := by
    unfold ltOf
    simp only [cmpF_lt, decide_eq_false_iff_not]
    rintro (h | h)
    · exact List.lt_irrefl _ h
    · omega
  trans x y z h1 h2 := by
    unfold ltOf at *
    simp only [cmpF_lt, decide_eq_true_eq] at *
    rcases h1 with h1 | ⟨e1, h1⟩ <;> rcases h2 with h2 | ⟨e2, h2⟩
    · exact .inl (List.lt_trans h1 h2)
    · exact .inl (by rw [← e2]; exact h1)
    · exact .inl (by rw [e1]; exact h2)
    · exact .inr ⟨e1.trans e2, by omega⟩
  ntrans x y z h1 h2 := by
    unfold ltOf at *
    simp only [cmpF_lt, decide_eq_false_iff_not, not_or, not_and] at *
    obtain ⟨a1, a2⟩ := h1
    obtain ⟨b1, b2⟩ := h2
    rw [List.not_lt] at a1 b1
    refine ⟨by rw [List.not_lt]; exact List.le_trans b1 a1, fun e => ?_⟩
    have e1 : (fa x).name.toList = (fa y).name.toList := List.le_antisymm (by rw [e]; exact b1) a1
    have e2 : (fa y).name.toList = (fa z).name.toList := by rw [← e1, e]
    have := a2 (str_ext e1)
    have := b2 (str_ext e2)
    omega
theorem rd_obj {h : AH} {id ver : Nat} {cs : List AV} (hrd : AH.rd h id ver = some cs) : ∃ o, h[id]? = some o ∧ o.ver = ver := by
  unfold AH.rd at hrd
  split at hrd
  · rename_i v c ho
    split at hrd
    · rename_i e; exact ⟨_, ho, e⟩
    · cases hrd
  · rename_i c ho
    split at hrd
    · rename_i e; exact ⟨_, ho, e.symm⟩
    · cases hrd
  · cases hrd
theorem rd_lies {φ : Phi} {h : AH} {w : World} {id ver b : Nat} {n : Nat × Nat} {cs : List AV} (hrd : AH.rd h id ver = some cs) (hφ : φ id ver = some (b, n)) (hW : RepW cx φ h w) :
    ∃ (ccs : Array Value) (T : TypeId) (fz : Nat × Nat), w.heap[b]? = some (.cells ccs T fz) ∧ cs.length ≤ ccs.size ∧ (∀ (k : Nat) x v, cs[k]? = some x → ccs[k]? = some v → Rep cx.w0 cx.B φ x v) ∧ ∀ (k : Nat) v, k < cs.length → ccs[k]? = some v → v.oneCell' = true := by
  unfold AH.rd at hrd
  split at hrd
  · rename_i v c ho
    split at hrd
    · rename_i e
      subst e
      cases hrd
      obtain ⟨q1, ccs, T, q2, q3, q4, q5, q6⟩ := hW.obj id _ b n ho hφ
      exact ⟨ccs, T, _, q2, by omega, q5, q6⟩
    · cases hrd
  · rename_i c ho
    split at hrd
    · rename_i e
      subst e
      cases hrd
      obtain ⟨q1, ccs, T, fz, q2, q3, q4, q5, q6⟩ := hW.obj id _ b n ho hφ
      exact ⟨ccs, T, _, q2, by omega, q5, q6⟩
    · cases hrd
  · cases hrd
theorem SlT.lies {α : Type} {f : α → List AV} {sz : Nat} {φ : Phi} {h : AH} {w : World} {v : AV} {val : Value} {xs : List α} (hs : SlT f sz h v xs) (hfl : ∀ x, (f x).length = sz) (hsz : 0 < sz) (hx : 0 < xs.length) (hv : Rep cx.w0 cx.B φ v val) (hW : RepW cx φ h w) :
    ∃ b o cap, val = .slice (some ⟨b, o, none⟩) xs.length cap ∧ xs.length ≤ cap ∧ b < w.heap.size ∧ (∀ (id : Nat) ob n, h[id]? = some ob → φ id ob.ver = some (b, n) → v.at_ = some id) ∧
      ∀ (i k : Nat) x c, xs[i]? = some x → (f x)[k]? = some c → ∃ u, w.cell? ⟨b, o + i * sz + k, none⟩ = some u ∧ Rep cx.w0 cx.B φ c u ∧ u.oneCell' = true := by
  cases hs with
  | sl id ver off cs xs hrd hc =>
    cases hv with
    | sl _ _ _ _ _ b n cap hφ h1 h2 h3 h4 =>
      have hrd0 := hrd []
      rw [List.append_nil] at hrd0
      obtain ⟨ccs, T, fz, hb, hle, hrep, hone⟩ := rd_lies hrd0 hφ hW
      have hfit := SlT.fit hfl hsz hc hx
      refine ⟨b, off, cap, rfl, h3, (hW.hi _ _ _ _ hφ).2, ?_, ?_⟩
      · intro id' ob n' ho hφ'
        obtain ⟨o2, ho2, hv2⟩ := rd_obj hrd0
        have := hW.inj id id' o2 ob b n n' ho2 ho (by rw [hv2]; exact hφ) hφ'
        subst this
        rfl
      · intro i k x c hi hk
        have hi' : i < xs.length := (List.getElem?_eq_some_iff.1 hi).1
        have hk' : k < sz := by rw [← hfl x]; exact (List.getElem?_eq_some_iff.1 hk).1
        have hle2 : i * sz + sz ≤ xs.length * sz := by
          have := Nat.mul_le_mul_right sz (show i + 1 ≤ xs.length by omega)
          rwa [Nat.succ_mul] at this
        have hcell : cs[off + i * sz + k]? = some c := by
          rw [← hk, ← cells_one hfl hi hk', ← hc, List.getElem?_take_of_lt (by omega), List.getElem?_drop]
          congr 1
          omega
        have hlt : off + i * sz + k < ccs.size := by omega
        refine ⟨ccs[off + i * sz + k], ?_, hrep _ c _ hcell (Array.getElem?_eq_getElem hlt), hone _ _ (by omega) (Array.getElem?_eq_getElem hlt)⟩
        simp [World.cell?, hb, hlt]
  | ro fn xs hr =>
    cases hv with
    | ro _ _ _ A cap b o c hcap hA hf hc h1 h2 =>
      obtain ⟨rfl, hbB⟩ := hA hx
      refine ⟨b, o, cap, rfl, hcap, by have := hW.hB; omega, ?_, ?_⟩
      · intro id' ob n ho hφ
        have := (hW.hi _ _ _ _ hφ).1
        omega
      · intro i k x c' hi hk
        have hi' : i < xs.length := (List.getElem?_eq_some_iff.1 hi).1
        have hk' : k < sz := by rw [← hfl x]; exact (List.getElem?_eq_some_iff.1 hk).1
        refine ⟨c i k, by rw [hW.cell0 hbB]; exact hc i k hi' hk', h2 i k c' hi' (by rw [hr i x hi]; exact hk), h1 i k hi' hk'⟩
open Go.Sort in
theorem RepW.more {φ : Phi} {h : AH} {w : World} (hw : RepW cx φ h w) (os : Array Obj) : RepW cx φ h (Go.Sort.grow w os) ∧ Step φ h w φ h (Go.Sort.grow w os) := by
  have hold : ∀ k, k < w.heap.size → (Go.Sort.grow w os).heap[k]? = w.heap[k]? := fun k hk => heap_grow_old w os hk
  have hB := hw.hB
  refine ⟨⟨hw.below.trans ⟨rfl, rfl, rfl, by simp, fun k hk => hold k (by omega), Nat.le_refl _⟩, fun id o b n ho hb => (hw.obj id o b n ho hb).mono (Ext.refl _) (hold b (hw.hi _ _ _ _ hb).2), hw.inj, hw.dom, fun id ver b n hb => ⟨(hw.hi id ver b n hb).1, ?_⟩⟩,
    Ext.refl _, fun b hb _ => hold b hb, fun id o b n ho hb _ => ⟨id, o, n, ho, hb⟩, by simp, Nat.le_refl _, fun _ _ hv => hv⟩
  have := (hw.hi id ver b n hb).2
  simp
  omega
open Go.Sort in
theorem world_of_blw {W w : World} (h : Blw W.heap.size W w) : w = Go.Sort.grow (W.drewN (w.drawn - W.drawn)) (w.heap.extract W.heap.size w.heap.size) := by
  have hh : w.heap = W.heap ++ w.heap.extract W.heap.size w.heap.size := by
    refine Array.ext_getElem? fun k => ?_
    rw [Array.getElem?_append]
    split
    · rename_i hk; exact h.block k hk
    · rename_i hk
      rw [Array.getElem?_extract]
      have := h.size
      by_cases hk2 : k < w.heap.size
      · rw [if_pos (by omega)]
        congr 1
        omega
      · rw [if_neg (by omega), Array.getElem?_eq_none (by omega)]
  have h1 := h.os
  have h2 := h.tape
  have h3 := h.output
  have h4 := h.drawn
  have h5 : w.drawn = W.drawn + (w.drawn - W.drawn) := by omega
  generalize w.heap.extract W.heap.size w.heap.size = os' at *
  generalize w.drawn - W.drawn = q at *
  cases w
  simp only at h1 h2 h3 hh h5
  subst h1 h2 h3 hh h5
  rfl
theorem arr1 {vs : Array Value} (h : vs.size = 1) : ∃ a, vs = #[a] := by
  refine ⟨vs[0], Array.ext (by simpa using h) fun k h1 h2 => ?_⟩
  have : k = 0 := by omega
  subst this
  rfl
theorem arr2 {vs : Array Value} (h : vs.size = 2) : ∃ a b, vs = #[a, b] := by
  refine ⟨vs[0], vs[1], Array.ext (by simpa using h) fun k h1 h2 => ?_⟩
  have : k = 0 ∨ k = 1 := by omega
  rcases this with rfl | rfl <;> rfl
open Go.Sort in
theorem c80 (hO : On cx) {h : AH} {id ver imid imver : Nat} {xs : List Nat} {cs0 : List AV} {fv : AV} {fs : List Fn} (hx : h[id]? = some (.cells ver (xs.map fun x => VI (x : Nat)))) (hb : ∀ x ∈ xs, x < fs.length) (hN : 0 < fs.length) (hl : xs.length < 4611686018427387904)
    (him : AH.rd h imid imver = some cs0) (hfv : cs0[1]? = some fv) (hf : SlT Fn.row 4 h fv fs) (hne : imid ≠ id) (hnf : fv.at_ ≠ some id) :
    SimCall cx 80 [.sl id ver 0 xs.length 1, .fn 81 [.ptr imid imver 0]] h fun r h' => ∃ ys : List Nat, ys.Perm xs ∧ r = .tup [] ∧ h' = h.set id (.cells ver (ys.map fun x => VI (x : Nat))) := by
  have hcal : callable cx.P 80 = true := by rw [hO.P]; kernel_rfl
  have hcal81 : callable Tryz.prog 81 = true := by kernel_rfl
  refine ⟨hcal, fun φ w vs hlen hv hW => ?_⟩
  obtain ⟨v0, v1, rfl⟩ := arr2 (vs := vs) (by simpa using hlen.symm)
  have r0 := hv 0 _ v0 rfl rfl
  have r1 := hv 1 _ v1 rfl rfl
  cases r0 with
  | sl _ _ _ _ _ b n cap hφ h1 h2 h3 h4 =>
  cases r1 with
  | fn _ _ vs' hl' hr' =>
  obtain ⟨p, rfl⟩ := arr1 (vs := vs') (by simpa using hl'.symm)
  have rp := hr' 0 _ p rfl rfl
  cases rp with
  | ptr _ _ _ b0 n0 hφ0 =>
  obtain ⟨q1, ccs, T, q2, q3, q4, q5, q6⟩ := hW.obj id _ b n hx hφ
  obtain ⟨ccs0, T0, fz0, w1, w2, w3, w4⟩ := rd_lies him hφ0 hW
  have hb0 := hW.hi _ _ _ _ hφ0
  have hbw := hW.hi _ _ _ _ hφ
  have hbb0 : b0 ≠ b := by
    rintro rfl
    obtain ⟨o, ho, hov⟩ := rd_obj him
    exact hne (hW.inj imid id o _ b0 n0 n ho hx (by rw [hov]; exact hφ0) hφ)
  have h1c : 1 < cs0.length := (List.getElem?_eq_some_iff.1 hfv).1
  have h1l : 1 < ccs0.size := by omega
  obtain ⟨fval, hfval⟩ : ∃ fval, ccs0[1]? = some fval := ⟨_, Array.getElem?_eq_getElem h1l⟩
  obtain ⟨bf, of_, capf, rfl, hcapf, hbf, hinj, hcells⟩ := hf.lies (fun _ => rfl) (by omega) hN (w3 1 fv fval hfv hfval) hW
  have hbfb : bf ≠ b := by
    rintro rfl
    exact hnf (hinj id _ n hx hφ)
  obtain ⟨enc, henc⟩ : ∃ enc : Nat → Value, enc = fun x => .int .i64 ((min x (fs.length - 1) : Nat) : Int) := ⟨_, rfl⟩
  obtain ⟨fa, hfa0⟩ : ∃ fa : Nat → Fn, fa = fun x => (fs[min x (fs.length - 1)]?).getD ⟨⟨#[]⟩, 0, 0, 0⟩ := ⟨_, rfl⟩
  have hfa : ∀ x, fs[min x (fs.length - 1)]? = some (fa x) := by
    intro x
    have : min x (fs.length - 1) < fs.length := by omega
    rw [hfa0]
    simp only [List.getElem?_eq_getElem this, Option.getD_some]
  have henc1 : ∀ x, x < fs.length → enc x = .int .i64 (x : Int) := by
    intro x hx
    rw [henc]
    have : min x (fs.length - 1) = x := by omega
    simp only [this]
  have hone1 : OneCell enc := by rw [henc]; exact fun _ => rfl
  have hget : ∀ (k : Nat) x, xs[k]? = some x → ccs[k]? = some (.int .i64 (x : Int)) := by
    intro k x hk
    have hk' : k < ccs.size := by
      have := (List.getElem?_eq_some_iff.1 hk).1
      simp only [List.length_map] at q4
      omega
    have := q5 k (VI x) ccs[k] (by rw [List.getElem?_map, hk]; rfl) (Array.getElem?_eq_getElem hk')
    rw [Array.getElem?_eq_getElem hk', rep_v this]
  have hH : Holds enc w b 0 xs.toArray := by
    intro j hj
    have hj' : j < xs.length := by simpa using hj
    refine ⟨?_, by simp [World.frozen?, q2]⟩
    have := hget j _ (List.getElem?_eq_getElem hj')
    rw [henc1 _ (by rw [getElem!_pos _ j hj]; exact hb _ (by simp)), getElem!_pos _ j hj]
    simp [World.cell?, q2, this]
  have hcmp : CmpLays1 Tryz.prog 81 #[.pointer (some ⟨b0, 0, none⟩)] enc (fun x y => cmpF (fa x) (fa y)) b 0 xs.toArray.size w := by
    intro m os dk hdk x y
    generalize hWd : sortWorld enc w b 0 m dk os = W
    have hWsz : w.heap.size ≤ W.heap.size := by
      rw [← hWd]; unfold sortWorld
      simp [putRow, mapBlock, Sort.ahead]
    have hWh : ∀ k, k < w.heap.size → k ≠ b → W.heap[k]? = w.heap[k]? := by
      intro k hk hkb
      rw [← hWd]; unfold sortWorld
      rw [heap_grow_old _ _ (by simpa [putRow, mapBlock, Sort.ahead] using hk)]
      simp only [putRow, mapBlock, Array.getElem?_modify]
      rw [if_neg (fun e => hkb e.symm)]
      rfl
    have hWc : ∀ k o, k < w.heap.size → k ≠ b → W.cell? ⟨k, o, none⟩ = w.cell? ⟨k, o, none⟩ := by
      intro k o hk hkb
      simp only [World.cell?, hWh k hk hkb]
    obtain ⟨cxW, hcx⟩ : ∃ cxW : Cx, cxW = ⟨Tryz.prog, W, W.heap.size, fun _ => none, Nat.le_refl _, by intro _ _ _ h; cases h⟩ := ⟨_, rfl⟩
    have hcP : cxW.P = Tryz.prog := by rw [hcx]
    have hcw : cxW.w0 = W := by rw [hcx]
    have hcB : cxW.B = W.heap.size := by rw [hcx]
    obtain ⟨F, hFd⟩ : ∃ F : AV, F = .ro 4 fs.length (fun i => ((fs[i]?).map Fn.row).getD []) := ⟨_, rfl⟩
    have hR : RepW cxW (fun _ _ => none) [] W := ⟨by rw [hcw]; exact Blw.refl _ _, by intro id o b n ho; simp at ho, by intro id id' o o' b n n' ho; simp at ho, by intro id ver r hr; simp at hr, by intro id ver b n hr; simp at hr⟩
    have hF : Rep cxW.w0 cxW.B (fun _ _ => none) F (.slice (some ⟨bf, of_, none⟩) fs.length capf) := by
      rw [hFd, hcw, hcB]
      have hc2 : ∀ i k, i < fs.length → k < 4 → ∃ (x : Fn) (z : Value), fs[i]? = some x ∧ (Fn.row x)[k]? = some (.v z) ∧ W.cell? ⟨bf, of_ + i * 4 + k, none⟩ = some z ∧ z.oneCell' = true := by
        intro i k hi hk
        have hfi := List.getElem?_eq_getElem hi
        obtain ⟨z, hz⟩ : ∃ z, (Fn.row fs[i])[k]? = some (.v z) := by
          match k, hk with
          | 0, _ => exact ⟨_, rfl⟩
          | 1, _ => exact ⟨_, rfl⟩
          | 2, _ => exact ⟨_, rfl⟩
          | 3, _ => exact ⟨_, rfl⟩
        obtain ⟨u, hu, hru, hou⟩ := hcells i k _ _ hfi hz
        have := rep_v hru
        subst this
        exact ⟨_, u, hfi, hz, by rw [hWc _ _ hbf hbfb]; exact hu, hou⟩
      refine .ro 4 fs.length _ _ capf bf of_ (fun i k => (W.cell? ⟨bf, of_ + i * 4 + k, none⟩).getD undef) hcapf (fun _ => ⟨rfl, by omega⟩) ?_ ?_ ?_ ?_
      · intro i hi
        rw [List.getElem?_eq_getElem hi]
        rfl
      · intro i k hi hk
        obtain ⟨x, z, _, _, hz, _⟩ := hc2 i k hi hk
        rw [hz]; rfl
      · intro i k hi hk
        obtain ⟨x, z, _, _, hz, h1⟩ := hc2 i k hi hk
        rw [hz]; exact h1
      · intro i k c hi hc
        have hfi := List.getElem?_eq_getElem hi
        rw [hfi] at hc
        have hk : k < 4 := (List.getElem?_eq_some_iff.1 hc).1
        obtain ⟨x, z, hx, hz, hz2, _⟩ := hc2 i k hi hk
        rw [hfi] at hx
        cases hx
        simp only [Option.map_some, Option.getD_some] at hc
        rw [hz] at hc
        cases hc
        rw [hz2]
        exact .v _
    have hC : Rep cxW.w0 cxW.B (fun _ _ => none) (.rp [.un, F]) (.pointer (some ⟨b0, 0, none⟩)) := by
      have hc2 : ∀ k, W.cell? ⟨b0, 0 + k, none⟩ = ccs0[k]? := by
        intro k
        rw [hWc _ _ hb0.2 hbb0]
        simp [World.cell?, w1]
      rw [hcw, hcB]
      rw [hcw, hcB] at hF
      refine .rp _ b0 0 (fun k => (W.cell? ⟨b0, 0 + k, none⟩).getD undef) (by omega) ?_ ?_ ?_
      · intro k hk
        simp only [List.length_cons, List.length_nil] at hk
        rw [hc2, Array.getElem?_eq_getElem (by omega)]
        rfl
      · intro k hk
        simp only [List.length_cons, List.length_nil] at hk
        have hk2 : k < ccs0.size := by omega
        simp only [hc2, Array.getElem?_eq_getElem hk2, Option.getD_some]
        exact w4 k _ (by omega) (Array.getElem?_eq_getElem hk2)
      · intro k c hc
        match k with
        | 0 => simp at hc; subst hc; exact .un _
        | 1 =>
          simp at hc; subst hc
          simp only [hc2, hfval, Option.getD_some]
          exact hF
        | k + 2 => simp at hc
    have hcall := (c81 (cx := cxW) hcP (fs := fs) (fn := fun i => ((fs[i]?).map Fn.row).getD []) (fun i x hx => by simp only [hx, Option.map_some, Option.getD_some]) (hfa x) (hfa y)).2 (fun _ _ => none) W (#[enc x, enc y] ++ #[.pointer (some ⟨b0, 0, none⟩)]) (by simp) (by
      intro k a v ha hv
      match k with
      | 0 => simp at ha hv; subst ha; subst hv; rw [henc]; exact .v _
      | 1 => simp at ha hv; subst ha; subst hv; rw [henc]; exact .v _
      | 2 => simp at ha hv; subst ha; subst hv; rw [← hFd]; exact hC
      | k + 3 => simp at ha) hR
    rw [hcP] at hcall
    refine hcall.mono ?_
    rintro e w2 ⟨v, r, h', φ', rfl, hr1, hr2, hr3, rfl, rfl⟩
    have := rep_v hr1
    subst this
    have hbl := hr2.below
    rw [hcw, hcB] at hbl
    exact ⟨rfl, _, _, world_of_blw hbl⟩
  have hcon := Any.slices_SortFunc lays80 enc hone1 (fun x y => cmpF (fa x) (fa y)) (swoF fa) 81 #[.pointer (some ⟨b0, 0, none⟩)] b 0 cap xs.toArray w (fun args w => callFunc_run hcal81 args w) hcmp hH hbw.2 (by simpa using hl)
  change Calls Tryz.prog 80 _ _ _ at hcon
  rw [hO.P]
  refine hcon.mono ?_
  rintro e w' ⟨rfl, d', n', os, hperm, _, rfl⟩
  obtain ⟨hp1, _, hp3⟩ := hperm
  have hp4 : d'.toList.Perm xs := by
    have e1 : d'.extract 0 xs.toArray.size = d' := by rw [← hp1]; exact Array.extract_size
    have e2 : xs.toArray.extract 0 xs.toArray.size = xs.toArray := Array.extract_size
    rw [e1, e2] at hp3
    simpa using hp3
  have hsz : d'.size = xs.length := by simpa using hp1
  have hput : Puts w b (.cells (putCells enc 0 d' ccs) T (0, 0)) (putRow enc (Sort.ahead w n') b 0 d') := by
    refine ⟨by simp [putRow, mapBlock, Sort.ahead], ?_, ?_, rfl, rfl, rfl, Nat.le_add_right _ _⟩
    · simp [putRow, mapBlock, Sort.ahead, Array.getElem?_modify, q2, onCells]
    · intro k hk
      simp only [putRow, mapBlock, Array.getElem?_modify]
      rw [if_neg (fun e => hk e.symm)]
      rfl
  obtain ⟨g1, g2⟩ := hW.put (n := n) hx (o' := .cells ver (d'.toList.map fun x => VI (x : Nat))) rfl hφ hput (by
    simp only [List.length_map] at q1 q4 q6
    refine ⟨by rw [q1]; simp [hsz], _, T, hput.at_, by simpa [putCells] using q3, by simpa [hsz] using q4, ?_, ?_⟩
    · intro k a v ha hv
      rw [List.getElem?_map, Option.map_eq_some_iff] at ha
      obtain ⟨y, hy, rfl⟩ := ha
      have hk : k < d'.size := by
        have := (List.getElem?_eq_some_iff.1 hy).1
        simpa using this
      have hyN : y < fs.length := hb y (hp4.mem_iff.1 (List.mem_of_getElem? hy))
      simp only [putCells, Array.getElem?_mapIdx] at hv
      rw [Array.getElem?_eq_getElem (by omega)] at hv
      simp only [Option.map_some, Option.some.injEq] at hv
      rw [if_pos ⟨Nat.zero_le _, by omega⟩, Nat.sub_zero, getElem!_pos _ k hk] at hv
      have : d'[k] = y := by
        rw [Array.getElem?_toList, Array.getElem?_eq_getElem hk] at hy
        simpa using hy
      rw [this, henc1 y hyN] at hv
      subst hv
      exact .v _
    · intro k v hk hv
      have hk : k < d'.size := by simpa using hk
      simp only [putCells, Array.getElem?_mapIdx] at hv
      rw [Array.getElem?_eq_getElem (by omega)] at hv
      simp only [Option.map_some, Option.some.injEq] at hv
      rw [if_pos ⟨Nat.zero_le _, by omega⟩, henc] at hv
      subst hv
      rfl)
  obtain ⟨k1, k2⟩ := RepW.more g1 os
  exact ⟨.tuple #[], .tup [], _, φ, rfl, .tup _ _ rfl (fun k x v hx => by simp at hx), k1, g2.trans k2, d'.toList, hp4, rfl, rfl⟩
end Go.Tidy
namespace Go.Tidy
open Go Go.Eng Go.Proofs
variable {cx : Cx}
theorem funcsB_mem (n : Int) : ∀ (fs : List Fn) (at_ : Int), 0 ≤ at_ → funcsB n at_ fs = true → ∀ f ∈ fs, 0 ≤ f.first ∧ 1 ≤ f.count ∧ f.first + f.count ≤ n
  | [], _, _, _, f, hf => by simp at hf
  | f :: r, at_, h0, h, g, hg => by
    simp only [funcsB, Bool.and_eq_true, decide_eq_true_eq] at h
    obtain ⟨⟨⟨h1, h2⟩, h3⟩, h4⟩ := h
    rcases List.mem_cons.1 hg with rfl | hg
    · omega
    · exact funcsB_mem n r _ (by omega) h4 g hg
theorem far_held {i : Ins} (h : heldB i = true) : -9000000000000000000 ≤ i.far ∧ i.far ≤ 9000000000000000000 := by
  unfold heldB at h
  unfold Ins.far
  simp only [Bool.and_eq_true, Bool.or_eq_true, decide_eq_true_eq] at h
  split <;> omega
theorem body_len {text : List Ins} {f : Fn} (h0 : 0 ≤ f.first) (h1 : 1 ≤ f.count) (h2 : f.first + f.count ≤ text.length) : ((body text f).length : Int) = f.count := by
  unfold body
  rw [List.length_take, List.length_drop]
  omega
theorem SlT.at_lt {α : Type} {f : α → List AV} {sz : Nat} {h : AH} {v : AV} {xs : List α} (s : SlT f sz h v xs) {id : Nat} (hid : v.at_ = some id) : id < h.length := by
  cases s with
  | sl id' ver off cs xs hrd hc =>
    cases hid
    have := hrd []
    rw [List.append_nil] at this
    exact rd_lt this
  | ro fn xs hr => cases hid
theorem dK_app {g : FuncId} {args : List AV} {h : AH} {Kd : AV → AH → Prop} (r : AV) (g' : AH) (hc : SimCall cx g args h fun r2 h2 => r2 = r ∧ h2 = h ++ g') (hk : Kd r g') : dK cx g args h Kd := ⟨r, g', hc, hk⟩
set_option maxRecDepth 100000 in
set_option maxHeartbeats 2000000 in
theorem c34 (hO : On cx) {h : AH} {im : Img} {tv fv bv : AV} (hr : ImgR h tv fv bv im) :
    SimCall cx 34 [.agg [tv, fv, bv, VI im.entry]] h fun r h' => h' = h ∧ ∃ i at_ e : Int, r = .tup [VI i, VI at_, VI e] ∧ (e = 0 ↔ VOk (tabsB 0) im) := by
  have c1 := hr.text.cell
  have c2 := hr.funcs.cell
  have c3 := hr.tables.cell
  have hnf := hr.nf
  have h00 : (0 : Int) ≤ im.funcs.length := by omega
  have h8 : (im.funcs.length : Int) * ((8 : Nat) : Int) ≤ 281474976710656 := by omega
  have hbig : (im.funcs.length : Int) < 9223372036854775808 := by omega
  have hfl : ∀ n : Nat, (List.replicate n [VI 0]).flatten = (List.replicate n 0).map fun x : Nat => VI (x : Nat) := by
    intro n
    induction n with
    | zero => rfl
    | succ n ih => rw [List.replicate_succ, List.flatten_cons, ih]; rfl
  refine SimCall.gc ?_
  refine SimCall.by hO.P res34 ?_
  unfold x34 r34
  repeat' first
    | simp (maxSteps := 1000000) only [go_sem, c1, c2, c3]
  refine (c79 hO im tv fv bv _ (hr.more _)).mono ?_
  rintro r h' ⟨rfl, x0, e0, rfl, he0⟩
  repeat' first
    | ((with_reducible show wx _ (XCode.cond _ _ _) _ _); refine wx_if rfl (fun _ => ?_) (fun _ => ?_))
    | simp (maxSteps := 1000000) only [go_sem, c1, c2, c3, hr.funcs.len, h00, h8, hbig, Int.le_refl, Int.toNat_natCast, hfl]
  · rename_i e
    refine ⟨more_one, plain_tup (by simp [Plain.v]), _, _, _, rfl, ?_⟩
    simp at e
    constructor
    · intro h; omega
    · intro hv
      exact absurd (he0.2 (imgB_ok.2 hv.img)) e
  rename_i e
  have hok : ImgOk (tabsB 0) im := imgB_ok.1 (he0.1 (by simpa using e))
  have hfs := funcsB_mem _ _ 0 (by omega) hok.funcs
  have hNN : 0 < im.funcs.length := by have := hok.entry; omega
  have hbody : ∀ (y : Nat) f, im.funcs[y]? = some f → 0 < (body im.text f).length := by
    intro y f hf
    obtain ⟨q1, q2, q3⟩ := hfs f (List.mem_of_getElem? hf)
    have := body_len q1 q2 q3
    omega
  refine SimLoop.inv [1, 5, 21, 0] (fun k s => ∃ (i : Nat) (xs : List Nat), k = im.funcs.length - i ∧ i ≤ im.funcs.length ∧ xs = List.range i ++ List.replicate (im.funcs.length - i) 0 ∧
    s = ⟨[.un, .ptr h.length 0 0, .un, .un, .un, .un, .un, .sl (h.length + 1) 0 0 im.funcs.length 1, .un, .un, .un, .un, .un, .un, .un, .un, .un, .un, .un, .un, .un, .un, .un, .un, .un, .un, .un, .un, .un, VI im.funcs.length, VI i, .un, .un, .un, .un, .un, .un, .un, .un, .un, .un, .un, .un, .un, .un, .un, .un, .un, .un, .un, .un, .un, .un, .un, .un, .un, .un, .un, .un, .un, .un, .un, .un, .un, .un, .un, .un, .un, .un, .un, .un, .un, .un, .un, .un, .un, .un, .un, .un, .un, .un, .un], h ++ [.cells 0 [tv, fv, bv, VI im.entry], .cells 0 (xs.map fun x : Nat => VI (x : Nat))]⟩) ?_ im.funcs.length ?_
  rotate_left
  · exact ⟨0, List.replicate im.funcs.length 0, rfl, Nat.zero_le _, rfl, by simp only [go_sem]; rfl⟩
  rintro k s ⟨i, xs, rfl, hi, hxs, rfl⟩
  have hxl : xs.length = im.funcs.length := by rw [hxs]; simp; omega
  by_cases hlt : i < im.funcs.length
  · have hlt' : ((i : Int) < im.funcs.length) := by omega
    have hw := wrap_succ hlt (by omega)
    have hil : i + 1 ≤ (xs.map fun x : Nat => VI (x : Nat)).length := by rw [List.length_map]; omega
    have h0i : (0 : Int) ≤ i := by omega
    have hss : (xs.map fun x : Nat => VI (x : Nat)).take i ++ VI i :: (xs.map fun x : Nat => VI (x : Nat)).drop (i + 1) = (xs.set i i).map fun x : Nat => VI (x : Nat) := by
      rw [set_mid _ (by omega), List.map_set]
    repeat' first
      | simp (maxSteps := 1000000) only [go_sem, hlt', hw, h0i, hil, hss, Int.toNat_natCast, Nat.mul_one, Nat.zero_add]
    refine ⟨im.funcs.length - (i + 1), by omega, i + 1, _, rfl, by omega, ?_, rfl⟩
    rw [hxs, List.range_succ, List.append_assoc]
    refine List.ext_getElem? fun k => ?_
    by_cases hk : k = i
    · subst hk
      rw [List.getElem?_set_self (by simp; omega), List.getElem?_append_right (by simp)]
      simp
    · rw [List.getElem?_set_ne (fun e => hk e.symm)]
      by_cases hk2 : k < i
      · rw [List.getElem?_append_left (by simpa using hk2), List.getElem?_append_left (by simpa using hk2)]
      · rw [List.getElem?_append_right (by simp; omega), List.getElem?_append_right (by simp; omega), List.getElem?_append_right (by simp; omega)]
        simp only [List.length_range, List.length_singleton, List.getElem?_replicate]
        by_cases hk3 : k < im.funcs.length
        · rw [if_pos (by omega), if_pos (by omega)]
        · rw [if_neg (by omega), if_neg (by omega)]
  have hlt' : ¬ ((i : Int) < im.funcs.length) := by omega
  have hxr : xs = List.range im.funcs.length := by
    rw [hxs, show i = im.funcs.length by omega]
    simp
  subst hxr
  have h80 := c80 hO (h := h ++ [.cells 0 [tv, fv, bv, VI im.entry], .cells 0 ((List.range im.funcs.length).map fun x : Nat => VI (x : Nat))]) (id := h.length + 1) (ver := 0) (imid := h.length) (imver := 0) (xs := List.range im.funcs.length) (fs := im.funcs) (fv := fv)
    (cs0 := [tv, fv, bv, VI im.entry]) (by simp) (by simp) hNN (by simp; omega) (by simp only [go_sem]) rfl (hr.funcs.more _) (by omega) (by
      intro hc
      have := hr.funcs.at_lt hc
      omega)
  rw [List.length_range] at h80
  repeat' first
    | simp (maxSteps := 1000000) only [go_sem, hlt']
  refine h80.mono ?_
  rintro r h' ⟨ys, hperm, rfl, rfl⟩
  have hset : (h ++ [AO.cells 0 [tv, fv, bv, VI im.entry], AO.cells 0 ((List.range im.funcs.length).map fun x : Nat => VI (x : Nat))]).set (h.length + 1) (.cells 0 (ys.map fun x : Nat => VI (x : Nat))) =
      h ++ [AO.cells 0 [tv, fv, bv, VI im.entry], AO.cells 0 (ys.map fun x : Nat => VI (x : Nat))] := by
    simp [List.set_append]
  rw [hset]
  have hyl : ys.length = im.funcs.length := by rw [hperm.length_eq, List.length_range]
  have hyn : ∀ (j : Nat) y, ys[j]? = some y → y < im.funcs.length := by
    intro j y hy
    have := hperm.mem_iff.1 (List.mem_of_getElem? hy)
    simpa using this
  have hcov : ∀ y, y < im.funcs.length → ∃ j, j < im.funcs.length ∧ ys[j]? = some y := by
    intro y hy
    obtain ⟨j, hj⟩ := List.mem_iff_getElem?.1 (hperm.mem_iff.2 (List.mem_range.2 hy))
    exact ⟨j, by rw [← hyl]; exact (List.getElem?_eq_some_iff.1 hj).1, hj⟩
  clear h80 hset
  repeat' first
    | ((with_reducible show SimCall _ 85 _ _ _); refine (c85 hO _).mono ?_; rintro r h' ⟨rfl, rfl⟩)
    | simp (maxSteps := 1000000) only [go_sem, c1, c2, c3]
  have hp : ∀ g : AH, h ++ AO.cells 0 [tv, fv, bv, VI im.entry] :: AO.cells 0 (ys.map fun x : Nat => VI (x : Nat)) :: AO.cells 0 rulesC :: g = h ++ (AO.cells 0 [tv, fv, bv, VI im.entry] :: AO.cells 0 (ys.map fun x : Nat => VI (x : Nat)) :: AO.cells 0 rulesC :: g) := fun _ => rfl
  refine SimLoop.inv [1, 5, 1, 32, 0, 0] (fun k s => ∃ (i : Nat) (G : AH), k = im.funcs.length - i ∧ i ≤ im.funcs.length ∧ (∀ (j : Nat) y f, j < i → ys[j]? = some y → im.funcs[y]? = some f → BodyOk im.funcs.length im.tables.length (body im.text f)) ∧
    s = ⟨[.un, .ptr h.length 0 0, .un, .un, .un, .un, .un, .sl (h.length + 1) 0 0 im.funcs.length 1, .un, .sl (h.length + 2) 0 0 7 2, .un, .un, .un, .un, .un, .un, .un, .un, .un, .un, .un, .un, .un, .un, .un, .un, .un, .un, .un, .un, .un, .un, .un, .un, .un, .un, .un, .un, .un, .un, .un, .un, .sl (h.length + 1) 0 0 im.funcs.length 1, VI im.funcs.length, VI i, .un, .un, .un, .un, .un, .un, .un, .un, .un, .un, .un, .un, .un, .un, .un, .un, .un, .un, .un, .un, .un, .un, .un, .un, .un, .un, .un, .un, .un, .un, .un, .un, .un, .un, .un, .un, .un], h ++ (.cells 0 [tv, fv, bv, VI im.entry] :: .cells 0 (ys.map fun x : Nat => VI (x : Nat)) :: .cells 0 rulesC :: G)⟩) ?_ im.funcs.length ?_
  rotate_left
  · exact ⟨0, [], rfl, Nat.zero_le _, fun j y f hj => absurd hj (by omega), by simp only [go_sem]; rfl⟩
  clear i hi hlt hlt' hxs hxl
  rintro k s ⟨i, G, rfl, hi, hgood, rfl⟩
  by_cases hlt : i < im.funcs.length
  · obtain ⟨y, hy⟩ : ∃ y, ys[i]? = some y := ⟨_, List.getElem?_eq_getElem (by omega)⟩
    have hyb := hyn i y hy
    have hym : (ys.map fun x : Nat => VI (x : Nat))[i]? = some (VI y) := by rw [List.getElem?_map, hy]; rfl
    have hlt' : ((i : Int) < im.funcs.length) := by omega
    have hw := wrap_succ hlt (by omega)
    have h0i : (0 : Int) ≤ i := by omega
    obtain ⟨q, hq1, hq2, hq3, _⟩ := hr.funcs.get Fn.len (by decide) (List.getElem?_eq_getElem hyb)
    have hfi := List.getElem?_eq_getElem hyb
    obtain ⟨e1, e2, e3⟩ := hfs _ (List.getElem_mem hyb)
    generalize im.funcs[y] = f at hq1 hq2 hq3 hfi e1 e2 e3
    obtain ⟨bodyv, hs1, hs2⟩ := hr.text.sls (a := f.first) (b := f.first + f.count) Ins.len e1 (by omega) e3
    have hbe : (im.text.drop f.first.toNat).take ((f.first + f.count).toNat - f.first.toNat) = body im.text f := by
      unfold body
      congr 1
      omega
    rw [hbe] at hs2
    have hbl : (body im.text f).length ≤ im.text.length := by unfold body; simp; omega
    have hne := hbody y f hfi
    have hhd : ∀ x ∈ body im.text f, heldB x = true := by
      intro x hx
      unfold body at hx
      exact hok.held x (List.mem_of_mem_drop (List.mem_of_mem_take hx))
    generalize hbd : body im.text f = is at hs2 hbl hne hhd
    have hr2 := hr.more (.cells 0 [tv, fv, bv, VI im.entry] :: .cells 0 (ys.map fun x : Nat => VI (x : Nat)) :: .cells 0 rulesC :: G)
    have hs22 := hs2.more (.cells 0 [tv, fv, bv, VI im.entry] :: .cells 0 (ys.map fun x : Nat => VI (x : Nat)) :: .cells 0 rulesC :: G)
    have h86 := c86 hO hr2 f e1 e2 e3 hs1 hs22 hbl
    have hlk := look_ok hr2 f hs22 hbl hne
    generalize hLH : lookH (h ++ (.cells 0 [tv, fv, bv, VI im.entry] :: .cells 0 (ys.map fun x : Nat => VI (x : Nat)) :: .cells 0 rulesC :: G)) im f tv fv bv bodyv is = LH at h86 hlk
    have h87 := c87 hO (rid := h.length + 2) hlk (by simp only [go_sem]) (by intro g; simp only [go_sem]) (fun x hx => far_held (hhd x hx))
    simp (maxSteps := 1000000) only [go_sem] at h87
    repeat' first
      | simp (maxSteps := 1000000) only [go_sem, hlt', hw, h0i, hym, hq1, hq2, hq3, Fn.row, c1, c2, c3, Int.toNat_natCast, Nat.mul_one, Nat.zero_add]
    refine dK_app _ _ h86 ?_
    repeat' first
      | ((with_reducible show wx _ (XCode.cond _ _ _) _ _); refine wx_if rfl (fun _ => ?_) (fun _ => ?_))
      | ((with_reducible show dK _ 87 _ _ _); refine dK_of _ (h87) ?_)
      | simp (maxSteps := 1000000) only [go_sem, hw]
    · rename_i e
      refine ⟨more_one, plain_tup (by simp [Plain.v]), _, _, _, rfl, ?_⟩
      simp at e
      constructor
      · intro h; exact absurd h e
      · intro hv
        have := hv.bodies f (List.mem_of_getElem? hfi)
        rw [hbd] at this
        exact absurd ((brkL_zero 0 is).2 (fun j x hx => by rw [Nat.zero_add]; exact (bodyOk_iff hne).1 this j x hx)) e
    · rename_i e
      refine ⟨im.funcs.length - (i + 1), by omega, i + 1, _, rfl, by omega, ?_, rfl⟩
      intro j y' f' hj hy' hf'
      by_cases hji : j = i
      · subst hji
        rw [hy] at hy'
        cases hy'
        rw [hfi] at hf'
        cases hf'
        rw [hbd]
        refine (bodyOk_iff hne).2 fun k x hx => ?_
        have := (brkL_zero 0 is).1 (by simpa using e) k x hx
        rwa [Nat.zero_add] at this
      · exact hgood j y' f' (by omega) hy' hf'
  have hlt' : ¬ ((i : Int) < im.funcs.length) := by omega
  have hbods : ∀ f ∈ im.funcs, BodyOk im.funcs.length im.tables.length (body im.text f) := by
    intro f hf
    obtain ⟨y, hy⟩ := List.mem_iff_getElem?.1 hf
    obtain ⟨j, hj, hyj⟩ := hcov y (List.getElem?_eq_some_iff.1 hy).1
    exact hgood j y f (by omega) hyj hy
  repeat' first
    | simp (maxSteps := 1000000) only [go_sem, hlt', c1, c2, c3]
  refine (c89 hO (hr.more _) hfs).mono ?_
  rintro r h' ⟨g9, rfl, hs9⟩
  repeat' first
    | simp (maxSteps := 1000000) only [go_sem]
  have h88 := c88 hO hs9 (by rw [List.length_map]; exact hnf) (by
    intro xs hxs c hc
    obtain ⟨f, hf, rfl⟩ := List.mem_map.1 hxs
    unfold callsOf at hc
    obtain ⟨x, hx, rfl⟩ := List.mem_map.1 hc
    obtain ⟨hx, h3⟩ := List.mem_filter.1 hx
    rw [List.length_map]
    exact ((hbods f hf).rule x hx).call (of_decide_eq_true h3)) (by
    intro xs hxs
    obtain ⟨f, hf, rfl⟩ := List.mem_map.1 hxs
    unfold callsOf
    rw [List.length_map]
    refine Nat.lt_of_le_of_lt (List.length_filter_le _ _) (Nat.lt_of_le_of_lt ?_ hr.len)
    unfold body
    simp
    omega)
  simp (maxSteps := 1000000) only [go_sem] at h88
  refine h88.mono ?_
  rintro r h' ⟨g8, D, rfl, hDl, hsD, hrank⟩
  rw [List.length_map] at hDl
  repeat' first
    | simp (maxSteps := 1000000) only [go_sem]
  generalize hGG : G ++ (g9 ++ g8) = GG at *
  refine SimLoop.inv [14, 54, 0, 0] (fun k s => ∃ (i : Nat), k = im.funcs.length - i ∧ i ≤ im.funcs.length ∧ (∀ (j : Nat) y d, j < i → ys[j]? = some y → D[y]? = some d → d ≤ 8) ∧
    s = ⟨[.un, .un, .un, .un, .un, .un, .un, .un, .un, .un, .un, .un, .un, .un, r, .un, .un, .un, .un, .un, .un, .un, .un, .un, .un, .un, .un, .un, .un, .un, .un, .un, .un, .un, .un, .un, .un, .un, .un, .un, .un, .un, .un, .un, .un, .un, .un, .un, .un, .un, .un, .un, .un, .un, .un, .un, .un, .un, .un, .un, .un, .un, .un, .un, .un, .un, .un, .un, .un, .sl (h.length + 1) 0 0 im.funcs.length 1, VI im.funcs.length, VI i, .un, .un, .un, .un, .un, .un, .un, .un, .un, .un], h ++ (.cells 0 [tv, fv, bv, VI im.entry] :: .cells 0 (ys.map fun x : Nat => VI (x : Nat)) :: .cells 0 rulesC :: GG)⟩) ?_ im.funcs.length ?_
  rotate_left
  · exact ⟨0, rfl, Nat.zero_le _, fun j y f hj => absurd hj (by omega), by simp only [go_sem]; rfl⟩
  rintro k s ⟨i, rfl, hi, hdeep, rfl⟩
  by_cases hlt : i < im.funcs.length
  · obtain ⟨y, hy⟩ : ∃ y, ys[i]? = some y := ⟨_, List.getElem?_eq_getElem (by omega)⟩
    have hyb := hyn i y hy
    have hym : (ys.map fun x : Nat => VI (x : Nat))[i]? = some (VI y) := by rw [List.getElem?_map, hy]; rfl
    have hlt' : ((i : Int) < im.funcs.length) := by omega
    have hw := wrap_succ hlt (by omega)
    have h0i : (0 : Int) ≤ i := by omega
    have hDy := List.getElem?_eq_getElem (show y < D.length by omega)
    generalize D[y] = d at hDy
    obtain ⟨q, hq1, hq2⟩ := hsD.toI.2 y d hDy
    repeat' first
      | ((with_reducible show wx _ (XCode.cond _ _ _) _ _); refine wx_if rfl (fun _ => ?_) (fun _ => ?_))
      | simp (maxSteps := 1000000) only [go_sem, hlt', hw, h0i, hym, hq1, hq2, Int.toNat_natCast, Nat.mul_one, Nat.zero_add]
    · rename_i e
      refine ⟨more_one, plain_tup (by simp [Plain.v]), _, _, _, rfl, ?_⟩
      simp at e
      constructor
      · intro h; exact absurd h (by decide)
      · intro hv
        have := hrank.2 hv.rank d (List.mem_of_getElem? hDy)
        omega
    · rename_i e
      simp at e
      refine ⟨im.funcs.length - (i + 1), by omega, i + 1, rfl, by omega, ?_, rfl⟩
      intro j y' d' hj hy' hd'
      by_cases hji : j = i
      · subst hji
        rw [hy] at hy'
        cases hy'
        rw [hDy] at hd'
        cases hd'
        omega
      · exact hdeep j y' d' (by omega) hy' hd'
  · have hlt' : ¬ ((i : Int) < im.funcs.length) := by omega
    repeat' first
      | simp (maxSteps := 1000000) only [go_sem, hlt']
    refine ⟨more_one, plain_tup (by simp [Plain.v]), _, _, _, rfl, ?_⟩
    refine ⟨fun _ => ⟨hok, hbods, hrank.1 ?_⟩, fun _ => rfl⟩
    intro d hd
    obtain ⟨y, hy⟩ := List.mem_iff_getElem?.1 hd
    obtain ⟨j, hj, hyj⟩ := hcov y (by rw [← hDl]; exact (List.getElem?_eq_some_iff.1 hy).1)
    exact hdeep j y d (by omega) hyj hy
end Go.Tidy
namespace Go.Tidy
open Go Go.Eng Go.Proofs
variable {cx : Cx}
def cpV (n : Nat) : Nat := if n = 0 then 0 else 1
structure Rows {α : Type} (f : α → List AV) (sz : Nat) (h : AH) (v : AV) (xs : List α) : Prop where
  sl : SlT f sz h v xs
  rows : ∀ g, xRows (h ++ g) sz v = some (xs.length, xs.flatMap f)
theorem Rows.more {α : Type} {f : α → List AV} {sz : Nat} {h : AH} {v : AV} {xs : List α} (r : Rows f sz h v xs) (g : AH) : Rows f sz (h ++ g) v xs :=
  ⟨r.sl.more g, fun g' => by rw [List.append_assoc]; exact r.rows _⟩
theorem Rows.whole {α : Type} {f : α → List AV} {sz : Nat} {h : AH} {xs : List α} {id ver : Nat} (hf : ∀ x, (f x).length = sz) (hrd : ∀ g, AH.rd (h ++ g) id ver = some (xs.flatMap f)) : Rows f sz h (.sl id ver 0 xs.length sz) xs := by
  refine ⟨SlT.whole hrd hf rfl, fun g => ?_⟩
  have hl := cells_len hf xs
  simp only [xRows, if_true, hrd g, Option.bind_some, Nat.zero_add, List.drop_zero]
  rw [if_pos (by omega), List.take_of_length_le (by omega)]
theorem Rows.ro {α : Type} {f : α → List AV} {sz : Nat} {h : AH} {xs : List α} {fn : Nat → List AV} (hr : ∀ (i : Nat) x, xs[i]? = some x → fn i = f x) : Rows f sz h (.ro sz xs.length fn) xs := by
  refine ⟨.ro fn xs hr, fun g => ?_⟩
  simp only [xRows, if_true, Option.some.injEq, Prod.mk.injEq, true_and]
  clear g
  induction xs generalizing fn with
  | nil => rfl
  | cons x r ih =>
    rw [List.length_cons, List.range_succ_eq_map, List.flatMap_cons, List.flatMap_cons, hr 0 x rfl, List.flatMap_map]
    congr 1
    exact ih (fn := fun i => fn (i + 1)) (fun i y hy => hr (i + 1) y hy)
theorem Rows.nil {α : Type} {f : α → List AV} {sz : Nat} {h : AH} (hz : 0 < sz) : xRows h sz (.v (.slice none 0 0)) = some (0, ([] : List α).flatMap f) := rfl
set_option maxRecDepth 100000 in
theorem c38 (hO : On cx) {h : AH} {v : AV} {xs : List Ins} (hv : ∀ g, xRows (h ++ g) 5 v = some (xs.length, xs.flatMap Ins.row)) (hl : xs.length < 1099511627776) :
    SimCall cx 38 [v] h fun r h' => r = .sl h.length (cpV xs.length) 0 xs.length 5 ∧ h' = h ++ [.cells (cpV xs.length) (xs.flatMap Ins.row)] := by
  refine SimCall.by hO.P res38 ?_
  unfold x38 r38
  by_cases h0 : xs = []
  · subst h0
    repeat' first
      | simp (maxSteps := 1000000) only [go_sem, hv, List.length_nil, List.flatMap_nil]
    exact ⟨rfl, rfl⟩
  · have h1 : ¬ xs.length = 0 := fun e => h0 (List.eq_nil_of_length_eq_zero e)
    have h2 : ¬ xs.length * 5 ≤ 0 := by omega
    have h3 : xs.length * 40 ≤ 140737488355328 := by omega
    have h4 : cpV xs.length = 1 := if_neg h1
    repeat' first
      | simp (maxSteps := 1000000) only [go_sem, hv, h1, h2, h3, h4]
set_option maxRecDepth 100000 in
theorem c75 (hO : On cx) {h : AH} {v : AV} {xs : List Fn} (hv : ∀ g, xRows (h ++ g) 4 v = some (xs.length, xs.flatMap Fn.row)) (hl : xs.length < 1099511627776) :
    SimCall cx 75 [v] h fun r h' => r = .sl h.length (cpV xs.length) 0 xs.length 4 ∧ h' = h ++ [.cells (cpV xs.length) (xs.flatMap Fn.row)] := by
  refine SimCall.by hO.P res75 ?_
  unfold x75 r75
  by_cases h0 : xs = []
  · subst h0
    repeat' first
      | simp (maxSteps := 1000000) only [go_sem, hv, List.length_nil, List.flatMap_nil]
    exact ⟨rfl, rfl⟩
  · have h1 : ¬ xs.length = 0 := fun e => h0 (List.eq_nil_of_length_eq_zero e)
    have h2 : ¬ xs.length * 4 ≤ 0 := by omega
    have h3 : xs.length * 40 ≤ 140737488355328 := by omega
    have h4 : cpV xs.length = 1 := if_neg h1
    repeat' first
      | simp (maxSteps := 1000000) only [go_sem, hv, h1, h2, h3, h4]
set_option maxRecDepth 100000 in
theorem c40 (hO : On cx) {h : AH} {v : AV} {xs : List Tab} (hv : ∀ g, xRows (h ++ g) 5 v = some (xs.length, xs.flatMap Tab.row)) (hl : xs.length < 1099511627776) :
    SimCall cx 40 [v] h fun r h' => r = .sl h.length (cpV xs.length) 0 xs.length 5 ∧ h' = h ++ [.cells (cpV xs.length) (xs.flatMap Tab.row)] := by
  refine SimCall.by hO.P res40 ?_
  unfold x40 r40
  by_cases h0 : xs = []
  · subst h0
    repeat' first
      | simp (maxSteps := 1000000) only [go_sem, hv, List.length_nil, List.flatMap_nil]
    exact ⟨rfl, rfl⟩
  · have h1 : ¬ xs.length = 0 := fun e => h0 (List.eq_nil_of_length_eq_zero e)
    have h2 : ¬ xs.length * 5 ≤ 0 := by omega
    have h3 : xs.length * 48 ≤ 140737488355328 := by omega
    have h4 : cpV xs.length = 1 := if_neg h1
    repeat' first
      | simp (maxSteps := 1000000) only [go_sem, hv, h1, h2, h3, h4]
set_option maxRecDepth 100000 in
theorem c69 (hO : On cx) {h : AH} {id ver : Nat} {xs : List Tab} (hv : ∀ g, xRows (h ++ g) 5 (.sl id ver 0 xs.length 5) = some (xs.length, xs.flatMap Tab.row)) (hl : xs.length < 1099511627776) :
    SimCall cx 69 [.sl id ver 0 xs.length 5] h fun r h' => r = .sl h.length (cpV xs.length) 0 xs.length 5 ∧ h' = h ++ [.cells (cpV xs.length) (xs.flatMap Tab.row)] := by
  refine SimCall.by hO.P res69 ?_
  unfold x69 r69
  by_cases h0 : xs = []
  · subst h0
    simp only [List.length_nil, List.flatMap_nil] at hv
    repeat' first
      | simp (maxSteps := 1000000) only [go_sem, hv, List.length_nil, List.flatMap_nil]
    exact ⟨rfl, rfl⟩
  · have h1 : ¬ xs.length = 0 := fun e => h0 (List.eq_nil_of_length_eq_zero e)
    have h2 : ¬ xs.length * 5 ≤ 0 := by omega
    have h3 : xs.length * 48 ≤ 140737488355328 := by omega
    have h4 : cpV xs.length = 1 := if_neg h1
    repeat' first
      | simp (maxSteps := 1000000) only [go_sem, hv, h1, h2, h3, h4]
theorem c16 (hO : On cx) (n : Int) (h : AH) : SimCall cx 16 [VI n] h fun r h' => h' = h ∧ r = VI n := by
  refine SimCall.gc ?_
  refine SimCall.by hO.P res16 ?_
  unfold x16 r16
  repeat' first
    | simp (maxSteps := 1000000) only [go_sem]
  all_goals first | exact ⟨more_one, plain_v _⟩ | exact ⟨more_nil, plain_v _⟩ | refine ⟨by first | exact more_one | exact more_nil, by first | exact plain_v _ | exact plain_tup (by simp [Plain.v]), ?_⟩
  all_goals try simp only [decide_eq_true_eq, decide_eq_false_iff_not, Bool.not_eq_true', Bool.not_eq_false', AV.v.injEq, AV.tup.injEq, List.cons.injEq, Value.int.injEq, Value.bool.injEq, true_and, and_true] at *
  all_goals (try simp only [band] at *)
  all_goals (try simp_all)
  all_goals grind
set_option maxRecDepth 100000 in
theorem c28 (hO : On cx) {h : AH} {tv fv bv : AV} {im : Img} (ht : Rows Ins.row 5 h tv im.text) (hf : Rows Fn.row 4 h fv im.funcs) (hb : Rows Tab.row 5 h bv im.tables)
    (h1 : im.text.length < 1099511627776) (h2 : im.funcs.length < 1099511627776) (h3 : im.tables.length < 1099511627776) (h4 : ∀ f ∈ im.funcs, f.name.size < 4611686018427387904) (h5 : ∀ t ∈ im.tables, t.name.size < 4611686018427387904) :
    SimCall cx 28 [.agg [tv, fv, bv, VI im.entry]] h fun r h' => ∃ g a va b vb c vc, h' = h ++ g ∧ r = .agg [.sl a va 0 im.text.length 5, .sl b vb 0 im.funcs.length 4, .sl c vc 0 im.tables.length 5, VI im.entry] ∧
      Rows Ins.row 5 (h ++ g) (.sl a va 0 im.text.length 5) im.text ∧ Rows Fn.row 4 (h ++ g) (.sl b vb 0 im.funcs.length 4) im.funcs ∧ Rows Tab.row 5 (h ++ g) (.sl c vc 0 im.tables.length 5) im.tables ∧
      ImgR (h ++ g) (.sl a va 0 im.text.length 5) (.sl b vb 0 im.funcs.length 4) (.sl c vc 0 im.tables.length 5) im := by
  have c1 := ht.sl.cell
  have c2 := hf.sl.cell
  have c3 := hb.sl.cell
  refine SimCall.by hO.P res28 ?_
  unfold x28 r28
  repeat' first
    | ((with_reducible show dK _ 38 _ _ _); refine dK_app _ _ (c38 hO (fun g => by first | exact ht.rows _ | (rw [List.append_assoc]; exact ht.rows _)) h1) ?_)
    | ((with_reducible show dK _ 75 _ _ _); refine dK_app _ _ (c75 hO (fun g => by first | exact hf.rows _ | (rw [List.append_assoc]; exact hf.rows _)) h2) ?_)
    | ((with_reducible show dK _ 40 _ _ _); refine dK_app _ _ (c40 hO (fun g => by first | exact hb.rows _ | (rw [List.append_assoc]; exact hb.rows _)) h3) ?_)
    | simp (maxSteps := 1000000) only [go_sem, c1, c2, c3]
  have ht2 : Rows Ins.row 5 (h ++ [AO.cells 0 [tv, fv, bv, VI im.entry], AO.cells 0 [AV.sl (h.length + 2) (cpV im.text.length) 0 im.text.length 5, AV.sl (h.length + 3) (cpV im.funcs.length) 0 im.funcs.length 4, AV.sl (h.length + 4) (cpV im.tables.length) 0 im.tables.length 5, VI im.entry], .cells (cpV im.text.length) (im.text.flatMap Ins.row), .cells (cpV im.funcs.length) (im.funcs.flatMap Fn.row), .cells (cpV im.tables.length) (im.tables.flatMap Tab.row)]) (.sl (h.length + 2) (cpV im.text.length) 0 im.text.length 5) im.text := Rows.whole Ins.len (fun g => by simp only [go_sem])
  have hf2 : Rows Fn.row 4 (h ++ [AO.cells 0 [tv, fv, bv, VI im.entry], AO.cells 0 [AV.sl (h.length + 2) (cpV im.text.length) 0 im.text.length 5, AV.sl (h.length + 3) (cpV im.funcs.length) 0 im.funcs.length 4, AV.sl (h.length + 4) (cpV im.tables.length) 0 im.tables.length 5, VI im.entry], .cells (cpV im.text.length) (im.text.flatMap Ins.row), .cells (cpV im.funcs.length) (im.funcs.flatMap Fn.row), .cells (cpV im.tables.length) (im.tables.flatMap Tab.row)]) (.sl (h.length + 3) (cpV im.funcs.length) 0 im.funcs.length 4) im.funcs := Rows.whole Fn.len (fun g => by simp only [go_sem])
  have hb2 : Rows Tab.row 5 (h ++ [AO.cells 0 [tv, fv, bv, VI im.entry], AO.cells 0 [AV.sl (h.length + 2) (cpV im.text.length) 0 im.text.length 5, AV.sl (h.length + 3) (cpV im.funcs.length) 0 im.funcs.length 4, AV.sl (h.length + 4) (cpV im.tables.length) 0 im.tables.length 5, VI im.entry], .cells (cpV im.text.length) (im.text.flatMap Ins.row), .cells (cpV im.funcs.length) (im.funcs.flatMap Fn.row), .cells (cpV im.tables.length) (im.tables.flatMap Tab.row)]) (.sl (h.length + 4) (cpV im.tables.length) 0 im.tables.length 5) im.tables := Rows.whole Tab.len (fun g => by simp only [go_sem])
  exact ⟨_, _, _, _, _, _, _, rfl, rfl, ht2, hf2, hb2, ⟨ht2.sl, hf2.sl, hb2.sl, h1, h2, h3, h4, h5⟩⟩
end Go.Tidy
namespace Go.Tidy
open Go Go.Eng Go.Proofs Go.Proofs.YtbhdjfhhgnoiiaaGreatDoor
set_option maxRecDepth 100000
section
variable {H : Type}
def dIns : DataW H → Ins
  | .agg [a, b, c, d, e] => ⟨dInt a, dInt b, dInt c, dInt d, dInt e⟩
  | _ => ⟨0, 0, 0, 0, 0⟩
def dFn : DataW H → Fn
  | .agg [a, b, c, d] => ⟨dStr a, dInt b, dInt c, dInt d⟩
  | _ => ⟨.empty, 0, 0, 0⟩
def dTab : DataW H → Tab
  | .agg [a, b, c, d, e] => ⟨dStr a, dInt b, dInt c, dInt d, dInt e⟩
  | _ => ⟨.empty, 0, 0, 0, 0⟩
def dImg : DataW H → Img
  | .agg [a, b, c, d] => ⟨(dList a).map dIns, (dList b).map dFn, (dList c).map dTab, dInt d⟩
  | _ => ⟨[], [], [], 0⟩
theorem list4 {α : Type} {l : List α} (h : l.length = 4) : ∃ a b c d, l = [a, b, c, d] := by
  match l, h with
  | [a, b, c, d], _ => exact ⟨a, b, c, d, rfl⟩
theorem list5 {α : Type} {l : List α} (h : l.length = 5) : ∃ a b c d e, l = [a, b, c, d, e] := by
  match l, h with
  | [a, b, c, d, e], _ => exact ⟨a, b, c, d, e, rfl⟩
theorem fits_ins {n : Nat} {d : DataW H} (h : fitsD Tryz.prog (n + 2) 71 d) : avs Tryz.prog (n + 2) 71 d = (dIns d).row := by
  obtain ⟨ds, rfl, h1, h2, h3⟩ := fits_struct Tryz.underlying71 h
  obtain ⟨a, b, c, d, e, rfl⟩ := list5 h1
  rw [h3]
  have q0 := (fits_int Tryz.underlying3 (h2 0 _ a rfl rfl)).2.2
  have q1 := (fits_int Tryz.underlying3 (h2 1 _ b rfl rfl)).2.2
  have q2 := (fits_int Tryz.underlying3 (h2 2 _ c rfl rfl)).2.2
  have q3 := (fits_int Tryz.underlying3 (h2 3 _ d rfl rfl)).2.2
  have q4 := (fits_int Tryz.underlying3 (h2 4 _ e rfl rfl)).2.2
  simp only [List.zip_cons_cons, List.zip_nil_right, List.flatMap_cons, List.flatMap_nil, q0, q1, q2, q3, q4]
  rfl
theorem fits_fn {n : Nat} {d : DataW H} (h : fitsD Tryz.prog (n + 2) 117 d) : avs Tryz.prog (n + 2) 117 d = (dFn d).row ∧ (dFn d).name.size ≤ maxLen := by
  obtain ⟨ds, rfl, h1, h2, h3⟩ := fits_struct Tryz.underlying117 h
  obtain ⟨a, b, c, d, rfl⟩ := list4 h1
  rw [h3]
  obtain ⟨bs, _, hb, he, q0⟩ := fits_str Tryz.underlying9 (h2 0 _ a rfl rfl)
  have q1 := (fits_int Tryz.underlying3 (h2 1 _ b rfl rfl)).2.2
  have q2 := (fits_int Tryz.underlying3 (h2 2 _ c rfl rfl)).2.2
  have q3 := (fits_int Tryz.underlying3 (h2 3 _ d rfl rfl)).2.2
  refine ⟨?_, ?_⟩
  · simp only [List.zip_cons_cons, List.zip_nil_right, List.flatMap_cons, List.flatMap_nil, q0, q1, q2, q3]
    rfl
  · show (dStr a).size ≤ maxLen
    rw [he]
    simpa [ByteArray.size] using hb
theorem fits_tab {n : Nat} {d : DataW H} (h : fitsD Tryz.prog (n + 2) 84 d) : avs Tryz.prog (n + 2) 84 d = (dTab d).row := by
  obtain ⟨ds, rfl, h1, h2, h3⟩ := fits_struct Tryz.underlying84 h
  obtain ⟨a, b, c, d, e, rfl⟩ := list5 h1
  rw [h3]
  obtain ⟨bs, _, hb, he, q0⟩ := fits_str Tryz.underlying9 (h2 0 _ a rfl rfl)
  have q1 := (fits_int Tryz.underlying3 (h2 1 _ b rfl rfl)).2.2
  have q2 := (fits_int Tryz.underlying3 (h2 2 _ c rfl rfl)).2.2
  have q3 := (fits_int Tryz.underlying3 (h2 3 _ d rfl rfl)).2.2
  have q4 := (fits_int Tryz.underlying3 (h2 4 _ e rfl rfl)).2.2
  simp only [List.zip_cons_cons, List.zip_nil_right, List.flatMap_cons, List.flatMap_nil, q0, q1, q2, q3, q4]
  rfl
theorem one_le (d : DataW H) : 1 ≤ Rows.uptoBulk d := by
  cases d with
  | lit l => cases l <;> simp [Rows.uptoBulk]
  | nil => simp [Rows.uptoBulk]
  | ptr d => simp [Rows.uptoBulk]
  | slice elems spare => simp [Rows.uptoBulk]
  | agg parts => simp [Rows.uptoBulk]
  | iface t d => simp [Rows.uptoBulk]
  | map entries => simp [Rows.uptoBulk]
  | held h => simp [Rows.uptoBulk]
theorem len_bulk (l : List (DataW H)) : l.length ≤ Rows.uptoBulkAll l := by
  induction l with
  | nil => simp [Rows.uptoBulkAll]
  | cons x r ih => have := one_le x; simp only [Rows.uptoBulkAll, List.length_cons]; omega
theorem mem_bulk {d : DataW H} {l : List (DataW H)} (h : d ∈ l) : Rows.uptoBulk d ≤ Rows.uptoBulkAll l := by
  induction l with
  | nil => cases h
  | cons x r ih =>
    simp only [Rows.uptoBulkAll]
    cases List.mem_cons.1 h with
    | inl e => subst e; omega
    | inr e => have := ih e; omega
theorem list_bulk (d : DataW H) : (dList d).length ≤ Rows.uptoBulk d ∧ ∀ x ∈ dList d, Rows.uptoBulk x ≤ Rows.uptoBulk d := by
  cases d with
  | slice elems spare =>
    have := len_bulk elems
    simp only [dList, Rows.uptoBulk]
    exact ⟨by omega, fun x hx => by have := mem_bulk hx; omega⟩
  | _ => exact ⟨Nat.zero_le _, fun x hx => by cases hx⟩
theorem str_bulk (d : DataW H) : (dStr d).size ≤ Rows.uptoBulk d := by
  unfold dStr
  split
  · simp [Rows.uptoBulk, ByteArray.size]
  · exact Nat.zero_le _
theorem fn_bulk (d : DataW H) : (dFn d).name.size ≤ Rows.uptoBulk d := by
  unfold dFn
  split
  · rename_i a b c d
    have := str_bulk a
    simp only [Rows.uptoBulk, Rows.uptoBulkAll]
    omega
  · exact Nat.zero_le _
theorem tab_bulk (d : DataW H) : (dTab d).name.size ≤ Rows.uptoBulk d := by
  unfold dTab
  split
  · rename_i a b c d e
    have := str_bulk a
    simp only [Rows.uptoBulk, Rows.uptoBulkAll]
    omega
  · exact Nat.zero_le _
theorem fits_img {d : DataW H} (h : fitsD Tryz.prog 4 58 d) (hk : Rows.uptoBulk d ≤ 1048576) :
    ∃ tv fv bv, avs Tryz.prog 4 58 d = [tv, fv, bv, VI (dImg d).entry] ∧ Rows Ins.row 5 [] tv (dImg d).text ∧ Rows Fn.row 4 [] fv (dImg d).funcs ∧ Rows Tab.row 5 [] bv (dImg d).tables ∧
      (dImg d).text.length ≤ 1048576 ∧ (dImg d).funcs.length ≤ 1048576 ∧ (dImg d).tables.length ≤ 1048576 ∧ (∀ f ∈ (dImg d).funcs, f.name.size ≤ 1048576) ∧ ∀ t ∈ (dImg d).tables, t.name.size ≤ 1048576 := by
  obtain ⟨ds, rfl, h1, h2, h3⟩ := fits_struct Tryz.underlying58 h
  obtain ⟨a, b, c, d, rfl⟩ := list4 h1
  rw [h3]
  have c5 : Tryz.prog.cellsOf 71 = 5 := by kernel_rfl
  have c4 : Tryz.prog.cellsOf 117 = 4 := by kernel_rfl
  have c5' : Tryz.prog.cellsOf 84 = 5 := by kernel_rfl
  obtain ⟨a1, _, fa, a2, a3⟩ := fits_slice Tryz.underlying22 (h2 0 _ a rfl rfl)
  obtain ⟨b1, _, fb, b2, b3⟩ := fits_slice Tryz.underlying56 (h2 1 _ b rfl rfl)
  obtain ⟨d1, _, fc, d2, d3⟩ := fits_slice Tryz.underlying24 (h2 2 _ c rfl rfl)
  have q3 := (fits_int Tryz.underlying3 (h2 3 _ d rfl rfl)).2.2
  rw [c5] at a2
  rw [c4] at b2
  rw [c5'] at d2
  simp only [Rows.uptoBulk, Rows.uptoBulkAll] at hk
  have ka := list_bulk a
  have kb := list_bulk b
  have kc := list_bulk c
  refine ⟨.ro 5 ((dList a).map dIns).length fa, .ro 4 ((dList b).map dFn).length fb, .ro 5 ((dList c).map dTab).length fc, ?_, ?_, ?_, ?_, ?_, ?_, ?_, ?_, ?_⟩
  · simp only [List.zip_cons_cons, List.zip_nil_right, List.flatMap_cons, List.flatMap_nil, a2, b2, d2, q3, List.length_map]
    rfl
  · refine Rows.ro (xs := (dList a).map dIns) fun i x hx => ?_
    rw [List.getElem?_map, Option.map_eq_some_iff] at hx
    obtain ⟨y, hy, rfl⟩ := hx
    rw [a3 i y hy]
    exact fits_ins (a1 y (List.mem_of_getElem? hy))
  · refine Rows.ro (xs := (dList b).map dFn) fun i x hx => ?_
    rw [List.getElem?_map, Option.map_eq_some_iff] at hx
    obtain ⟨y, hy, rfl⟩ := hx
    rw [b3 i y hy]
    exact (fits_fn (b1 y (List.mem_of_getElem? hy))).1
  · refine Rows.ro (xs := (dList c).map dTab) fun i x hx => ?_
    rw [List.getElem?_map, Option.map_eq_some_iff] at hx
    obtain ⟨y, hy, rfl⟩ := hx
    rw [d3 i y hy]
    exact fits_tab (d1 y (List.mem_of_getElem? hy))
  · show ((dList a).map dIns).length ≤ _
    rw [List.length_map]
    omega
  · show ((dList b).map dFn).length ≤ _
    rw [List.length_map]
    omega
  · show ((dList c).map dTab).length ≤ _
    rw [List.length_map]
    omega
  · intro f hf
    obtain ⟨y, hy, rfl⟩ := List.mem_map.1 (show f ∈ (dList b).map dFn from hf)
    have := fn_bulk y
    have := kb.2 y hy
    omega
  · intro f hf
    obtain ⟨y, hy, rfl⟩ := List.mem_map.1 (show f ∈ (dList c).map dTab from hf)
    have := tab_bulk y
    have := kc.2 y hy
    omega
end
end Go.Tidy
namespace Go.Tidy
open Go Go.Eng Go.Proofs
variable {cx : Cx}
theorem laidFs_snoc : ∀ (at_ : Int) (fs : List Fn) (bs : List (List Ins)) (f : Fn) (b : List Ins), fs.length = bs.length → laidFs at_ (fs ++ [f]) (bs ++ [b]) = laidFs at_ fs bs ++ [{ f with first := at_ + (bs.flatten.length : Nat), count := b.length }]
  | at_, [], [], f, b, _ => by simp [laidFs]
  | at_, g :: fs, c :: bs, f, b, h => by
    simp only [List.cons_append, laidFs, laidFs_snoc (at_ + c.length) fs bs f b (by simpa using h), List.flatten_cons, List.length_append]
    congr 3
    congr 1
    omega
  | _, [], _ :: _, _, _, h => by simp at h
  | _, _ :: _, [], _, _, h => by simp at h
theorem wsI_sublist {a b : List Ins} (h : a.Sublist b) : (wsI a).sum ≤ (wsI b).sum := by
  unfold wsI
  induction h with
  | slnil => exact Nat.le_refl _
  | cons x _ ih => simp only [List.map_cons, List.sum_cons]; omega
  | cons_cons x _ ih => simp only [List.map_cons, List.sum_cons]; omega
theorem len_sum (is : List Ins) : is.length ≤ (wsI is).sum := by
  unfold wsI
  induction is with
  | nil => simp
  | cons x r ih =>
    have : 1 ≤ wd x := by unfold wd; split <;> omega
    simp only [List.map_cons, List.sum_cons, List.length_cons]
    omega
theorem body_sum (text : List Ins) (f : Fn) : (wsI (body text f)).sum ≤ (wsI text).sum :=
  wsI_sublist ((List.take_sublist _ _).trans (List.drop_sublist _ _))
theorem xRows0 (H : AH) (id ver n sz : Nat) : xRows H sz (.sl id ver 0 n sz) = (AH.rd H id ver).bind fun cs => if n * sz ≤ cs.length then some (n, cs.take (n * sz)) else none := by
  simp [xRows]
def TidyOut (h : AH) (im : Img) (r : AV) (h' : AH) : Prop :=
  (¬ VOk (tabsB 0) im ∧ ∃ (e : Int) (g : AH), e ≠ 0 ∧ h' = h ++ g ∧ r = .tup [.agg [nilS, nilS, nilS, VI 0], VI e]) ∨
  (VOk (tabsB 0) im ∧ ∃ (bs : List (List Ins)) (g : AH) (a va b vb c vc : Nat), TidyOf im ⟨bs.flatten, laidFs 0 im.funcs bs, im.tables, im.entry⟩ bs ∧ h' = h ++ g ∧
    r = .tup [.agg [.sl a va 0 bs.flatten.length 5, .sl b vb 0 (laidFs 0 im.funcs bs).length 4, .sl c vc 0 im.tables.length 5, VI im.entry], VI 0] ∧
    Rows Ins.row 5 (h ++ g) (.sl a va 0 bs.flatten.length 5) bs.flatten ∧ Rows Fn.row 4 (h ++ g) (.sl b vb 0 (laidFs 0 im.funcs bs).length 4) (laidFs 0 im.funcs bs) ∧ Rows Tab.row 5 (h ++ g) (.sl c vc 0 im.tables.length 5) im.tables)
def OutM (L : Nat) (ot ov : AV) (bs : List (List Ins)) (fs : List Fn) (G : AH) : Prop :=
  (bs = [] ∧ ot = nilS ∧ ov = nilS ∧ fs = [] ∧ G = []) ∨ ∃ g1 vt g2 vf g3, G = g1 ++ AO.cells vt (bs.flatten.flatMap Ins.row) :: (g2 ++ AO.cells vf (fs.flatMap Fn.row) :: g3) ∧
    ot = .sl (L + (g1.length + 1 + 1 + 1 + 1)) vt 0 bs.flatten.length 5 ∧ ov = .sl (L + (g1.length + (g2.length + 1) + 1 + 1 + 1 + 1)) vf 0 fs.length 4
set_option maxRecDepth 100000 in
set_option maxHeartbeats 4000000 in
theorem c23 (hO : On cx) {h : AH} {im : Img} {tv fv : AV} {c0 vc0 : Nat} (hr : ImgR h tv fv (.sl c0 vc0 0 im.tables.length 5) im) (hb : Rows Tab.row 5 h (.sl c0 vc0 0 im.tables.length 5) im.tables) :
    SimCall cx 23 [.agg [tv, fv, .sl c0 vc0 0 im.tables.length 5, VI im.entry]] h (TidyOut h im) := by
  have c1 := hr.text.cell
  have c2 := hr.funcs.cell
  have hnf := hr.nf
  have hnt := hr.nt
  refine SimCall.by hO.P res23 ?_
  unfold x23 r23
  repeat' first
    | simp (maxSteps := 1000000) only [go_sem, c1, c2]
  refine (c34 hO (hr.more _)).mono ?_
  rintro r h' ⟨rfl, q1, q2, e0, rfl, he0⟩
  repeat' first
    | ((with_reducible show wx _ (XCode.cond _ _ _) _ _); refine wx_if rfl (fun _ => ?_) (fun _ => ?_))
    | ((with_reducible show dK _ 69 _ _ _); refine dK_app _ _ (c69 hO (fun g => by first | exact hb.rows _ | (rw [List.append_assoc]; exact hb.rows _)) hnt) ?_)
    | simp (maxSteps := 1000000) only [go_sem, c1, c2, hr.funcs.len]
  · rename_i e
    simp at e
    exact .inl ⟨fun hv => e (he0.2 hv), e0, _, e, rfl, rfl⟩
  rename_i e
  have hv : VOk (tabsB 0) im := he0.1 (by simpa using e)
  have hok := hv.img
  have hfs := funcsB_mem _ _ 0 (by omega) hok.funcs
  have hnf2 := hok.nf
  have hNN : 0 < im.funcs.length := by have := hok.entry; omega
  refine SimLoop.inv [1, 0, 4, 20, 0, 0] (fun k s => ∃ (i : Nat) (bs : List (List Ins)) (ot ov : AV) (G : AH), k = im.funcs.length - i ∧ i ≤ im.funcs.length ∧ bs.length = i ∧ OutM h.length ot ov bs (laidFs 0 (im.funcs.take i) bs) G ∧
      (∀ (k : Nat) f b, im.funcs[k]? = some f → bs[k]? = some b → Made im.funcs.length im.tables.length (body im.text f) b) ∧ bs.flatten.length ≤ i * 1048576 ∧
    s = ⟨[.un, .ptr h.length 0 0, .ptr (h.length + 1) 0 0, .un, .un, .un, .un, .ptr (h.length + 2) 0 0, .un, .un, .un, .un, .un, .un, .un, .un, .un, .un, .un, .un, .un, .un, .un, .un, .un, .un, .un, .un, fv, VI im.funcs.length, VI i, .un, .un, .un, .un, .un, .un, .un, .un, .un, .un, .un, .un, .un, .un, .un, .un, .un, .un, .un, .un, .un, .un, .un, .un, .un, .un, .un, .un, .un, .un, .un, .un, .un, .un],
      h ++ (.cells 0 [tv, fv, .sl c0 vc0 0 im.tables.length 5, VI im.entry] :: .cells 0 [nilS, nilS, nilS, VI 0] :: .cells 0 [ot, ov, .sl (h.length + 3) (cpV im.tables.length) 0 im.tables.length 5, VI im.entry] :: .cells (cpV im.tables.length) (im.tables.flatMap Tab.row) :: G)⟩) ?_ im.funcs.length ?_
  rotate_left
  · exact ⟨0, [], _, _, [], rfl, Nat.zero_le _, rfl, .inl ⟨rfl, rfl, rfl, rfl, rfl⟩, fun k f b _ hb => by simp at hb, by simp, by simp only [go_sem]; rfl⟩
  rintro k s ⟨i, bs, ot, ov, G, rfl, hi, hbl, hout, hmade, hlen, rfl⟩
  by_cases hlt : i < im.funcs.length
  · obtain ⟨q, hq1, hq2, hq3, _⟩ := hr.funcs.get Fn.len (by decide) (List.getElem?_eq_getElem hlt)
    have hlt' : ((i : Int) < im.funcs.length) := by omega
    have hw := wrap_succ hlt (by omega)
    have hfi := List.getElem?_eq_getElem hlt
    have htki : im.funcs.take (i + 1) = im.funcs.take i ++ [im.funcs[i]] := List.take_succ_eq_append_getElem hlt
    obtain ⟨e1, e2, e3⟩ := hfs _ (List.getElem_mem hlt)
    have hbody := hv.bodies _ (List.getElem_mem hlt)
    generalize im.funcs[i] = f at hq1 hq2 hq3 hfi e1 e2 e3 htki hbody
    obtain ⟨bodyv, hs1, hs2⟩ := hr.text.sls (a := f.first) (b := f.first + f.count) Ins.len e1 (by omega) e3
    have hbe : (im.text.drop f.first.toNat).take ((f.first + f.count).toNat - f.first.toNat) = body im.text f := by
      unfold body
      congr 1
      omega
    rw [hbe] at hs2
    have htlen := hr.len
    have hbl2 : (body im.text f).length ≤ im.text.length := by unfold body; simp; omega
    have hsum : (wsI (body im.text f)).sum ≤ 1048576 := Nat.le_trans (body_sum im.text f) hok.len
    have hbl3 := len_sum (body im.text f)
    have hw0 : IntKind.i64.wrap (f.first + f.count) = f.first + f.count := wrap_id (by omega) (by omega)
    have h70 := fun H : AH => c70 (cx := cx) hO (hs2.more H) (by omega) hbody (by omega)
    have hil : i < im.funcs.length := hlt
    have hfl : (laidFs 0 (im.funcs.take i) bs).length = i := by
      rw [laidFs_length 0 _ _ (by rw [List.length_take]; omega), List.length_take]
      omega
    have hsn := fun js => laidFs_snoc 0 (im.funcs.take i) bs f js (by rw [List.length_take]; omega)
    generalize hfs2 : laidFs 0 (im.funcs.take i) bs = fs at hout hfl hsn
    have hmk : ∀ js, Made im.funcs.length im.tables.length (body im.text f) js → ∀ (k : Nat) f' b, im.funcs[k]? = some f' → (bs ++ [js])[k]? = some b → Made im.funcs.length im.tables.length (body im.text f') b := by
      intro js hm k f' b hf' hb
      by_cases hk : k < bs.length
      · rw [List.getElem?_append_left hk] at hb
        exact hmade k f' b hf' hb
      · have hk2 := (List.getElem?_eq_some_iff.1 hb).1
        simp only [List.length_append, List.length_cons, List.length_nil] at hk2
        have : k = i := by omega
        subst this
        rw [hfi] at hf'
        cases hf'
        rw [List.getElem?_append_right (by omega), hbl] at hb
        simp at hb
        subst hb
        exact hm
    obtain ⟨fname, fobj, ffirst, fcount⟩ := f
    simp only at e1 e2 e3 hs1 hw0
    rcases hout with ⟨rfl, rfl, rfl, rfl, rfl⟩ | ⟨g1, vt, g2, vf, g3, rfl, rfl, rfl⟩
    · skip
      repeat' first
        | simp (maxSteps := 1000000) only [go_sem, hlt', hw, hq1, hq2, hq3, Fn.row, hs1, hw0, c1, c2]
      refine (h70 _).mono ?_
      rintro r h' ⟨js, hm, rfl, rfl⟩
      have hmw := hm.slots
      have hjl := len_sum js
      have hjn := hm.ok.ne
      have hjr := cells_len (f := Ins.row) (sz := 5) Ins.len js
      have hj1 : js.length * 5 ≤ (js.flatMap Ins.row).length := by omega
      have hj2 : (js.flatMap Ins.row).take (js.length * 5) = js.flatMap Ins.row := List.take_of_length_le (by omega)
      have hj0 : ¬ js.length = 0 := by omega
      have hj3 : js.length * 40 ≤ 140737488355328 := by omega
      repeat' first
        | simp (maxSteps := 1000000) only [go_sem, hj0, hj1, hj2, hj3, hw, xRows0, Option.bind_some]
      have hi0 : i = 0 := by simpa using hbl.symm
      refine ⟨im.funcs.length - (i + 1), by omega, i + 1, [js], _, _, _, rfl, by omega, by simp [hi0], ?_, hmk js hm, by simp; omega, rfl⟩
      have h2 := hsn js
      rw [List.nil_append] at h2
      rw [htki, h2]
      exact .inr ⟨[.cells 0 [AV.v (.string fname), VI fobj, VI ((0 : Nat) : Int), VI js.length], .cells 0 (js.flatMap Ins.row)], 0, [.cells 0 [AV.v (.string fname), VI fobj, VI ((0 : Nat) : Int), VI js.length]], 0, [], by simp [Fn.row], by simp, by simp⟩
    · skip
      have htr := cells_len (f := Ins.row) (sz := 5) Ins.len bs.flatten
      have hfr := cells_len (f := Fn.row) (sz := 4) Fn.len fs
      generalize hBB : bs.flatten = B at *
      have hbig : (B.length : Int) < 9223372036854775808 := by omega
      repeat' first
        | simp (maxSteps := 1000000) only [go_sem, hlt', hw, hq1, hq2, hq3, Fn.row, hs1, hw0, c1, c2]
      refine (h70 _).mono ?_
      rintro r h' ⟨js, hm, rfl, rfl⟩
      have hmw := hm.slots
      have hjl := len_sum js
      have hjn := hm.ok.ne
      have hjr := cells_len (f := Ins.row) (sz := 5) Ins.len js
      have hj1 : js.length * 5 ≤ (js.flatMap Ins.row).length := by omega
      have hj2 : (js.flatMap Ins.row).take (js.length * 5) = js.flatMap Ins.row := List.take_of_length_le (by omega)
      have hj0 : ¬ js.length = 0 := by omega
      have ht1 : ¬ (B.length + js.length) * 5 ≤ (B.flatMap Ins.row).length := by omega
      have ht2 : B.length * 5 ≤ (B.flatMap Ins.row).length := by omega
      have ht3 : (B.length + js.length) * 40 ≤ 140737488355328 := by omega
      have ht4 : (B.flatMap Ins.row).take (B.length * 5) = B.flatMap Ins.row := List.take_of_length_le (by omega)
      have hf1 : ¬ (fs.length + 1) * 4 ≤ (fs.flatMap Fn.row).length := by omega
      have hf2 : fs.length * 4 ≤ (fs.flatMap Fn.row).length := by omega
      have hf3 : (fs.length + 1) * 40 ≤ 140737488355328 := by omega
      have hf4 : (fs.flatMap Fn.row).take (fs.length * 4) = fs.flatMap Fn.row := List.take_of_length_le (by omega)
      repeat' first
        | simp (maxSteps := 1000000) only [go_sem, hj0, hj1, hj2, ht1, ht2, ht3, ht4, hf1, hf2, hf3, hf4, hw, xRows0, Option.bind_some]
      refine ⟨im.funcs.length - (i + 1), by omega, i + 1, bs ++ [js], _, _, _, rfl, by omega, by simp [hbl], ?_, hmk js hm, by simp [hBB]; omega, rfl⟩
      rw [htki, hsn js]
      exact .inr ⟨g1, vt + 1, g2, vf + 1, g3 ++ [.cells 0 [AV.v (.string fname), VI fobj, VI (B.length : Int), VI js.length], .cells 0 (js.flatMap Ins.row), .cells 0 [AV.v (.string fname), VI fobj, VI (B.length : Int), VI js.length]], by simp [Fn.row, hBB], by simp [hBB], by simp⟩
  · have hlt' : ¬ ((i : Int) < im.funcs.length) := by omega
    have hin : i = im.funcs.length := by omega
    rw [List.take_of_length_le (by omega)] at hout
    rcases hout with ⟨rfl, rfl, rfl, _, rfl⟩ | ⟨g1, vt, g2, vf, g3, rfl, rfl, rfl⟩
    · simp at hbl
      omega
    · skip
      repeat' first
        | simp (maxSteps := 1000000) only [go_sem, hlt']
      refine .inr ⟨hv, bs, _, _, _, _, _, _, _, ⟨by omega, hmade, rfl, rfl, rfl, rfl⟩, rfl, rfl, ?_, ?_, ?_⟩
      · exact Rows.whole Ins.len (fun g => by simp only [go_sem])
      · exact Rows.whole Fn.len (fun g => by simp only [go_sem])
      · exact Rows.whole Tab.len (fun g => by simp only [go_sem])
end Go.Tidy

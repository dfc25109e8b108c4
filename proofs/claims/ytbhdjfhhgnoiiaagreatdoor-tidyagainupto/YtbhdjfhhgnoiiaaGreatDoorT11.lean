/- Part 11 of a proof: an abstract memory for the translated code, and what the functions that the law reaches do over it. -/
import Derived.Test.YtbhdjfhhgnoiiaaGreatDoorRows
import Derived.Test.YtbhdjfhhgnoiiaaGreatDoorProg
import Derived.Test.YtbhdjfhhgnoiiaaGreatDoorT10
set_option linter.unusedSimpArgs false
set_option linter.unusedVariables false
namespace Go.Tidy
open Go Go.Eng Go.Proofs Go.Proofs.YtbhdjfhhgnoiiaaGreatDoor
set_option maxRecDepth 100000
section
variable {H : Type}
def dIns : DataW H → Ins
  | .agg [a, b, c, d, e] => ⟨dInt a, dInt b, dInt c, dInt d, dInt e⟩
  | _ => ⟨0, 0, 0, 0, 0⟩
def dFn : DataW H → Fn
  | .agg [a, b, c, d] => ⟨dStr a, dInt b, dInt c, dInt d⟩
  | _ => ⟨.empty, 0, 0, 0⟩
def dTab : DataW H → Tab
  | .agg [a, b, c, d, e] => ⟨dStr a, dInt b, dInt c, dInt d, dInt e⟩
  | _ => ⟨.empty, 0, 0, 0, 0⟩
def dImg : DataW H → Img
  | .agg [a, b, c, d] => ⟨(dList a).map dIns, (dList b).map dFn, (dList c).map dTab, dInt d⟩
  | _ => ⟨[], [], [], 0⟩
theorem list4 {α : Type} {l : List α} (h : l.length = 4) : ∃ a b c d, l = [a, b, c, d] := by
  match l, h with
  | [a, b, c, d], _ => exact ⟨a, b, c, d, rfl⟩
theorem list5 {α : Type} {l : List α} (h : l.length = 5) : ∃ a b c d e, l = [a, b, c, d, e] := by
  match l, h with
  | [a, b, c, d, e], _ => exact ⟨a, b, c, d, e, rfl⟩
theorem fits_ins {n : Nat} {d : DataW H} (h : fitsD Tryz.prog (n + 2) 71 d) : avs Tryz.prog (n + 2) 71 d = (dIns d).row := by
  obtain ⟨ds, rfl, h1, h2, h3⟩ := fits_struct Tryz.underlying71 h
  obtain ⟨a, b, c, d, e, rfl⟩ := list5 h1
  rw [h3]
  have q0 := (fits_int Tryz.underlying3 (h2 0 _ a rfl rfl)).2.2
  have q1 := (fits_int Tryz.underlying3 (h2 1 _ b rfl rfl)).2.2
  have q2 := (fits_int Tryz.underlying3 (h2 2 _ c rfl rfl)).2.2
  have q3 := (fits_int Tryz.underlying3 (h2 3 _ d rfl rfl)).2.2
  have q4 := (fits_int Tryz.underlying3 (h2 4 _ e rfl rfl)).2.2
  simp only [List.zip_cons_cons, List.zip_nil_right, List.flatMap_cons, List.flatMap_nil, q0, q1, q2, q3, q4]
  rfl
theorem fits_fn {n : Nat} {d : DataW H} (h : fitsD Tryz.prog (n + 2) 117 d) : avs Tryz.prog (n + 2) 117 d = (dFn d).row ∧ (dFn d).name.size ≤ maxLen := by
  obtain ⟨ds, rfl, h1, h2, h3⟩ := fits_struct Tryz.underlying117 h
  obtain ⟨a, b, c, d, rfl⟩ := list4 h1
  rw [h3]
  obtain ⟨bs, _, hb, he, q0⟩ := fits_str Tryz.underlying9 (h2 0 _ a rfl rfl)
  have q1 := (fits_int Tryz.underlying3 (h2 1 _ b rfl rfl)).2.2
  have q2 := (fits_int Tryz.underlying3 (h2 2 _ c rfl rfl)).2.2
  have q3 := (fits_int Tryz.underlying3 (h2 3 _ d rfl rfl)).2.2
  refine ⟨?_, ?_⟩
  · simp only [List.zip_cons_cons, List.zip_nil_right, List.flatMap_cons, List.flatMap_nil, q0, q1, q2, q3]
    rfl
  · show (dStr a).size ≤ maxLen
    rw [he]
    simpa [ByteArray.size] using hb
theorem fits_tab {n : Nat} {d : DataW H} (h : fitsD Tryz.prog (n + 2) 84 d) : avs Tryz.prog (n + 2) 84 d = (dTab d).row := by
  obtain ⟨ds, rfl, h1, h2, h3⟩ := fits_struct Tryz.underlying84 h
  obtain ⟨a, b, c, d, e, rfl⟩ := list5 h1
  rw [h3]
  obtain ⟨bs, _, hb, he, q0⟩ := fits_str Tryz.underlying9 (h2 0 _ a rfl rfl)
  have q1 := (fits_int Tryz.underlying3 (h2 1 _ b rfl rfl)).2.2
  have q2 := (fits_int Tryz.underlying3 (h2 2 _ c rfl rfl)).2.2
  have q3 := (fits_int Tryz.underlying3 (h2 3 _ d rfl rfl)).2.2
  have q4 := (fits_int Tryz.underlying3 (h2 4 _ e rfl rfl)).2.2
  simp only [List.zip_cons_cons, List.zip_nil_right, List.flatMap_cons, List.flatMap_nil, q0, q1, q2, q3, q4]
  rfl
theorem one_le (d : DataW H) : 1 ≤ Rows.uptoBulk d := by
  cases d with
  | lit l => cases l <;> simp [Rows.uptoBulk]
  | nil => simp [Rows.uptoBulk]
  | ptr d => simp [Rows.uptoBulk]
  | slice elems spare => simp [Rows.uptoBulk]
  | agg parts => simp [Rows.uptoBulk]
  | iface t d => simp [Rows.uptoBulk]
  | map entries => simp [Rows.uptoBulk]
  | held h => simp [Rows.uptoBulk]
theorem len_bulk (l : List (DataW H)) : l.length ≤ Rows.uptoBulkAll l := by
  induction l with
  | nil => simp [Rows.uptoBulkAll]
  | cons x r ih => have := one_le x; simp only [Rows.uptoBulkAll, List.length_cons]; omega
theorem mem_bulk {d : DataW H} {l : List (DataW H)} (h : d ∈ l) : Rows.uptoBulk d ≤ Rows.uptoBulkAll l := by
  induction l with
  | nil => cases h
  | cons x r ih =>
    simp only [Rows.uptoBulkAll]
    cases List.mem_cons.1 h with
    | inl e => subst e; omega
    | inr e => have := ih e; omega
theorem list_bulk (d : DataW H) : (dList d).length ≤ Rows.uptoBulk d ∧ ∀ x ∈ dList d, Rows.uptoBulk x ≤ Rows.uptoBulk d := by
  cases d with
  | slice elems spare =>
    have := len_bulk elems
    simp only [dList, Rows.uptoBulk]
    exact ⟨by omega, fun x hx => by have := mem_bulk hx; omega⟩
  | _ => exact ⟨Nat.zero_le _, fun x hx => by cases hx⟩
theorem str_bulk (d : DataW H) : (dStr d).size ≤ Rows.uptoBulk d := by
  unfold dStr
  split
  · simp [Rows.uptoBulk, ByteArray.size]
  · exact Nat.zero_le _
theorem fn_bulk (d : DataW H) : (dFn d).name.size ≤ Rows.uptoBulk d := by
  unfold dFn
  split
  · rename_i a b c d
    have := str_bulk a
    simp only [Rows.uptoBulk, Rows.uptoBulkAll]
    omega
  · exact Nat.zero_le _
theorem tab_bulk (d : DataW H) : (dTab d).name.size ≤ Rows.uptoBulk d := by
  unfold dTab
  split
  · rename_i a b c d e
    have := str_bulk a
    simp only [Rows.uptoBulk, Rows.uptoBulkAll]
    omega
  · exact Nat.zero_le _
theorem fits_img {d : DataW H} (h : fitsD Tryz.prog 4 58 d) (hk : Rows.uptoBulk d ≤ 1048576) :
    ∃ tv fv bv, avs Tryz.prog 4 58 d = [tv, fv, bv, VI (dImg d).entry] ∧ Rows Ins.row 5 [] tv (dImg d).text ∧ Rows Fn.row 4 [] fv (dImg d).funcs ∧ Rows Tab.row 5 [] bv (dImg d).tables ∧
      (dImg d).text.length ≤ 1048576 ∧ (dImg d).funcs.length ≤ 1048576 ∧ (dImg d).tables.length ≤ 1048576 ∧ (∀ f ∈ (dImg d).funcs, f.name.size ≤ 1048576) ∧ ∀ t ∈ (dImg d).tables, t.name.size ≤ 1048576 := by
  obtain ⟨ds, rfl, h1, h2, h3⟩ := fits_struct Tryz.underlying58 h
  obtain ⟨a, b, c, d, rfl⟩ := list4 h1
  rw [h3]
  have c5 : Tryz.prog.cellsOf 71 = 5 := by kernel_rfl
  have c4 : Tryz.prog.cellsOf 117 = 4 := by kernel_rfl
  have c5' : Tryz.prog.cellsOf 84 = 5 := by kernel_rfl
  obtain ⟨a1, _, fa, a2, a3⟩ := fits_slice Tryz.underlying22 (h2 0 _ a rfl rfl)
  obtain ⟨b1, _, fb, b2, b3⟩ := fits_slice Tryz.underlying56 (h2 1 _ b rfl rfl)
  obtain ⟨d1, _, fc, d2, d3⟩ := fits_slice Tryz.underlying24 (h2 2 _ c rfl rfl)
  have q3 := (fits_int Tryz.underlying3 (h2 3 _ d rfl rfl)).2.2
  rw [c5] at a2
  rw [c4] at b2
  rw [c5'] at d2
  simp only [Rows.uptoBulk, Rows.uptoBulkAll] at hk
  have ka := list_bulk a
  have kb := list_bulk b
  have kc := list_bulk c
  refine ⟨.ro 5 ((dList a).map dIns).length fa, .ro 4 ((dList b).map dFn).length fb, .ro 5 ((dList c).map dTab).length fc, ?_, ?_, ?_, ?_, ?_, ?_, ?_, ?_, ?_⟩
  · simp only [List.zip_cons_cons, List.zip_nil_right, List.flatMap_cons, List.flatMap_nil, a2, b2, d2, q3, List.length_map]
    rfl
  · refine Rows.ro (xs := (dList a).map dIns) fun i x hx => ?_
    rw [List.getElem?_map, Option.map_eq_some_iff] at hx
    obtain ⟨y, hy, rfl⟩ := hx
    rw [a3 i y hy]
    exact fits_ins (a1 y (List.mem_of_getElem? hy))
  · refine Rows.ro (xs := (dList b).map dFn) fun i x hx => ?_
    rw [List.getElem?_map, Option.map_eq_some_iff] at hx
    obtain ⟨y, hy, rfl⟩ := hx
    rw [b3 i y hy]
    exact (fits_fn (b1 y (List.mem_of_getElem? hy))).1
  · refine Rows.ro (xs := (dList c).map dTab) fun i x hx => ?_
    rw [List.getElem?_map, Option.map_eq_some_iff] at hx
    obtain ⟨y, hy, rfl⟩ := hx
    rw [d3 i y hy]
    exact fits_tab (d1 y (List.mem_of_getElem? hy))
  · show ((dList a).map dIns).length ≤ _
    rw [List.length_map]
    omega
  · show ((dList b).map dFn).length ≤ _
    rw [List.length_map]
    omega
  · show ((dList c).map dTab).length ≤ _
    rw [List.length_map]
    omega
  · intro f hf
    obtain ⟨y, hy, rfl⟩ := List.mem_map.1 (show f ∈ (dList b).map dFn from hf)
    have := fn_bulk y
    have := kb.2 y hy
    omega
  · intro f hf
    obtain ⟨y, hy, rfl⟩ := List.mem_map.1 (show f ∈ (dList c).map dTab from hf)
    have := tab_bulk y
    have := kc.2 y hy
    omega
end
end Go.Tidy
namespace Go.Tidy
open Go Go.Eng Go.Proofs
variable {cx : Cx}
theorem laidFs_snoc : ∀ (at_ : Int) (fs : List Fn) (bs : List (List Ins)) (f : Fn) (b : List Ins), fs.length = bs.length → laidFs at_ (fs ++ [f]) (bs ++ [b]) = laidFs at_ fs bs ++ [{ f with first := at_ + (bs.flatten.length : Nat), count := b.length }]
  | at_, [], [], f, b, _ => by simp [laidFs]
  | at_, g :: fs, c :: bs, f, b, h => by
    simp only [List.cons_append, laidFs, laidFs_snoc (at_ + c.length) fs bs f b (by simpa using h), List.flatten_cons, List.length_append]
    congr 3
    congr 1
    omega
  | _, [], _ :: _, _, _, h => by simp at h
  | _, _ :: _, [], _, _, h => by simp at h
theorem wsI_sublist {a b : List Ins} (h : a.Sublist b) : (wsI a).sum ≤ (wsI b).sum := by
  unfold wsI
  induction h with
  | slnil => exact Nat.le_refl _
  | cons x _ ih => simp only [List.map_cons, List.sum_cons]; omega
  | cons_cons x _ ih => simp only [List.map_cons, List.sum_cons]; omega
theorem len_sum (is : List Ins) : is.length ≤ (wsI is).sum := by
  unfold wsI
  induction is with
  | nil => simp
  | cons x r ih =>
    have : 1 ≤ wd x := by unfold wd; split <;> omega
    simp only [List.map_cons, List.sum_cons, List.length_cons]
    omega
theorem body_sum (text : List Ins) (f : Fn) : (wsI (body text f)).sum ≤ (wsI text).sum :=
  wsI_sublist ((List.take_sublist _ _).trans (List.drop_sublist _ _))
theorem xRows0 (H : AH) (id ver n sz : Nat) : xRows H sz (.sl id ver 0 n sz) = (AH.rd H id ver).bind fun cs => if n * sz ≤ cs.length then some (n, cs.take (n * sz)) else none := by
  simp [xRows]
def TidyOut (h : AH) (im : Img) (r : AV) (h' : AH) : Prop :=
  (¬ VOk (tabsB 0) im ∧ ∃ (e : Int) (g : AH), e ≠ 0 ∧ h' = h ++ g ∧ r = .tup [.agg [nilS, nilS, nilS, VI 0], VI e]) ∨
  (VOk (tabsB 0) im ∧ ∃ (bs : List (List Ins)) (g : AH) (a va b vb c vc : Nat), TidyOf im ⟨bs.flatten, laidFs 0 im.funcs bs, im.tables, im.entry⟩ bs ∧ h' = h ++ g ∧
    r = .tup [.agg [.sl a va 0 bs.flatten.length 5, .sl b vb 0 (laidFs 0 im.funcs bs).length 4, .sl c vc 0 im.tables.length 5, VI im.entry], VI 0] ∧
    Rows Ins.row 5 (h ++ g) (.sl a va 0 bs.flatten.length 5) bs.flatten ∧ Rows Fn.row 4 (h ++ g) (.sl b vb 0 (laidFs 0 im.funcs bs).length 4) (laidFs 0 im.funcs bs) ∧ Rows Tab.row 5 (h ++ g) (.sl c vc 0 im.tables.length 5) im.tables)
def OutM (L : Nat) (ot ov : AV) (bs : List (List Ins)) (fs : List Fn) (G : AH) : Prop :=
  (bs = [] ∧ ot = nilS ∧ ov = nilS ∧ fs = [] ∧ G = []) ∨ ∃ g1 vt g2 vf g3, G = g1 ++ AO.cells vt (bs.flatten.flatMap Ins.row) :: (g2 ++ AO.cells vf (fs.flatMap Fn.row) :: g3) ∧
    ot = .sl (L + (g1.length + 1 + 1 + 1 + 1)) vt 0 bs.flatten.length 5 ∧ ov = .sl (L + (g1.length + (g2.length + 1) + 1 + 1 + 1 + 1)) vf 0 fs.length 4
set_option maxRecDepth 100000 in
set_option maxHeartbeats 4000000 in
theorem c23 (hO : On cx) {h : AH} {im : Img} {tv fv : AV} {c0 vc0 : Nat} (hr : ImgR h tv fv (.sl c0 vc0 0 im.tables.length 5) im) (hb : Rows Tab.row 5 h (.sl c0 vc0 0 im.tables.length 5) im.tables) :
    SimCall cx 23 [.agg [tv, fv, .sl c0 vc0 0 im.tables.length 5, VI im.entry]] h (TidyOut h im) := by
  have c1 := hr.text.cell
  have c2 := hr.funcs.cell
  have hnf := hr.nf
  have hnt := hr.nt
  refine SimCall.by hO.P res23 ?_
  unfold x23 r23
  repeat' first
    | simp (maxSteps := 1000000) only [go_sem, c1, c2]
  refine (c34 hO (hr.more _)).mono ?_
  rintro r h' ⟨rfl, q1, q2, e0, rfl, he0⟩
  repeat' first
    | ((with_reducible show wx _ (XCode.cond _ _ _) _ _); refine wx_if rfl (fun _ => ?_) (fun _ => ?_))
    | ((with_reducible show dK _ 69 _ _ _); refine dK_app _ _ (c69 hO (fun g => by first | exact hb.rows _ | (rw [List.append_assoc]; exact hb.rows _)) hnt) ?_)
    | simp (maxSteps := 1000000) only [go_sem, c1, c2, hr.funcs.len]
  · rename_i e
    simp at e
    exact .inl ⟨fun hv => e (he0.2 hv), e0, _, e, rfl, rfl⟩
  rename_i e
  have hv : VOk (tabsB 0) im := he0.1 (by simpa using e)
  have hok := hv.img
  have hfs := funcsB_mem _ _ 0 (by omega) hok.funcs
  have hnf2 := hok.nf
  have hNN : 0 < im.funcs.length := by have := hok.entry; omega
  refine SimLoop.inv [1, 0, 4, 20, 0, 0] (fun k s => ∃ (i : Nat) (bs : List (List Ins)) (ot ov : AV) (G : AH), k = im.funcs.length - i ∧ i ≤ im.funcs.length ∧ bs.length = i ∧ OutM h.length ot ov bs (laidFs 0 (im.funcs.take i) bs) G ∧
      (∀ (k : Nat) f b, im.funcs[k]? = some f → bs[k]? = some b → Made im.funcs.length im.tables.length (body im.text f) b) ∧ bs.flatten.length ≤ i * 1048576 ∧
    s = ⟨[.un, .ptr h.length 0 0, .ptr (h.length + 1) 0 0, .un, .un, .un, .un, .ptr (h.length + 2) 0 0, .un, .un, .un, .un, .un, .un, .un, .un, .un, .un, .un, .un, .un, .un, .un, .un, .un, .un, .un, .un, fv, VI im.funcs.length, VI i, .un, .un, .un, .un, .un, .un, .un, .un, .un, .un, .un, .un, .un, .un, .un, .un, .un, .un, .un, .un, .un, .un, .un, .un, .un, .un, .un, .un, .un, .un, .un, .un, .un, .un],
      h ++ (.cells 0 [tv, fv, .sl c0 vc0 0 im.tables.length 5, VI im.entry] :: .cells 0 [nilS, nilS, nilS, VI 0] :: .cells 0 [ot, ov, .sl (h.length + 3) (cpV im.tables.length) 0 im.tables.length 5, VI im.entry] :: .cells (cpV im.tables.length) (im.tables.flatMap Tab.row) :: G)⟩) ?_ im.funcs.length ?_
  rotate_left
  · exact ⟨0, [], _, _, [], rfl, Nat.zero_le _, rfl, .inl ⟨rfl, rfl, rfl, rfl, rfl⟩, fun k f b _ hb => by simp at hb, by simp, by simp only [go_sem]; rfl⟩
  rintro k s ⟨i, bs, ot, ov, G, rfl, hi, hbl, hout, hmade, hlen, rfl⟩
  by_cases hlt : i < im.funcs.length
  · obtain ⟨q, hq1, hq2, hq3, _⟩ := hr.funcs.get Fn.len (by decide) (List.getElem?_eq_getElem hlt)
    have hlt' : ((i : Int) < im.funcs.length) := by omega
    have hw := wrap_succ hlt (by omega)
    have hfi := List.getElem?_eq_getElem hlt
    have htki : im.funcs.take (i + 1) = im.funcs.take i ++ [im.funcs[i]] := List.take_succ_eq_append_getElem hlt
    obtain ⟨e1, e2, e3⟩ := hfs _ (List.getElem_mem hlt)
    have hbody := hv.bodies _ (List.getElem_mem hlt)
    generalize im.funcs[i] = f at hq1 hq2 hq3 hfi e1 e2 e3 htki hbody
    obtain ⟨bodyv, hs1, hs2⟩ := hr.text.sls (a := f.first) (b := f.first + f.count) Ins.len e1 (by omega) e3
    have hbe : (im.text.drop f.first.toNat).take ((f.first + f.count).toNat - f.first.toNat) = body im.text f := by
      unfold body
      congr 1
      omega
    rw [hbe] at hs2
    have htlen := hr.len
    have hbl2 : (body im.text f).length ≤ im.text.length := by unfold body; simp; omega
    have hsum : (wsI (body im.text f)).sum ≤ 1048576 := Nat.le_trans (body_sum im.text f) hok.len
    have hbl3 := len_sum (body im.text f)
    have hw0 : IntKind.i64.wrap (f.first + f.count) = f.first + f.count := wrap_id (by omega) (by omega)
    have h70 := fun H : AH => c70 (cx := cx) hO (hs2.more H) (by omega) hbody (by omega)
    have hil : i < im.funcs.length := hlt
    have hfl : (laidFs 0 (im.funcs.take i) bs).length = i := by
      rw [laidFs_length 0 _ _ (by rw [List.length_take]; omega), List.length_take]
      omega
    have hsn := fun js => laidFs_snoc 0 (im.funcs.take i) bs f js (by rw [List.length_take]; omega)
    generalize hfs2 : laidFs 0 (im.funcs.take i) bs = fs at hout hfl hsn
    have hmk : ∀ js, Made im.funcs.length im.tables.length (body im.text f) js → ∀ (k : Nat) f' b, im.funcs[k]? = some f' → (bs ++ [js])[k]? = some b → Made im.funcs.length im.tables.length (body im.text f') b := by
      intro js hm k f' b hf' hb
      by_cases hk : k < bs.length
      · rw [List.getElem?_append_left hk] at hb
        exact hmade k f' b hf' hb
      · have hk2 := (List.getElem?_eq_some_iff.1 hb).1
        simp only [List.length_append, List.length_cons, List.length_nil] at hk2
        have : k = i := by omega
        subst this
        rw [hfi] at hf'
        cases hf'
        rw [List.getElem?_append_right (by omega), hbl] at hb
        simp at hb
        subst hb
        exact hm
    obtain ⟨fname, fobj, ffirst, fcount⟩ := f
    simp only at e1 e2 e3 hs1 hw0
    rcases hout with ⟨rfl, rfl, rfl, rfl, rfl⟩ | ⟨g1, vt, g2, vf, g3, rfl, rfl, rfl⟩
    · skip
      repeat' first
        | simp (maxSteps := 1000000) only [go_sem, hlt', hw, hq1, hq2, hq3, Fn.row, hs1, hw0, c1, c2]
      refine (h70 _).mono ?_
      rintro r h' ⟨js, hm, rfl, rfl⟩
      have hmw := hm.slots
      have hjl := len_sum js
      have hjn := hm.ok.ne
      have hjr := cells_len (f := Ins.row) (sz := 5) Ins.len js
      have hj1 : js.length * 5 ≤ (js.flatMap Ins.row).length := by omega
      have hj2 : (js.flatMap Ins.row).take (js.length * 5) = js.flatMap Ins.row := List.take_of_length_le (by omega)
      have hj0 : ¬ js.length = 0 := by omega
      have hj3 : js.length * 40 ≤ 140737488355328 := by omega
      repeat' first
        | simp (maxSteps := 1000000) only [go_sem, hj0, hj1, hj2, hj3, hw, xRows0, Option.bind_some]
      have hi0 : i = 0 := by simpa using hbl.symm
      refine ⟨im.funcs.length - (i + 1), by omega, i + 1, [js], _, _, _, rfl, by omega, by simp [hi0], ?_, hmk js hm, by simp; omega, rfl⟩
      have h2 := hsn js
      rw [List.nil_append] at h2
      rw [htki, h2]
      exact .inr ⟨[.cells 0 [AV.v (.string fname), VI fobj, VI ((0 : Nat) : Int), VI js.length], .cells 0 (js.flatMap Ins.row)], 0, [.cells 0 [AV.v (.string fname), VI fobj, VI ((0 : Nat) : Int), VI js.length]], 0, [], by simp [Fn.row], by simp, by simp⟩
    · skip
      have htr := cells_len (f := Ins.row) (sz := 5) Ins.len bs.flatten
      have hfr := cells_len (f := Fn.row) (sz := 4) Fn.len fs
      generalize hBB : bs.flatten = B at *
      have hbig : (B.length : Int) < 9223372036854775808 := by omega
      repeat' first
        | simp (maxSteps := 1000000) only [go_sem, hlt', hw, hq1, hq2, hq3, Fn.row, hs1, hw0, c1, c2]
      refine (h70 _).mono ?_
      rintro r h' ⟨js, hm, rfl, rfl⟩
      have hmw := hm.slots
      have hjl := len_sum js
      have hjn := hm.ok.ne
      have hjr := cells_len (f := Ins.row) (sz := 5) Ins.len js
      have hj1 : js.length * 5 ≤ (js.flatMap Ins.row).length := by omega
      have hj2 : (js.flatMap Ins.row).take (js.length * 5) = js.flatMap Ins.row := List.take_of_length_le (by omega)
      have hj0 : ¬ js.length = 0 := by omega
      have ht1 : ¬ (B.length + js.length) * 5 ≤ (B.flatMap Ins.row).length := by omega
      have ht2 : B.length * 5 ≤ (B.flatMap Ins.row).length := by omega
      have ht3 : (B.length + js.length) * 40 ≤ 140737488355328 := by omega
      have ht4 : (B.flatMap Ins.row).take (B.length * 5) = B.flatMap Ins.row := List.take_of_length_le (by omega)
      have hf1 : ¬ (fs.length + 1) * 4 ≤ (fs.flatMap Fn.row).length := by omega
      have hf2 : fs.length * 4 ≤ (fs.flatMap Fn.row).length := by omega
      have hf3 : (fs.length + 1) * 40 ≤ 140737488355328 := by omega
      have hf4 : (fs.flatMap Fn.row).take (fs.length * 4) = fs.flatMap Fn.row := List.take_of_length_le (by omega)
      repeat' first
        | simp (maxSteps := 1000000) only [go_sem, hj0, hj1, hj2, ht1, ht2, ht3, ht4, hf1, hf2, hf3, hf4, hw, xRows0, Option.bind_some]
      refine ⟨im.funcs.length - (i + 1), by omega, i + 1, bs ++ [js], _, _, _, rfl, by omega, by simp [hbl], ?_, hmk js hm, by simp [hBB]; omega, rfl⟩
      rw [htki, hsn js]
      exact .inr ⟨g1, vt + 1, g2, vf + 1, g3 ++ [.cells 0 [AV.v (.string fname), VI fobj, VI (B.length : Int), VI js.length], .cells 0 (js.flatMap Ins.row), .cells 0 [AV.v (.string fname), VI fobj, VI (B.length : Int), VI js.length]], by simp [Fn.row, hBB], by simp [hBB], by simp⟩
  · have hlt' : ¬ ((i : Int) < im.funcs.length) := by omega
    have hin : i = im.funcs.length := by omega
    rw [List.take_of_length_le (by omega)] at hout
    rcases hout with ⟨rfl, rfl, rfl, _, rfl⟩ | ⟨g1, vt, g2, vf, g3, rfl, rfl, rfl⟩
    · simp at hbl
      omega
    · skip
      repeat' first
        | simp (maxSteps := 1000000) only [go_sem, hlt']
      refine .inr ⟨hv, bs, _, _, _, _, _, _, _, ⟨by omega, hmade, rfl, rfl, rfl, rfl⟩, rfl, rfl, ?_, ?_, ?_⟩
      · exact Rows.whole Ins.len (fun g => by simp only [go_sem])
      · exact Rows.whole Fn.len (fun g => by simp only [go_sem])
      · exact Rows.whole Tab.len (fun g => by simp only [go_sem])
end Go.Tidy
namespace Go.Tidy
open Go Go.Eng Go.Proofs
variable {cx : Cx}
set_option maxRecDepth 100000 in
theorem c51 (hO : On cx) {h : AH} {v1 v2 : AV} {ts : List Tab} (h1 : SlT Tab.row 5 h v1 ts) (h2 : SlT Tab.row 5 h v2 ts) (hl : ts.length < 1099511627776) : SimCall cx 51 [v1, v2] h fun r h' => h' = h ∧ r = VB true := by
  refine SimCall.gc ?_
  refine SimCall.by hO.P res51 ?_
  unfold x51 r51
  repeat' first
    | ((with_reducible show wx _ (XCode.cond _ _ _) _ _); refine wx_if rfl (fun _ => ?_) (fun _ => ?_))
    | ((with_reducible show SemL _ _ _ _); refine SemL.of ?_)
    | ((with_reducible show SemD _ _ _ _ _); refine SemD.of ?_)
    | simp (maxSteps := 1000000) only [go_sem, h1.len, h2.len]
    | ((with_reducible show wl _ (XI.mk _ (some _) (XBody.op _) :: _) _ _); first | refine wl_optT rfl (fun e2 => by ((try simp only [Bool.and_eq_true] at e2); first | (simp (maxSteps := 1000000) only [e2, go_sem, h1.len, h2.len]; first | done | rfl))) ?_ | refine wl_optF rfl (fun e2 => by ((try simp only [Bool.and_eq_true] at e2); first | (simp (maxSteps := 1000000) only [e2, go_sem, h1.len, h2.len]; first | done | rfl))) ?_ | refine wl_opt2T rfl (fun e1 e2 => by ((try simp only [Bool.and_eq_true] at e1); first | (simp (maxSteps := 1000000) only [e1, e2, go_sem, h1.len, h2.len]; first | done | rfl))) ?_ | refine wl_opt2F rfl (fun e1 e2 => by ((try simp only [Bool.and_eq_true] at e1); first | (simp (maxSteps := 1000000) only [e1, e2, go_sem, h1.len, h2.len]; first | done | rfl))) ?_)
    | ((with_reducible show wds _ _ (DI.i (XI.mk _ (some _) (XBody.op _)) :: _) _ _); first | refine wds_optT rfl (fun e2 => by ((try simp only [Bool.and_eq_true] at e2); first | (simp (maxSteps := 1000000) only [e2, go_sem, h1.len, h2.len]; first | done | rfl))) ?_ | refine wds_optF rfl (fun e2 => by ((try simp only [Bool.and_eq_true] at e2); first | (simp (maxSteps := 1000000) only [e2, go_sem, h1.len, h2.len]; first | done | rfl))) ?_ | refine wds_opt2T rfl (fun e1 e2 => by ((try simp only [Bool.and_eq_true] at e1); first | (simp (maxSteps := 1000000) only [e1, e2, go_sem, h1.len, h2.len]; first | done | rfl))) ?_ | refine wds_opt2F rfl (fun e1 e2 => by ((try simp only [Bool.and_eq_true] at e1); first | (simp (maxSteps := 1000000) only [e1, e2, go_sem, h1.len, h2.len]; first | done | rfl))) ?_)
    | ((with_reducible show wl _ (XI.mk _ (some _) _ :: _) _ _); first | ((refine wl_ifT rfl (fun e => ?_) (fun e => ?_)) <;> first | rw [e] | skip) | ((refine wl_ifF rfl (fun e => ?_) (fun e => ?_)) <;> first | rw [e] | skip))
    | ((with_reducible show wds _ _ (DI.i (XI.mk _ (some _) _) :: _) _ _); first | ((refine wds_ifT rfl (fun e => ?_) (fun e => ?_)) <;> first | rw [e] | skip) | ((refine wds_ifF rfl (fun e => ?_) (fun e => ?_)) <;> first | rw [e] | skip))
  refine SimLoop.inv [0, 0, 3] (fun k s => ∃ (i : Nat), k = ts.length - i ∧ i ≤ ts.length ∧ s = ⟨[v1, v2, .un, .un, .un, VI i, .un, .un, .un, .un, .un, .un, .un, .un, .un, .un, .un, .un, .un, .un, .un, .un, .un, .un, .un, .un], h⟩) ?_ ts.length ?_
  rotate_left
  · exact ⟨0, rfl, Nat.zero_le _, by simp only [go_sem]; rfl⟩
  rintro k s ⟨i, rfl, hi, rfl⟩
  by_cases hlt : i < ts.length
  · have hlt' : ((i : Int) < ts.length) := by omega
    have hw := wrap_succ hlt (by omega)
    obtain ⟨p, hp1, hp2, hp3, _⟩ := h1.get Tab.len (by decide) (List.getElem?_eq_getElem hlt)
    obtain ⟨q, hq1, hq2, hq3, _⟩ := h2.get Tab.len (by decide) (List.getElem?_eq_getElem hlt)
    generalize ts[i] = t at *
    obtain ⟨name, kind, key, value, entries⟩ := t
    have hxe : xEq ⟨true, [2, 1, 1, 1, 1]⟩ (.agg [.v (.string name), VI kind, VI key, VI value, VI entries]) (.agg [.v (.string name), VI kind, VI key, VI value, VI entries]) = some true := by
      simp [xEq, xEqs, sameOne]
    repeat' first
      | ((with_reducible show wx _ (XCode.cond _ _ _) _ _); refine wx_if rfl (fun _ => ?_) (fun _ => ?_))
      | ((with_reducible show SemL _ _ _ _); refine SemL.of ?_)
      | ((with_reducible show SemD _ _ _ _ _); refine SemD.of ?_)
      | simp (maxSteps := 1000000) only [go_sem, h1.len, h2.len, hlt', hw, hp1, hp2, hp3, hq1, hq2, hq3, Tab.row, hxe]
      | ((with_reducible show wl _ (XI.mk _ (some _) (XBody.op _) :: _) _ _); first | refine wl_optT rfl (fun e2 => by ((try simp only [Bool.and_eq_true] at e2); first | (simp (maxSteps := 1000000) only [e2, go_sem, h1.len, h2.len, hlt', hw, hp1, hp2, hp3, hq1, hq2, hq3, Tab.row, hxe]; first | done | rfl))) ?_ | refine wl_optF rfl (fun e2 => by ((try simp only [Bool.and_eq_true] at e2); first | (simp (maxSteps := 1000000) only [e2, go_sem, h1.len, h2.len, hlt', hw, hp1, hp2, hp3, hq1, hq2, hq3, Tab.row, hxe]; first | done | rfl))) ?_ | refine wl_opt2T rfl (fun e1 e2 => by ((try simp only [Bool.and_eq_true] at e1); first | (simp (maxSteps := 1000000) only [e1, e2, go_sem, h1.len, h2.len, hlt', hw, hp1, hp2, hp3, hq1, hq2, hq3, Tab.row, hxe]; first | done | rfl))) ?_ | refine wl_opt2F rfl (fun e1 e2 => by ((try simp only [Bool.and_eq_true] at e1); first | (simp (maxSteps := 1000000) only [e1, e2, go_sem, h1.len, h2.len, hlt', hw, hp1, hp2, hp3, hq1, hq2, hq3, Tab.row, hxe]; first | done | rfl))) ?_)
      | ((with_reducible show wds _ _ (DI.i (XI.mk _ (some _) (XBody.op _)) :: _) _ _); first | refine wds_optT rfl (fun e2 => by ((try simp only [Bool.and_eq_true] at e2); first | (simp (maxSteps := 1000000) only [e2, go_sem, h1.len, h2.len, hlt', hw, hp1, hp2, hp3, hq1, hq2, hq3, Tab.row, hxe]; first | done | rfl))) ?_ | refine wds_optF rfl (fun e2 => by ((try simp only [Bool.and_eq_true] at e2); first | (simp (maxSteps := 1000000) only [e2, go_sem, h1.len, h2.len, hlt', hw, hp1, hp2, hp3, hq1, hq2, hq3, Tab.row, hxe]; first | done | rfl))) ?_ | refine wds_opt2T rfl (fun e1 e2 => by ((try simp only [Bool.and_eq_true] at e1); first | (simp (maxSteps := 1000000) only [e1, e2, go_sem, h1.len, h2.len, hlt', hw, hp1, hp2, hp3, hq1, hq2, hq3, Tab.row, hxe]; first | done | rfl))) ?_ | refine wds_opt2F rfl (fun e1 e2 => by ((try simp only [Bool.and_eq_true] at e1); first | (simp (maxSteps := 1000000) only [e1, e2, go_sem, h1.len, h2.len, hlt', hw, hp1, hp2, hp3, hq1, hq2, hq3, Tab.row, hxe]; first | done | rfl))) ?_)
      | ((with_reducible show wl _ (XI.mk _ (some _) _ :: _) _ _); first | ((refine wl_ifT rfl (fun e => ?_) (fun e => ?_)) <;> first | rw [e] | skip) | ((refine wl_ifF rfl (fun e => ?_) (fun e => ?_)) <;> first | rw [e] | skip))
      | ((with_reducible show wds _ _ (DI.i (XI.mk _ (some _) _) :: _) _ _); first | ((refine wds_ifT rfl (fun e => ?_) (fun e => ?_)) <;> first | rw [e] | skip) | ((refine wds_ifF rfl (fun e => ?_) (fun e => ?_)) <;> first | rw [e] | skip))
    exact ⟨ts.length - (i + 1), by omega, i + 1, rfl, by omega, rfl⟩
  · have hlt' : ¬ ((i : Int) < ts.length) := by omega
    repeat' first
      | ((with_reducible show wx _ (XCode.cond _ _ _) _ _); refine wx_if rfl (fun _ => ?_) (fun _ => ?_))
      | ((with_reducible show SemL _ _ _ _); refine SemL.of ?_)
      | ((with_reducible show SemD _ _ _ _ _); refine SemD.of ?_)
      | simp (maxSteps := 1000000) only [go_sem, h1.len, h2.len, hlt']
      | ((with_reducible show wl _ (XI.mk _ (some _) (XBody.op _) :: _) _ _); first | refine wl_optT rfl (fun e2 => by ((try simp only [Bool.and_eq_true] at e2); first | (simp (maxSteps := 1000000) only [e2, go_sem, h1.len, h2.len, hlt']; first | done | rfl))) ?_ | refine wl_optF rfl (fun e2 => by ((try simp only [Bool.and_eq_true] at e2); first | (simp (maxSteps := 1000000) only [e2, go_sem, h1.len, h2.len, hlt']; first | done | rfl))) ?_ | refine wl_opt2T rfl (fun e1 e2 => by ((try simp only [Bool.and_eq_true] at e1); first | (simp (maxSteps := 1000000) only [e1, e2, go_sem, h1.len, h2.len, hlt']; first | done | rfl))) ?_ | refine wl_opt2F rfl (fun e1 e2 => by ((try simp only [Bool.and_eq_true] at e1); first | (simp (maxSteps := 1000000) only [e1, e2, go_sem, h1.len, h2.len, hlt']; first | done | rfl))) ?_)
      | ((with_reducible show wds _ _ (DI.i (XI.mk _ (some _) (XBody.op _)) :: _) _ _); first | refine wds_optT rfl (fun e2 => by ((try simp only [Bool.and_eq_true] at e2); first | (simp (maxSteps := 1000000) only [e2, go_sem, h1.len, h2.len, hlt']; first | done | rfl))) ?_ | refine wds_optF rfl (fun e2 => by ((try simp only [Bool.and_eq_true] at e2); first | (simp (maxSteps := 1000000) only [e2, go_sem, h1.len, h2.len, hlt']; first | done | rfl))) ?_ | refine wds_opt2T rfl (fun e1 e2 => by ((try simp only [Bool.and_eq_true] at e1); first | (simp (maxSteps := 1000000) only [e1, e2, go_sem, h1.len, h2.len, hlt']; first | done | rfl))) ?_ | refine wds_opt2F rfl (fun e1 e2 => by ((try simp only [Bool.and_eq_true] at e1); first | (simp (maxSteps := 1000000) only [e1, e2, go_sem, h1.len, h2.len, hlt']; first | done | rfl))) ?_)
      | ((with_reducible show wl _ (XI.mk _ (some _) _ :: _) _ _); first | ((refine wl_ifT rfl (fun e => ?_) (fun e => ?_)) <;> first | rw [e] | skip) | ((refine wl_ifF rfl (fun e => ?_) (fun e => ?_)) <;> first | rw [e] | skip))
      | ((with_reducible show wds _ _ (DI.i (XI.mk _ (some _) _) :: _) _ _); first | ((refine wds_ifT rfl (fun e => ?_) (fun e => ?_)) <;> first | rw [e] | skip) | ((refine wds_ifF rfl (fun e => ?_) (fun e => ?_)) <;> first | rw [e] | skip))
    all_goals first | exact ⟨more_one, plain_v _⟩ | exact ⟨more_nil, plain_v _⟩ | refine ⟨by first | exact more_one | exact more_nil, by first | exact plain_v _ | exact plain_tup (by simp [Plain.v]), ?_⟩
    all_goals try simp only [decide_eq_true_eq, decide_eq_false_iff_not, Bool.not_eq_true', Bool.not_eq_false', AV.v.injEq, AV.tup.injEq, List.cons.injEq, Value.int.injEq, Value.bool.injEq, true_and, and_true] at *
    all_goals (try simp only [band] at *)
    all_goals (try simp_all)
    all_goals grind
theorem c29 (hO : On cx) {h : AH} {im : Img} {tv fv bv bodyv : AV} (hr : ImgR h tv fv bv im) {k : Nat} {f : Fn} (hf : im.funcs[k]? = some f) (h0 : 0 ≤ f.first) (h1 : 1 ≤ f.count) (h2 : f.first + f.count ≤ im.text.length)
    (hs1 : xSls 5 tv (some (VI f.first)) (some (VI (f.first + f.count))) = some bodyv) :
    SimCall cx 29 [.agg [tv, fv, bv, VI im.entry], VI k] h fun r h' => r = bodyv ∧ h' = h ++ [.cells 0 [tv, fv, bv, VI im.entry]] := by
  have c1 := hr.text.cell
  have c2 := hr.funcs.cell
  have c3 := hr.tables.cell
  have hlen := hr.len
  have hw0 : IntKind.i64.wrap (f.first + f.count) = f.first + f.count := wrap_id (by omega) (by omega)
  obtain ⟨q, hq1, hq2, hq3, hq4⟩ := hr.funcs.get Fn.len (by decide) hf
  obtain ⟨q1, ha1, ha2, ha3⟩ := hq4 2 _ rfl
  obtain ⟨q2, hb1, hb2, hb3⟩ := hq4 3 _ rfl
  refine SimCall.by hO.P res29 ?_
  unfold x29 r29
  repeat' first
    | ((with_reducible show wx _ (XCode.cond _ _ _) _ _); refine wx_if rfl (fun _ => ?_) (fun _ => ?_))
    | ((with_reducible show SemL _ _ _ _); refine SemL.of ?_)
    | ((with_reducible show SemD _ _ _ _ _); refine SemD.of ?_)
    | simp (maxSteps := 1000000) only [go_sem, c1, c2, c3, hq1, hq2, hq3, ha1, ha2, ha3, hb1, hb2, hb3, hs1, hw0]
    | ((with_reducible show wl _ (XI.mk _ (some _) (XBody.op _) :: _) _ _); first | refine wl_optT rfl (fun e2 => by ((try simp only [Bool.and_eq_true] at e2); first | (simp (maxSteps := 1000000) only [e2, go_sem, c1, c2, c3, hq1, hq2, hq3, ha1, ha2, ha3, hb1, hb2, hb3, hs1, hw0]; first | done | rfl))) ?_ | refine wl_optF rfl (fun e2 => by ((try simp only [Bool.and_eq_true] at e2); first | (simp (maxSteps := 1000000) only [e2, go_sem, c1, c2, c3, hq1, hq2, hq3, ha1, ha2, ha3, hb1, hb2, hb3, hs1, hw0]; first | done | rfl))) ?_ | refine wl_opt2T rfl (fun e1 e2 => by ((try simp only [Bool.and_eq_true] at e1); first | (simp (maxSteps := 1000000) only [e1, e2, go_sem, c1, c2, c3, hq1, hq2, hq3, ha1, ha2, ha3, hb1, hb2, hb3, hs1, hw0]; first | done | rfl))) ?_ | refine wl_opt2F rfl (fun e1 e2 => by ((try simp only [Bool.and_eq_true] at e1); first | (simp (maxSteps := 1000000) only [e1, e2, go_sem, c1, c2, c3, hq1, hq2, hq3, ha1, ha2, ha3, hb1, hb2, hb3, hs1, hw0]; first | done | rfl))) ?_)
    | ((with_reducible show wds _ _ (DI.i (XI.mk _ (some _) (XBody.op _)) :: _) _ _); first | refine wds_optT rfl (fun e2 => by ((try simp only [Bool.and_eq_true] at e2); first | (simp (maxSteps := 1000000) only [e2, go_sem, c1, c2, c3, hq1, hq2, hq3, ha1, ha2, ha3, hb1, hb2, hb3, hs1, hw0]; first | done | rfl))) ?_ | refine wds_optF rfl (fun e2 => by ((try simp only [Bool.and_eq_true] at e2); first | (simp (maxSteps := 1000000) only [e2, go_sem, c1, c2, c3, hq1, hq2, hq3, ha1, ha2, ha3, hb1, hb2, hb3, hs1, hw0]; first | done | rfl))) ?_ | refine wds_opt2T rfl (fun e1 e2 => by ((try simp only [Bool.and_eq_true] at e1); first | (simp (maxSteps := 1000000) only [e1, e2, go_sem, c1, c2, c3, hq1, hq2, hq3, ha1, ha2, ha3, hb1, hb2, hb3, hs1, hw0]; first | done | rfl))) ?_ | refine wds_opt2F rfl (fun e1 e2 => by ((try simp only [Bool.and_eq_true] at e1); first | (simp (maxSteps := 1000000) only [e1, e2, go_sem, c1, c2, c3, hq1, hq2, hq3, ha1, ha2, ha3, hb1, hb2, hb3, hs1, hw0]; first | done | rfl))) ?_)
    | ((with_reducible show wl _ (XI.mk _ (some _) _ :: _) _ _); first | ((refine wl_ifT rfl (fun e => ?_) (fun e => ?_)) <;> first | rw [e] | skip) | ((refine wl_ifF rfl (fun e => ?_) (fun e => ?_)) <;> first | rw [e] | skip))
    | ((with_reducible show wds _ _ (DI.i (XI.mk _ (some _) _) :: _) _ _); first | ((refine wds_ifT rfl (fun e => ?_) (fun e => ?_)) <;> first | rw [e] | skip) | ((refine wds_ifF rfl (fun e => ?_) (fun e => ?_)) <;> first | rw [e] | skip))
def OutN (L : Nat) (sv : AV) (xs : List Int) (g : AH) : Prop :=
  (xs = [] ∧ sv = nilS ∧ g = []) ∨ ∃ g1 g2 ver, g = g1 ++ AO.cells ver (xs.map VI) :: g2 ∧ sv = .sl (L + g1.length) ver 0 xs.length 1
set_option maxRecDepth 100000 in
set_option maxHeartbeats 2000000 in
theorem c30 (hO : On cx) {h : AH} {v : AV} {is : List Ins} (hv : SlIns h v is) (hl : is.length < 1099511627776) (hne : 0 < is.length) :
    SimCall cx 30 [v] h fun r h' => ∃ g, h' = h ++ g ∧ SlT fI 1 (h ++ g) r (placesN (wsI is) is.length) := by
  refine SimCall.by hO.P res30 ?_
  unfold x30 r30
  repeat' first
    | ((with_reducible show wx _ (XCode.cond _ _ _) _ _); refine wx_if rfl (fun _ => ?_) (fun _ => ?_))
    | ((with_reducible show SemL _ _ _ _); refine SemL.of ?_)
    | ((with_reducible show SemD _ _ _ _ _); refine SemD.of ?_)
    | simp (maxSteps := 1000000) only [go_sem, hv.len]
    | ((with_reducible show wl _ (XI.mk _ (some _) (XBody.op _) :: _) _ _); first | refine wl_optT rfl (fun e2 => by ((try simp only [Bool.and_eq_true] at e2); first | (simp (maxSteps := 1000000) only [e2, go_sem, hv.len]; first | done | rfl))) ?_ | refine wl_optF rfl (fun e2 => by ((try simp only [Bool.and_eq_true] at e2); first | (simp (maxSteps := 1000000) only [e2, go_sem, hv.len]; first | done | rfl))) ?_ | refine wl_opt2T rfl (fun e1 e2 => by ((try simp only [Bool.and_eq_true] at e1); first | (simp (maxSteps := 1000000) only [e1, e2, go_sem, hv.len]; first | done | rfl))) ?_ | refine wl_opt2F rfl (fun e1 e2 => by ((try simp only [Bool.and_eq_true] at e1); first | (simp (maxSteps := 1000000) only [e1, e2, go_sem, hv.len]; first | done | rfl))) ?_)
    | ((with_reducible show wds _ _ (DI.i (XI.mk _ (some _) (XBody.op _)) :: _) _ _); first | refine wds_optT rfl (fun e2 => by ((try simp only [Bool.and_eq_true] at e2); first | (simp (maxSteps := 1000000) only [e2, go_sem, hv.len]; first | done | rfl))) ?_ | refine wds_optF rfl (fun e2 => by ((try simp only [Bool.and_eq_true] at e2); first | (simp (maxSteps := 1000000) only [e2, go_sem, hv.len]; first | done | rfl))) ?_ | refine wds_opt2T rfl (fun e1 e2 => by ((try simp only [Bool.and_eq_true] at e1); first | (simp (maxSteps := 1000000) only [e1, e2, go_sem, hv.len]; first | done | rfl))) ?_ | refine wds_opt2F rfl (fun e1 e2 => by ((try simp only [Bool.and_eq_true] at e1); first | (simp (maxSteps := 1000000) only [e1, e2, go_sem, hv.len]; first | done | rfl))) ?_)
    | ((with_reducible show wl _ (XI.mk _ (some _) _ :: _) _ _); first | ((refine wl_ifT rfl (fun e => ?_) (fun e => ?_)) <;> first | rw [e] | skip) | ((refine wl_ifF rfl (fun e => ?_) (fun e => ?_)) <;> first | rw [e] | skip))
    | ((with_reducible show wds _ _ (DI.i (XI.mk _ (some _) _) :: _) _ _); first | ((refine wds_ifT rfl (fun e => ?_) (fun e => ?_)) <;> first | rw [e] | skip) | ((refine wds_ifF rfl (fun e => ?_) (fun e => ?_)) <;> first | rw [e] | skip))
  refine SimLoop.inv [0, 2, 0, 0] (fun k s => ∃ (i : Nat) (sv : AV) (g : AH), k = is.length - i ∧ i ≤ is.length ∧ OutN h.length sv (beginsN (wsI is) i) g ∧
    s = ⟨[v, .un, .un, sv, VI (psum (wsI is) i : Nat), VI i, .un, .un, .un, .un, .un, .un, .un, .un, .un, .un, .un, .un, .un, .un, .un, .un, .un, .un, .un, .un, .un, .un, .un, .un], h ++ g⟩) ?_ is.length ?_
  rotate_left
  · exact ⟨0, _, [], rfl, Nat.zero_le _, .inl ⟨rfl, rfl, rfl⟩, by simp only [go_sem]; rfl⟩
  rintro k s ⟨i, sv, g, rfl, hi, hout, rfl⟩
  have hbs := beginsN_succ (wsI is) i
  have hbl := beginsN_len (wsI is) i
  have hbi := psum_bound is i
  generalize beginsN (wsI is) i = xs at hout hbs hbl
  have hxl : (xs.map VI).length = i := by rw [List.length_map]; exact hbl
  have htk : (xs.map VI).take xs.length = xs.map VI := List.take_of_length_le (by omega)
  have hnle : ¬ xs.length + 1 ≤ (xs.map VI).length := by omega
  have hnle2 : xs.length ≤ (xs.map VI).length := by omega
  have hby : (xs.length + 1) * 8 ≤ 140737488355328 := by omega
  by_cases hlt : i < is.length
  · have hlt' : ((i : Int) < is.length) := by omega
    have hw := wrap_succ hlt (by omega)
    obtain ⟨p, hp1, hp2, hp3, hp4⟩ := hv.get Ins.len (by decide) (List.getElem?_eq_getElem hlt)
    have hps := psum_wsI (List.getElem?_eq_getElem hlt)
    generalize is[i] = x at hp1 hp2 hp3 hp4 hps
    obtain ⟨p0, hp5, hp6, hp7⟩ := hp4 0 _ rfl
    obtain ⟨op, dst, src, off, imm⟩ := x
    simp only at hp6 hp7
    have hw1 : IntKind.i64.wrap (((psum (wsI is) i : Nat) : Int) + 1) = ((psum (wsI is) i : Nat) : Int) + 1 := wrap_id (by omega) (by omega)
    have hw2 : IntKind.i64.wrap (((psum (wsI is) i : Nat) : Int) + 1 + 1) = ((psum (wsI is) i : Nat) : Int) + 1 + 1 := wrap_id (by omega) (by omega)
    have hwd : wd ⟨op, dst, src, off, imm⟩ = if op = 24 then 2 else 1 := rfl
    have hfin : ∀ (g : AH) (sv : AV) (m : Nat), psum (wsI is) (i + 1) = m → OutN h.length sv (xs ++ [(psum (wsI is) i : Int)]) g → ∃ k', k' < is.length - i ∧ ∃ (i_1 : Nat) (sv_1 : AV) (g_1 : AH), k' = is.length - i_1 ∧ i_1 ≤ is.length ∧ OutN h.length sv_1 (beginsN (wsI is) i_1) g_1 ∧
        (⟨[v, .un, .un, sv, VI (m : Nat), VI ((i + 1 : Nat) : Int), .un, .un, .un, .un, .un, .un, .un, .un, .un, .un, .un, .un, .un, .un, .un, .un, .un, .un, .un, .un, .un, .un, .un, .un], h ++ g⟩ : XSt) = ⟨[v, .un, .un, sv_1, VI (psum (wsI is) i_1 : Nat), VI i_1, .un, .un, .un, .un, .un, .un, .un, .un, .un, .un, .un, .un, .un, .un, .un, .un, .un, .un, .un, .un, .un, .un, .un, .un], h ++ g_1⟩ := by
      rintro g sv m rfl ho
      exact ⟨is.length - (i + 1), by omega, i + 1, sv, g, rfl, by omega, by rw [hbs]; exact ho, rfl⟩
    have he2 : ((psum (wsI is) i : Nat) : Int) + 1 + 1 = ((psum (wsI is) i + 2 : Nat) : Int) := by omega
    have he1 : ((psum (wsI is) i : Nat) : Int) + 1 = ((psum (wsI is) i + 1 : Nat) : Int) := by omega
    rcases hout with ⟨rfl, rfl, rfl⟩ | ⟨g1, g2, ver, rfl, rfl⟩
    · skip
      repeat' first
        | ((with_reducible show wx _ (XCode.cond _ _ _) _ _); refine wx_if rfl (fun _ => ?_) (fun _ => ?_))
        | ((with_reducible show SemL _ _ _ _); refine SemL.of ?_)
        | ((with_reducible show SemD _ _ _ _ _); refine SemD.of ?_)
        | simp (maxSteps := 1000000) only [go_sem, hv.len, hlt', hw, hp1, hp5, hp6, hp7, hw1, hw2, List.append_nil, xRows, Nat.mul_one, Nat.zero_add]
        | ((with_reducible show wl _ (XI.mk _ (some _) (XBody.op _) :: _) _ _); first | refine wl_optT rfl (fun e2 => by ((try simp only [Bool.and_eq_true] at e2); first | (simp (maxSteps := 1000000) only [e2, go_sem, hv.len, hlt', hw, hp1, hp5, hp6, hp7, hw1, hw2, List.append_nil, xRows, Nat.mul_one, Nat.zero_add]; first | done | rfl))) ?_ | refine wl_optF rfl (fun e2 => by ((try simp only [Bool.and_eq_true] at e2); first | (simp (maxSteps := 1000000) only [e2, go_sem, hv.len, hlt', hw, hp1, hp5, hp6, hp7, hw1, hw2, List.append_nil, xRows, Nat.mul_one, Nat.zero_add]; first | done | rfl))) ?_ | refine wl_opt2T rfl (fun e1 e2 => by ((try simp only [Bool.and_eq_true] at e1); first | (simp (maxSteps := 1000000) only [e1, e2, go_sem, hv.len, hlt', hw, hp1, hp5, hp6, hp7, hw1, hw2, List.append_nil, xRows, Nat.mul_one, Nat.zero_add]; first | done | rfl))) ?_ | refine wl_opt2F rfl (fun e1 e2 => by ((try simp only [Bool.and_eq_true] at e1); first | (simp (maxSteps := 1000000) only [e1, e2, go_sem, hv.len, hlt', hw, hp1, hp5, hp6, hp7, hw1, hw2, List.append_nil, xRows, Nat.mul_one, Nat.zero_add]; first | done | rfl))) ?_)
        | ((with_reducible show wds _ _ (DI.i (XI.mk _ (some _) (XBody.op _)) :: _) _ _); first | refine wds_optT rfl (fun e2 => by ((try simp only [Bool.and_eq_true] at e2); first | (simp (maxSteps := 1000000) only [e2, go_sem, hv.len, hlt', hw, hp1, hp5, hp6, hp7, hw1, hw2, List.append_nil, xRows, Nat.mul_one, Nat.zero_add]; first | done | rfl))) ?_ | refine wds_optF rfl (fun e2 => by ((try simp only [Bool.and_eq_true] at e2); first | (simp (maxSteps := 1000000) only [e2, go_sem, hv.len, hlt', hw, hp1, hp5, hp6, hp7, hw1, hw2, List.append_nil, xRows, Nat.mul_one, Nat.zero_add]; first | done | rfl))) ?_ | refine wds_opt2T rfl (fun e1 e2 => by ((try simp only [Bool.and_eq_true] at e1); first | (simp (maxSteps := 1000000) only [e1, e2, go_sem, hv.len, hlt', hw, hp1, hp5, hp6, hp7, hw1, hw2, List.append_nil, xRows, Nat.mul_one, Nat.zero_add]; first | done | rfl))) ?_ | refine wds_opt2F rfl (fun e1 e2 => by ((try simp only [Bool.and_eq_true] at e1); first | (simp (maxSteps := 1000000) only [e1, e2, go_sem, hv.len, hlt', hw, hp1, hp5, hp6, hp7, hw1, hw2, List.append_nil, xRows, Nat.mul_one, Nat.zero_add]; first | done | rfl))) ?_)
        | ((with_reducible show wl _ (XI.mk _ (some _) _ :: _) _ _); first | ((refine wl_ifT rfl (fun e => ?_) (fun e => ?_)) <;> first | rw [e] | skip) | ((refine wl_ifF rfl (fun e => ?_) (fun e => ?_)) <;> first | rw [e] | skip))
        | ((with_reducible show wds _ _ (DI.i (XI.mk _ (some _) _) :: _) _ _); first | ((refine wds_ifT rfl (fun e => ?_) (fun e => ?_)) <;> first | rw [e] | skip) | ((refine wds_ifF rfl (fun e => ?_) (fun e => ?_)) <;> first | rw [e] | skip))
      · rename_i e
        rw [he2]
        exact hfin _ _ _ (by rw [hps, hwd, if_pos (by simpa using e)]) (.inr ⟨[.cells 0 [VI (psum (wsI is) i : Nat)]], [], 0, rfl, rfl⟩)
      · rename_i e
        rw [he1]
        exact hfin _ _ _ (by rw [hps, hwd, if_neg (by simpa using e)]) (.inr ⟨[.cells 0 [VI (psum (wsI is) i : Nat)]], [], 0, rfl, rfl⟩)
    · skip
      repeat' first
        | ((with_reducible show wx _ (XCode.cond _ _ _) _ _); refine wx_if rfl (fun _ => ?_) (fun _ => ?_))
        | ((with_reducible show SemL _ _ _ _); refine SemL.of ?_)
        | ((with_reducible show SemD _ _ _ _ _); refine SemD.of ?_)
        | simp (maxSteps := 1000000) only [go_sem, hv.len, hlt', hw, hp1, hp5, hp6, hp7, hw1, hw2, htk, hnle, hnle2, hby, xRows, Nat.mul_one, Nat.zero_add]
        | ((with_reducible show wl _ (XI.mk _ (some _) (XBody.op _) :: _) _ _); first | refine wl_optT rfl (fun e2 => by ((try simp only [Bool.and_eq_true] at e2); first | (simp (maxSteps := 1000000) only [e2, go_sem, hv.len, hlt', hw, hp1, hp5, hp6, hp7, hw1, hw2, htk, hnle, hnle2, hby, xRows, Nat.mul_one, Nat.zero_add]; first | done | rfl))) ?_ | refine wl_optF rfl (fun e2 => by ((try simp only [Bool.and_eq_true] at e2); first | (simp (maxSteps := 1000000) only [e2, go_sem, hv.len, hlt', hw, hp1, hp5, hp6, hp7, hw1, hw2, htk, hnle, hnle2, hby, xRows, Nat.mul_one, Nat.zero_add]; first | done | rfl))) ?_ | refine wl_opt2T rfl (fun e1 e2 => by ((try simp only [Bool.and_eq_true] at e1); first | (simp (maxSteps := 1000000) only [e1, e2, go_sem, hv.len, hlt', hw, hp1, hp5, hp6, hp7, hw1, hw2, htk, hnle, hnle2, hby, xRows, Nat.mul_one, Nat.zero_add]; first | done | rfl))) ?_ | refine wl_opt2F rfl (fun e1 e2 => by ((try simp only [Bool.and_eq_true] at e1); first | (simp (maxSteps := 1000000) only [e1, e2, go_sem, hv.len, hlt', hw, hp1, hp5, hp6, hp7, hw1, hw2, htk, hnle, hnle2, hby, xRows, Nat.mul_one, Nat.zero_add]; first | done | rfl))) ?_)
        | ((with_reducible show wds _ _ (DI.i (XI.mk _ (some _) (XBody.op _)) :: _) _ _); first | refine wds_optT rfl (fun e2 => by ((try simp only [Bool.and_eq_true] at e2); first | (simp (maxSteps := 1000000) only [e2, go_sem, hv.len, hlt', hw, hp1, hp5, hp6, hp7, hw1, hw2, htk, hnle, hnle2, hby, xRows, Nat.mul_one, Nat.zero_add]; first | done | rfl))) ?_ | refine wds_optF rfl (fun e2 => by ((try simp only [Bool.and_eq_true] at e2); first | (simp (maxSteps := 1000000) only [e2, go_sem, hv.len, hlt', hw, hp1, hp5, hp6, hp7, hw1, hw2, htk, hnle, hnle2, hby, xRows, Nat.mul_one, Nat.zero_add]; first | done | rfl))) ?_ | refine wds_opt2T rfl (fun e1 e2 => by ((try simp only [Bool.and_eq_true] at e1); first | (simp (maxSteps := 1000000) only [e1, e2, go_sem, hv.len, hlt', hw, hp1, hp5, hp6, hp7, hw1, hw2, htk, hnle, hnle2, hby, xRows, Nat.mul_one, Nat.zero_add]; first | done | rfl))) ?_ | refine wds_opt2F rfl (fun e1 e2 => by ((try simp only [Bool.and_eq_true] at e1); first | (simp (maxSteps := 1000000) only [e1, e2, go_sem, hv.len, hlt', hw, hp1, hp5, hp6, hp7, hw1, hw2, htk, hnle, hnle2, hby, xRows, Nat.mul_one, Nat.zero_add]; first | done | rfl))) ?_)
        | ((with_reducible show wl _ (XI.mk _ (some _) _ :: _) _ _); first | ((refine wl_ifT rfl (fun e => ?_) (fun e => ?_)) <;> first | rw [e] | skip) | ((refine wl_ifF rfl (fun e => ?_) (fun e => ?_)) <;> first | rw [e] | skip))
        | ((with_reducible show wds _ _ (DI.i (XI.mk _ (some _) _) :: _) _ _); first | ((refine wds_ifT rfl (fun e => ?_) (fun e => ?_)) <;> first | rw [e] | skip) | ((refine wds_ifF rfl (fun e => ?_) (fun e => ?_)) <;> first | rw [e] | skip))
      · rename_i e
        rw [he2]
        exact hfin _ _ _ (by rw [hps, hwd, if_pos (by simpa using e)]) (.inr ⟨g1, g2 ++ [.cells 0 [VI (psum (wsI is) i : Nat)]], ver + 1, by simp, by simp⟩)
      · rename_i e
        rw [he1]
        exact hfin _ _ _ (by rw [hps, hwd, if_neg (by simpa using e)]) (.inr ⟨g1, g2 ++ [.cells 0 [VI (psum (wsI is) i : Nat)]], ver + 1, by simp, by simp⟩)
  · have hlt' : ¬ ((i : Int) < is.length) := by omega
    have hin : i = is.length := by omega
    subst hin
    rcases hout with ⟨rfl, rfl, rfl⟩ | ⟨g1, g2, ver, rfl, rfl⟩
    · simp at hbl
      omega
    · skip
      repeat' first
        | ((with_reducible show wx _ (XCode.cond _ _ _) _ _); refine wx_if rfl (fun _ => ?_) (fun _ => ?_))
        | ((with_reducible show SemL _ _ _ _); refine SemL.of ?_)
        | ((with_reducible show SemD _ _ _ _ _); refine SemD.of ?_)
        | simp (maxSteps := 1000000) only [go_sem, hv.len, hlt', htk, hnle, hnle2, hby, xRows, Nat.mul_one, Nat.zero_add]
        | ((with_reducible show wl _ (XI.mk _ (some _) (XBody.op _) :: _) _ _); first | refine wl_optT rfl (fun e2 => by ((try simp only [Bool.and_eq_true] at e2); first | (simp (maxSteps := 1000000) only [e2, go_sem, hv.len, hlt', htk, hnle, hnle2, hby, xRows, Nat.mul_one, Nat.zero_add]; first | done | rfl))) ?_ | refine wl_optF rfl (fun e2 => by ((try simp only [Bool.and_eq_true] at e2); first | (simp (maxSteps := 1000000) only [e2, go_sem, hv.len, hlt', htk, hnle, hnle2, hby, xRows, Nat.mul_one, Nat.zero_add]; first | done | rfl))) ?_ | refine wl_opt2T rfl (fun e1 e2 => by ((try simp only [Bool.and_eq_true] at e1); first | (simp (maxSteps := 1000000) only [e1, e2, go_sem, hv.len, hlt', htk, hnle, hnle2, hby, xRows, Nat.mul_one, Nat.zero_add]; first | done | rfl))) ?_ | refine wl_opt2F rfl (fun e1 e2 => by ((try simp only [Bool.and_eq_true] at e1); first | (simp (maxSteps := 1000000) only [e1, e2, go_sem, hv.len, hlt', htk, hnle, hnle2, hby, xRows, Nat.mul_one, Nat.zero_add]; first | done | rfl))) ?_)
        | ((with_reducible show wds _ _ (DI.i (XI.mk _ (some _) (XBody.op _)) :: _) _ _); first | refine wds_optT rfl (fun e2 => by ((try simp only [Bool.and_eq_true] at e2); first | (simp (maxSteps := 1000000) only [e2, go_sem, hv.len, hlt', htk, hnle, hnle2, hby, xRows, Nat.mul_one, Nat.zero_add]; first | done | rfl))) ?_ | refine wds_optF rfl (fun e2 => by ((try simp only [Bool.and_eq_true] at e2); first | (simp (maxSteps := 1000000) only [e2, go_sem, hv.len, hlt', htk, hnle, hnle2, hby, xRows, Nat.mul_one, Nat.zero_add]; first | done | rfl))) ?_ | refine wds_opt2T rfl (fun e1 e2 => by ((try simp only [Bool.and_eq_true] at e1); first | (simp (maxSteps := 1000000) only [e1, e2, go_sem, hv.len, hlt', htk, hnle, hnle2, hby, xRows, Nat.mul_one, Nat.zero_add]; first | done | rfl))) ?_ | refine wds_opt2F rfl (fun e1 e2 => by ((try simp only [Bool.and_eq_true] at e1); first | (simp (maxSteps := 1000000) only [e1, e2, go_sem, hv.len, hlt', htk, hnle, hnle2, hby, xRows, Nat.mul_one, Nat.zero_add]; first | done | rfl))) ?_)
        | ((with_reducible show wl _ (XI.mk _ (some _) _ :: _) _ _); first | ((refine wl_ifT rfl (fun e => ?_) (fun e => ?_)) <;> first | rw [e] | skip) | ((refine wl_ifF rfl (fun e => ?_) (fun e => ?_)) <;> first | rw [e] | skip))
        | ((with_reducible show wds _ _ (DI.i (XI.mk _ (some _) _) :: _) _ _); first | ((refine wds_ifT rfl (fun e => ?_) (fun e => ?_)) <;> first | rw [e] | skip) | ((refine wds_ifF rfl (fun e => ?_) (fun e => ?_)) <;> first | rw [e] | skip))
      have e : placesN (wsI is) is.length = xs ++ [((psum (wsI is) is.length : Nat) : Int)] := hbs
      rw [e]
      refine ⟨_, rfl, ?_⟩
      have hl2 : xs.length + 1 = (xs ++ [((psum (wsI is) is.length : Nat) : Int)]).length := by simp
      rw [hl2]
      refine SlT.whole (f := fI) (l := (xs ++ [((psum (wsI is) is.length : Nat) : Int)]).map VI) (fun g => ?_) fI_len (flat_fI _).symm
      simp only [go_sem]
      simp
set_option maxRecDepth 100000 in
theorem c72 (hO : On cx) {h : AH} {v : AV} {is : List Ins} (hv : SlIns h v is) (hl : is.length < 1099511627776) (hne : 0 < is.length) :
    SimCall cx 72 [v] h fun r h' => h' = h ∧ r = VI ((wsI is).sum : Nat) := by
  refine SimCall.gc ?_
  refine SimCall.by hO.P res72 ?_
  unfold x72 r72
  repeat' first
    | ((with_reducible show wx _ (XCode.cond _ _ _) _ _); refine wx_if rfl (fun _ => ?_) (fun _ => ?_))
    | ((with_reducible show SemL _ _ _ _); refine SemL.of ?_)
    | ((with_reducible show SemD _ _ _ _ _); refine SemD.of ?_)
    | simp (maxSteps := 1000000) only [go_sem, hv.len]
    | ((with_reducible show wl _ (XI.mk _ (some _) (XBody.op _) :: _) _ _); first | refine wl_optT rfl (fun e2 => by ((try simp only [Bool.and_eq_true] at e2); first | (simp (maxSteps := 1000000) only [e2, go_sem, hv.len]; first | done | rfl))) ?_ | refine wl_optF rfl (fun e2 => by ((try simp only [Bool.and_eq_true] at e2); first | (simp (maxSteps := 1000000) only [e2, go_sem, hv.len]; first | done | rfl))) ?_ | refine wl_opt2T rfl (fun e1 e2 => by ((try simp only [Bool.and_eq_true] at e1); first | (simp (maxSteps := 1000000) only [e1, e2, go_sem, hv.len]; first | done | rfl))) ?_ | refine wl_opt2F rfl (fun e1 e2 => by ((try simp only [Bool.and_eq_true] at e1); first | (simp (maxSteps := 1000000) only [e1, e2, go_sem, hv.len]; first | done | rfl))) ?_)
    | ((with_reducible show wds _ _ (DI.i (XI.mk _ (some _) (XBody.op _)) :: _) _ _); first | refine wds_optT rfl (fun e2 => by ((try simp only [Bool.and_eq_true] at e2); first | (simp (maxSteps := 1000000) only [e2, go_sem, hv.len]; first | done | rfl))) ?_ | refine wds_optF rfl (fun e2 => by ((try simp only [Bool.and_eq_true] at e2); first | (simp (maxSteps := 1000000) only [e2, go_sem, hv.len]; first | done | rfl))) ?_ | refine wds_opt2T rfl (fun e1 e2 => by ((try simp only [Bool.and_eq_true] at e1); first | (simp (maxSteps := 1000000) only [e1, e2, go_sem, hv.len]; first | done | rfl))) ?_ | refine wds_opt2F rfl (fun e1 e2 => by ((try simp only [Bool.and_eq_true] at e1); first | (simp (maxSteps := 1000000) only [e1, e2, go_sem, hv.len]; first | done | rfl))) ?_)
    | ((with_reducible show wl _ (XI.mk _ (some _) _ :: _) _ _); first | ((refine wl_ifT rfl (fun e => ?_) (fun e => ?_)) <;> first | rw [e] | skip) | ((refine wl_ifF rfl (fun e => ?_) (fun e => ?_)) <;> first | rw [e] | skip))
    | ((with_reducible show wds _ _ (DI.i (XI.mk _ (some _) _) :: _) _ _); first | ((refine wds_ifT rfl (fun e => ?_) (fun e => ?_)) <;> first | rw [e] | skip) | ((refine wds_ifF rfl (fun e => ?_) (fun e => ?_)) <;> first | rw [e] | skip))
  refine (c30 hO hv hl hne).mono ?_
  rintro r h' ⟨g, rfl, hs⟩
  obtain ⟨p, hp1, hp2⟩ := hs.toI.2 is.length _ (places_get (Nat.le_refl _))
  have hpa := psum_all (wsI is) (t := is.length) (by rw [show (wsI is).length = is.length by simp [wsI]]; exact Nat.le_refl _)
  repeat' first
    | ((with_reducible show wx _ (XCode.cond _ _ _) _ _); refine wx_if rfl (fun _ => ?_) (fun _ => ?_))
    | ((with_reducible show SemL _ _ _ _); refine SemL.of ?_)
    | ((with_reducible show SemD _ _ _ _ _); refine SemD.of ?_)
    | simp (maxSteps := 1000000) only [go_sem, hv.len, hp1, hp2]
    | ((with_reducible show wl _ (XI.mk _ (some _) (XBody.op _) :: _) _ _); first | refine wl_optT rfl (fun e2 => by ((try simp only [Bool.and_eq_true] at e2); first | (simp (maxSteps := 1000000) only [e2, go_sem, hv.len, hp1, hp2]; first | done | rfl))) ?_ | refine wl_optF rfl (fun e2 => by ((try simp only [Bool.and_eq_true] at e2); first | (simp (maxSteps := 1000000) only [e2, go_sem, hv.len, hp1, hp2]; first | done | rfl))) ?_ | refine wl_opt2T rfl (fun e1 e2 => by ((try simp only [Bool.and_eq_true] at e1); first | (simp (maxSteps := 1000000) only [e1, e2, go_sem, hv.len, hp1, hp2]; first | done | rfl))) ?_ | refine wl_opt2F rfl (fun e1 e2 => by ((try simp only [Bool.and_eq_true] at e1); first | (simp (maxSteps := 1000000) only [e1, e2, go_sem, hv.len, hp1, hp2]; first | done | rfl))) ?_)
    | ((with_reducible show wds _ _ (DI.i (XI.mk _ (some _) (XBody.op _)) :: _) _ _); first | refine wds_optT rfl (fun e2 => by ((try simp only [Bool.and_eq_true] at e2); first | (simp (maxSteps := 1000000) only [e2, go_sem, hv.len, hp1, hp2]; first | done | rfl))) ?_ | refine wds_optF rfl (fun e2 => by ((try simp only [Bool.and_eq_true] at e2); first | (simp (maxSteps := 1000000) only [e2, go_sem, hv.len, hp1, hp2]; first | done | rfl))) ?_ | refine wds_opt2T rfl (fun e1 e2 => by ((try simp only [Bool.and_eq_true] at e1); first | (simp (maxSteps := 1000000) only [e1, e2, go_sem, hv.len, hp1, hp2]; first | done | rfl))) ?_ | refine wds_opt2F rfl (fun e1 e2 => by ((try simp only [Bool.and_eq_true] at e1); first | (simp (maxSteps := 1000000) only [e1, e2, go_sem, hv.len, hp1, hp2]; first | done | rfl))) ?_)
    | ((with_reducible show wl _ (XI.mk _ (some _) _ :: _) _ _); first | ((refine wl_ifT rfl (fun e => ?_) (fun e => ?_)) <;> first | rw [e] | skip) | ((refine wl_ifF rfl (fun e => ?_) (fun e => ?_)) <;> first | rw [e] | skip))
    | ((with_reducible show wds _ _ (DI.i (XI.mk _ (some _) _) :: _) _ _); first | ((refine wds_ifT rfl (fun e => ?_) (fun e => ?_)) <;> first | rw [e] | skip) | ((refine wds_ifF rfl (fun e => ?_) (fun e => ?_)) <;> first | rw [e] | skip))
  rw [hpa]
  exact ⟨more_one, plain_v _, rfl⟩
end Go.Tidy
namespace Go.Tidy
open Go Go.Eng Go.Proofs
variable {cx : Cx}
theorem body_of {text : List Ins} {f : Fn} (h0 : 0 ≤ f.first) (h1 : 1 ≤ f.count) : (text.drop f.first.toNat).take ((f.first + f.count).toNat - f.first.toNat) = body text f := by
  unfold body
  congr 1
  omega
theorem SlT.loc {α : Type} {f : α → List AV} {sz : Nat} {h : AH} {v : AV} {xs : List α} (s : SlT f sz h v xs) {k : Nat} {p : AV} (hp : xIad sz v (VI k) = some p) : (∃ id ver off, p = .ptr id ver off ∧ id < h.length) ∨ ∃ cs, p = .rp cs := by
  cases s with
  | sl id ver off cs xs hrd hc =>
    have := hrd []
    rw [List.append_nil] at this
    have hlt := rd_lt this
    simp only [xIad] at hp
    split at hp
    · simp only [Option.some.injEq] at hp
      exact .inl ⟨_, _, _, hp.symm, hlt⟩
    · cases hp
  | ro fn xs hr =>
    simp only [xIad] at hp
    split at hp
    · simp only [Option.some.injEq] at hp
      exact .inr ⟨_, hp.symm⟩
    · cases hp
set_option maxRecDepth 100000 in
set_option maxHeartbeats 4000000 in
theorem c26 (hO : On cx) {h : AH} {im got : Img} {tv fv bv tv' fv' bv' : AV} (hr : ImgR h tv fv bv im) (hr' : ImgR h tv' fv' bv' got) (hk : KeptOf im got)
    (hf : ∀ f ∈ im.funcs, 0 ≤ f.first ∧ 1 ≤ f.count ∧ f.first + f.count ≤ im.text.length) (hg : funcsB got.text.length 0 got.funcs = true) :
    SimCall cx 26 [.agg [tv, fv, bv, VI im.entry], .agg [tv', fv', bv', VI got.entry]] h fun r h' => h' = h ∧ r = VB true := by
  have c1 := hr.text.cell
  have c2 := hr.funcs.cell
  have c3 := hr.tables.cell
  have c4 := hr'.text.cell
  have c5 := hr'.funcs.cell
  have c6 := hr'.tables.cell
  have hlen := hr.len
  have hlen' := hr'.len
  have hnf := hr.nf
  have hfl := hr'.funcs.len
  rw [hk.len] at hfl
  have hbt := hr'.tables
  rw [hk.tables] at hbt
  have hen := hk.entry
  have hgf := funcsB_mem _ _ 0 (by omega) hg
  refine SimCall.gc ?_
  refine SimCall.by hO.P res26 ?_
  unfold x26 r26
  repeat' first
    | ((with_reducible show wx _ (XCode.cond _ _ _) _ _); refine wx_if rfl (fun _ => ?_) (fun _ => ?_))
    | ((with_reducible show SemL _ _ _ _); refine SemL.of ?_)
    | ((with_reducible show SemD _ _ _ _ _); refine SemD.of ?_)
    | ((with_reducible show SimCall _ 51 _ _ _); refine (c51 hO (hbt.more _) (hr.tables.more _) hr.nt).mono ?_; rintro r h' ⟨rfl, rfl⟩)
    | ((with_reducible show dK _ 51 _ _ _); refine dK_of _ (c51 hO (hbt.more _) (hr.tables.more _) hr.nt) ?_)
    | simp (maxSteps := 1000000) only [go_sem, c1, c2, c3, c4, c5, c6, hr.funcs.len, hfl, hen]
    | ((with_reducible show wl _ (XI.mk _ (some _) (XBody.op _) :: _) _ _); first | refine wl_optT rfl (fun e2 => by ((try simp only [Bool.and_eq_true] at e2); first | (simp (maxSteps := 1000000) only [e2, go_sem, c1, c2, c3, c4, c5, c6, hr.funcs.len, hfl, hen]; first | done | rfl))) ?_ | refine wl_optF rfl (fun e2 => by ((try simp only [Bool.and_eq_true] at e2); first | (simp (maxSteps := 1000000) only [e2, go_sem, c1, c2, c3, c4, c5, c6, hr.funcs.len, hfl, hen]; first | done | rfl))) ?_ | refine wl_opt2T rfl (fun e1 e2 => by ((try simp only [Bool.and_eq_true] at e1); first | (simp (maxSteps := 1000000) only [e1, e2, go_sem, c1, c2, c3, c4, c5, c6, hr.funcs.len, hfl, hen]; first | done | rfl))) ?_ | refine wl_opt2F rfl (fun e1 e2 => by ((try simp only [Bool.and_eq_true] at e1); first | (simp (maxSteps := 1000000) only [e1, e2, go_sem, c1, c2, c3, c4, c5, c6, hr.funcs.len, hfl, hen]; first | done | rfl))) ?_)
    | ((with_reducible show wl _ (XI.mk _ (some _) (XBody.call (XO.f 51) _) :: _) _ _); first | refine wl_optcT rfl rfl (fun e2 => by simp (maxSteps := 1000000) only [e2, go_sem, c1, c2, c3, c4, c5, c6, hr.funcs.len, hfl, hen]; exact (c51 hO (hbt.more _) (hr.tables.more _) hr.nt)) ?_ | refine wl_optcF rfl rfl (fun e2 => by simp (maxSteps := 1000000) only [e2, go_sem, c1, c2, c3, c4, c5, c6, hr.funcs.len, hfl, hen]; exact (c51 hO (hbt.more _) (hr.tables.more _) hr.nt)) ?_ | refine wl_optc2T rfl rfl (fun e1 e2 => by simp (maxSteps := 1000000) only [e1, e2, go_sem, c1, c2, c3, c4, c5, c6, hr.funcs.len, hfl, hen]; exact (c51 hO (hbt.more _) (hr.tables.more _) hr.nt)) ?_ | refine wl_optc2F rfl rfl (fun e1 e2 => by simp (maxSteps := 1000000) only [e1, e2, go_sem, c1, c2, c3, c4, c5, c6, hr.funcs.len, hfl, hen]; exact (c51 hO (hbt.more _) (hr.tables.more _) hr.nt)) ?_)
    | ((with_reducible show wds _ _ (DI.i (XI.mk _ (some _) (XBody.op _)) :: _) _ _); first | refine wds_optT rfl (fun e2 => by ((try simp only [Bool.and_eq_true] at e2); first | (simp (maxSteps := 1000000) only [e2, go_sem, c1, c2, c3, c4, c5, c6, hr.funcs.len, hfl, hen]; first | done | rfl))) ?_ | refine wds_optF rfl (fun e2 => by ((try simp only [Bool.and_eq_true] at e2); first | (simp (maxSteps := 1000000) only [e2, go_sem, c1, c2, c3, c4, c5, c6, hr.funcs.len, hfl, hen]; first | done | rfl))) ?_ | refine wds_opt2T rfl (fun e1 e2 => by ((try simp only [Bool.and_eq_true] at e1); first | (simp (maxSteps := 1000000) only [e1, e2, go_sem, c1, c2, c3, c4, c5, c6, hr.funcs.len, hfl, hen]; first | done | rfl))) ?_ | refine wds_opt2F rfl (fun e1 e2 => by ((try simp only [Bool.and_eq_true] at e1); first | (simp (maxSteps := 1000000) only [e1, e2, go_sem, c1, c2, c3, c4, c5, c6, hr.funcs.len, hfl, hen]; first | done | rfl))) ?_)
    | ((with_reducible show wds _ _ (DI.i (XI.mk _ (some _) (XBody.call (XO.f 51) _)) :: _) _ _); first | refine wds_optcT rfl rfl (fun e2 => by simp (maxSteps := 1000000) only [e2, go_sem, c1, c2, c3, c4, c5, c6, hr.funcs.len, hfl, hen]; exact (c51 hO (hbt.more _) (hr.tables.more _) hr.nt)) ?_ | refine wds_optcF rfl rfl (fun e2 => by simp (maxSteps := 1000000) only [e2, go_sem, c1, c2, c3, c4, c5, c6, hr.funcs.len, hfl, hen]; exact (c51 hO (hbt.more _) (hr.tables.more _) hr.nt)) ?_ | refine wds_optc2T rfl rfl (fun e1 e2 => by simp (maxSteps := 1000000) only [e1, e2, go_sem, c1, c2, c3, c4, c5, c6, hr.funcs.len, hfl, hen]; exact (c51 hO (hbt.more _) (hr.tables.more _) hr.nt)) ?_ | refine wds_optc2F rfl rfl (fun e1 e2 => by simp (maxSteps := 1000000) only [e1, e2, go_sem, c1, c2, c3, c4, c5, c6, hr.funcs.len, hfl, hen]; exact (c51 hO (hbt.more _) (hr.tables.more _) hr.nt)) ?_)
    | ((with_reducible show wl _ (XI.mk _ (some _) _ :: _) _ _); first | ((refine wl_ifT rfl (fun e => ?_) (fun e => ?_)) <;> first | rw [e] | skip) | ((refine wl_ifF rfl (fun e => ?_) (fun e => ?_)) <;> first | rw [e] | skip))
    | ((with_reducible show wds _ _ (DI.i (XI.mk _ (some _) _) :: _) _ _); first | ((refine wds_ifT rfl (fun e => ?_) (fun e => ?_)) <;> first | rw [e] | skip) | ((refine wds_ifF rfl (fun e => ?_) (fun e => ?_)) <;> first | rw [e] | skip))
  refine SimLoop.inv [2, 0, 1, 0] (fun k s => ∃ (i a : Nat) (G : AH), k = im.funcs.length - i ∧ i ≤ im.funcs.length ∧ a ≤ got.text.length ∧ funcsB got.text.length a (got.funcs.drop i) = true ∧
    s = ⟨[.un, .un, .ptr h.length 0 0, .ptr (h.length + 1) 0 0, .un, VI a, VI i, .un, .un, .un, .un, .un, .un, .un, .un, .un, .un, .un, .un, .un, .un, .un, .un, .un, .un, .un, .un, .un, .un, .un, .un, .un, .un, .un, .un, .un, .un, .un, .un, .un, .un, .un, .un, .un, .un, .un, .un, .un, .un, .un, .un, .un, .un, .un, .un, .un, .un, .un, .un, .un, .un, .un, .un, .un, .un, .un, .un, .un, .un, .un, .un, .un, .un, .un, .un, .un, .un, .un, .un, .un, .un, .un, .un, .un, .un, .un, .un, .un, .un, .un, .un, .un, .un, .un, .un, .un, .un, .un, .un], h ++ (.cells 0 [tv, fv, bv, VI im.entry] :: .cells 0 [tv', fv', bv', VI got.entry] :: G)⟩) ?_ im.funcs.length ?_
  rotate_left
  · exact ⟨0, 0, [], rfl, Nat.zero_le _, Nat.zero_le _, hg, by rw [hen]; simp only [go_sem]; rfl⟩
  rintro k s ⟨i, a, G, rfl, hi, ha, hfb, rfl⟩
  by_cases hlt : i < im.funcs.length
  · have hlt' : ((i : Int) < im.funcs.length) := by omega
    have hw := wrap_succ hlt (by omega)
    have hlt2 : i < got.funcs.length := by rw [hk.len]; exact hlt
    have hfi := List.getElem?_eq_getElem hlt
    have hgi := List.getElem?_eq_getElem hlt2
    obtain ⟨hn, ho, hsl⟩ := hk.each i _ _ hfi hgi
    rw [List.drop_eq_getElem_cons hlt2] at hfb
    simp only [funcsB, Bool.and_eq_true, decide_eq_true_eq] at hfb
    obtain ⟨p, hp1, hp2, hp3, _⟩ := hr.funcs.get Fn.len (by decide) hfi
    obtain ⟨q, hq1, hq2, hq3, _⟩ := hr'.funcs.get Fn.len (by decide) hgi
    obtain ⟨e1, e2, e3⟩ := hf _ (List.getElem_mem hlt)
    obtain ⟨d1, d2, d3⟩ := hgf _ (List.getElem_mem hlt2)
    generalize im.funcs[i] = f at *
    generalize got.funcs[i] = g at *
    obtain ⟨bodyv, hs1, hs2⟩ := hr.text.sls (a := f.first) (b := f.first + f.count) Ins.len e1 (by omega) e3
    obtain ⟨bodyv', hs1', hs2'⟩ := hr'.text.sls (a := g.first) (b := g.first + g.count) Ins.len d1 (by omega) d3
    rw [body_of e1 e2] at hs2
    rw [body_of d1 d2] at hs2'
    have hbl := body_len e1 e2 e3
    have hbl' := body_len d1 d2 d3
    have h72 := fun H : AH => c72 (cx := cx) hO (hs2.more H) (by omega) (by omega)
    have h72' := fun H : AH => c72 (cx := cx) hO (hs2'.more H) (by omega) (by omega)
    have h29 := fun H : AH => c29 (cx := cx) hO (hr.more H) hfi e1 e2 e3 hs1
    have h29' := fun H : AH => c29 (cx := cx) hO (hr'.more H) hgi d1 d2 d3 hs1'
    generalize hmf : body im.text f = isf at *
    generalize hmg : body got.text g = isg at *
    have hb1 := wsI_le isf
    have hb2 := wsI_le isg
    obtain ⟨gname, gobj, gfirst, gcount⟩ := g
    obtain ⟨fname, fobj, ffirst, fcount⟩ := f
    simp only at hn ho hfb d1 d2 d3 e1 e2 e3 hs1 hs1' hbl hbl' hsl
    subst hn ho
    obtain ⟨⟨⟨rfl, hc1⟩, hc2⟩, hfb⟩ := hfb
    obtain ⟨c, rfl⟩ : ∃ c : Nat, gcount = c := ⟨gcount.toNat, by omega⟩
    have hn1 : ¬ ((c : Int) < 1) := by omega
    have hw3 : IntKind.i64.wrap ((got.text.length : Int) - a) = (got.text.length : Int) - a := wrap_id (by omega) (by omega)
    have hn2 : ¬ ((got.text.length : Int) - a < c) := by omega
    have hw4 : IntKind.i64.wrap ((a : Int) + c) = ((a + c : Nat) : Int) := by rw [wrap_id (by omega) (by omega)]; omega
    have hn3 : ¬ (((wsI isf).sum : Nat) : Int) < (((wsI isg).sum : Nat) : Int) := by omega
    have hfin : ∀ G : AH, ∃ k', k' < im.funcs.length - i ∧ ∃ (i_1 a_1 : Nat) (G_1 : AH), k' = im.funcs.length - i_1 ∧ i_1 ≤ im.funcs.length ∧ a_1 ≤ got.text.length ∧ funcsB got.text.length a_1 (got.funcs.drop i_1) = true ∧
        (⟨[.un, .un, .ptr h.length 0 0, .ptr (h.length + 1) 0 0, .un, VI ((a + c : Nat) : Int), VI ((i + 1 : Nat) : Int), .un, .un, .un, .un, .un, .un, .un, .un, .un, .un, .un, .un, .un, .un, .un, .un, .un, .un, .un, .un, .un, .un, .un, .un, .un, .un, .un, .un, .un, .un, .un, .un, .un, .un, .un, .un, .un, .un, .un, .un, .un, .un, .un, .un, .un, .un, .un, .un, .un, .un, .un, .un, .un, .un, .un, .un, .un, .un, .un, .un, .un, .un, .un, .un, .un, .un, .un, .un, .un, .un, .un, .un, .un, .un, .un, .un, .un, .un, .un, .un, .un, .un, .un, .un, .un, .un, .un, .un, .un, .un, .un, .un], h ++ (.cells 0 [tv, fv, bv, VI im.entry] :: .cells 0 [tv', fv', bv', VI got.entry] :: G)⟩ : XSt) =
        ⟨[.un, .un, .ptr h.length 0 0, .ptr (h.length + 1) 0 0, .un, VI a_1, VI i_1, .un, .un, .un, .un, .un, .un, .un, .un, .un, .un, .un, .un, .un, .un, .un, .un, .un, .un, .un, .un, .un, .un, .un, .un, .un, .un, .un, .un, .un, .un, .un, .un, .un, .un, .un, .un, .un, .un, .un, .un, .un, .un, .un, .un, .un, .un, .un, .un, .un, .un, .un, .un, .un, .un, .un, .un, .un, .un, .un, .un, .un, .un, .un, .un, .un, .un, .un, .un, .un, .un, .un, .un, .un, .un, .un, .un, .un, .un, .un, .un, .un, .un, .un, .un, .un, .un, .un, .un, .un, .un, .un, .un], h ++ (.cells 0 [tv, fv, bv, VI im.entry] :: .cells 0 [tv', fv', bv', VI got.entry] :: G_1)⟩ := fun G =>
      ⟨im.funcs.length - (i + 1), by omega, i + 1, a + c, G, rfl, by omega, by omega, by rw [show ((a + c : Nat) : Int) = (a : Int) + (c : Int) by omega]; exact hfb, rfl⟩
    have ha1 : ∀ G : AH, h.length + (G.length + 1 + 1) + 1 = h.length + (G.length + 1 + 1 + 1) := fun _ => rfl
    have ha2 : ∀ G : AH, h.length < h.length + (G.length + 1 + 1) := fun G => by omega
    have ha3 : ∀ G : AH, h.length + 1 < h.length + (G.length + 1 + 1) := fun G => by omega
    have ha4 : ∀ G : AH, h.length + (G.length + 1 + 1) < h.length + (G.length + 1 + 1) + 2 := fun G => by omega
    have ha5 : ∀ G : AH, h.length + (G.length + 1 + 1) ≤ h.length + (G.length + 1 + 1 + 1) := fun G => by omega
    have ha6 : ∀ G : AH, h.length + (G.length + 1 + 1 + 1) < h.length + (G.length + 1 + 1) + 2 := fun G => by omega
    rcases hr.funcs.loc hp1 with ⟨id, ver, off, rfl, hid⟩ | ⟨cs, rfl⟩ <;> rcases hr'.funcs.loc hq1 with ⟨id', ver', off', rfl, hid'⟩ | ⟨cs', rfl⟩
    · skip
      have hx : ∀ n, id < h.length + n := fun n => by omega
      have hx' : ∀ n, id' < h.length + n := fun n => by omega
      repeat' first
        | ((with_reducible show wx _ (XCode.cond _ _ _) _ _); refine wx_if rfl (fun _ => ?_) (fun _ => ?_))
        | ((with_reducible show SemL _ _ _ _); refine SemL.of ?_)
        | ((with_reducible show SemD _ _ _ _ _); refine SemD.of ?_)
        | ((with_reducible show SimCall _ 29 _ _ _); refine (h29 _).mono ?_; rintro r h' ⟨rfl, rfl⟩)
        | ((with_reducible show dK _ 29 _ _ _); refine dK_app _ _ (h29 _) ?_)
        | ((with_reducible show SimCall _ 29 _ _ _); refine (h29' _).mono ?_; rintro r h' ⟨rfl, rfl⟩)
        | ((with_reducible show dK _ 29 _ _ _); refine dK_app _ _ (h29' _) ?_)
        | ((with_reducible show SimCall _ 72 _ _ _); refine (h72 _).mono ?_; rintro r h' ⟨rfl, rfl⟩)
        | ((with_reducible show dK _ 72 _ _ _); refine dK_of _ (h72 _) ?_)
        | ((with_reducible show SimCall _ 72 _ _ _); refine (h72' _).mono ?_; rintro r h' ⟨rfl, rfl⟩)
        | ((with_reducible show dK _ 72 _ _ _); refine dK_of _ (h72' _) ?_)
        | simp (maxSteps := 1000000) only [go_sem, c1, c2, c3, c4, c5, c6, hr.funcs.len, hfl, hr'.text.len, hlt', hw, hp1, hp2, hp3, hq1, hq2, hq3, Fn.row, hn1, hw3, hn2, hw4, hn3, hx, hx', ha1, ha2, ha3, ha4, ha5, ha6, true_or, true_and, implies_true]
        | ((with_reducible show wl _ (XI.mk _ (some _) (XBody.op _) :: _) _ _); first | refine wl_optT rfl (fun e2 => by ((try simp only [Bool.and_eq_true] at e2); first | (simp (maxSteps := 1000000) only [e2, go_sem, c1, c2, c3, c4, c5, c6, hr.funcs.len, hfl, hr'.text.len, hlt', hw, hp1, hp2, hp3, hq1, hq2, hq3, Fn.row, hn1, hw3, hn2, hw4, hn3, hx, hx', ha1, ha2, ha3, ha4, ha5, ha6, true_or, true_and, implies_true]; first | done | rfl))) ?_ | refine wl_optF rfl (fun e2 => by ((try simp only [Bool.and_eq_true] at e2); first | (simp (maxSteps := 1000000) only [e2, go_sem, c1, c2, c3, c4, c5, c6, hr.funcs.len, hfl, hr'.text.len, hlt', hw, hp1, hp2, hp3, hq1, hq2, hq3, Fn.row, hn1, hw3, hn2, hw4, hn3, hx, hx', ha1, ha2, ha3, ha4, ha5, ha6, true_or, true_and, implies_true]; first | done | rfl))) ?_ | refine wl_opt2T rfl (fun e1 e2 => by ((try simp only [Bool.and_eq_true] at e1); first | (simp (maxSteps := 1000000) only [e1, e2, go_sem, c1, c2, c3, c4, c5, c6, hr.funcs.len, hfl, hr'.text.len, hlt', hw, hp1, hp2, hp3, hq1, hq2, hq3, Fn.row, hn1, hw3, hn2, hw4, hn3, hx, hx', ha1, ha2, ha3, ha4, ha5, ha6, true_or, true_and, implies_true]; first | done | rfl))) ?_ | refine wl_opt2F rfl (fun e1 e2 => by ((try simp only [Bool.and_eq_true] at e1); first | (simp (maxSteps := 1000000) only [e1, e2, go_sem, c1, c2, c3, c4, c5, c6, hr.funcs.len, hfl, hr'.text.len, hlt', hw, hp1, hp2, hp3, hq1, hq2, hq3, Fn.row, hn1, hw3, hn2, hw4, hn3, hx, hx', ha1, ha2, ha3, ha4, ha5, ha6, true_or, true_and, implies_true]; first | done | rfl))) ?_)
        | ((with_reducible show wl _ (XI.mk _ (some _) (XBody.call (XO.f 72) _) :: _) _ _); first | refine wl_optcT rfl rfl (fun e2 => by simp (maxSteps := 1000000) only [e2, go_sem, c1, c2, c3, c4, c5, c6, hr.funcs.len, hfl, hr'.text.len, hlt', hw, hp1, hp2, hp3, hq1, hq2, hq3, Fn.row, hn1, hw3, hn2, hw4, hn3, hx, hx', ha1, ha2, ha3, ha4, ha5, ha6, true_or, true_and, implies_true]; exact (h72 _)) ?_ | refine wl_optcF rfl rfl (fun e2 => by simp (maxSteps := 1000000) only [e2, go_sem, c1, c2, c3, c4, c5, c6, hr.funcs.len, hfl, hr'.text.len, hlt', hw, hp1, hp2, hp3, hq1, hq2, hq3, Fn.row, hn1, hw3, hn2, hw4, hn3, hx, hx', ha1, ha2, ha3, ha4, ha5, ha6, true_or, true_and, implies_true]; exact (h72 _)) ?_ | refine wl_optc2T rfl rfl (fun e1 e2 => by simp (maxSteps := 1000000) only [e1, e2, go_sem, c1, c2, c3, c4, c5, c6, hr.funcs.len, hfl, hr'.text.len, hlt', hw, hp1, hp2, hp3, hq1, hq2, hq3, Fn.row, hn1, hw3, hn2, hw4, hn3, hx, hx', ha1, ha2, ha3, ha4, ha5, ha6, true_or, true_and, implies_true]; exact (h72 _)) ?_ | refine wl_optc2F rfl rfl (fun e1 e2 => by simp (maxSteps := 1000000) only [e1, e2, go_sem, c1, c2, c3, c4, c5, c6, hr.funcs.len, hfl, hr'.text.len, hlt', hw, hp1, hp2, hp3, hq1, hq2, hq3, Fn.row, hn1, hw3, hn2, hw4, hn3, hx, hx', ha1, ha2, ha3, ha4, ha5, ha6, true_or, true_and, implies_true]; exact (h72 _)) ?_)
        | ((with_reducible show wl _ (XI.mk _ (some _) (XBody.call (XO.f 72) _) :: _) _ _); first | refine wl_optcT rfl rfl (fun e2 => by simp (maxSteps := 1000000) only [e2, go_sem, c1, c2, c3, c4, c5, c6, hr.funcs.len, hfl, hr'.text.len, hlt', hw, hp1, hp2, hp3, hq1, hq2, hq3, Fn.row, hn1, hw3, hn2, hw4, hn3, hx, hx', ha1, ha2, ha3, ha4, ha5, ha6, true_or, true_and, implies_true]; exact (h72' _)) ?_ | refine wl_optcF rfl rfl (fun e2 => by simp (maxSteps := 1000000) only [e2, go_sem, c1, c2, c3, c4, c5, c6, hr.funcs.len, hfl, hr'.text.len, hlt', hw, hp1, hp2, hp3, hq1, hq2, hq3, Fn.row, hn1, hw3, hn2, hw4, hn3, hx, hx', ha1, ha2, ha3, ha4, ha5, ha6, true_or, true_and, implies_true]; exact (h72' _)) ?_ | refine wl_optc2T rfl rfl (fun e1 e2 => by simp (maxSteps := 1000000) only [e1, e2, go_sem, c1, c2, c3, c4, c5, c6, hr.funcs.len, hfl, hr'.text.len, hlt', hw, hp1, hp2, hp3, hq1, hq2, hq3, Fn.row, hn1, hw3, hn2, hw4, hn3, hx, hx', ha1, ha2, ha3, ha4, ha5, ha6, true_or, true_and, implies_true]; exact (h72' _)) ?_ | refine wl_optc2F rfl rfl (fun e1 e2 => by simp (maxSteps := 1000000) only [e1, e2, go_sem, c1, c2, c3, c4, c5, c6, hr.funcs.len, hfl, hr'.text.len, hlt', hw, hp1, hp2, hp3, hq1, hq2, hq3, Fn.row, hn1, hw3, hn2, hw4, hn3, hx, hx', ha1, ha2, ha3, ha4, ha5, ha6, true_or, true_and, implies_true]; exact (h72' _)) ?_)
        | ((with_reducible show wds _ _ (DI.i (XI.mk _ (some _) (XBody.op _)) :: _) _ _); first | refine wds_optT rfl (fun e2 => by ((try simp only [Bool.and_eq_true] at e2); first | (simp (maxSteps := 1000000) only [e2, go_sem, c1, c2, c3, c4, c5, c6, hr.funcs.len, hfl, hr'.text.len, hlt', hw, hp1, hp2, hp3, hq1, hq2, hq3, Fn.row, hn1, hw3, hn2, hw4, hn3, hx, hx', ha1, ha2, ha3, ha4, ha5, ha6, true_or, true_and, implies_true]; first | done | rfl))) ?_ | refine wds_optF rfl (fun e2 => by ((try simp only [Bool.and_eq_true] at e2); first | (simp (maxSteps := 1000000) only [e2, go_sem, c1, c2, c3, c4, c5, c6, hr.funcs.len, hfl, hr'.text.len, hlt', hw, hp1, hp2, hp3, hq1, hq2, hq3, Fn.row, hn1, hw3, hn2, hw4, hn3, hx, hx', ha1, ha2, ha3, ha4, ha5, ha6, true_or, true_and, implies_true]; first | done | rfl))) ?_ | refine wds_opt2T rfl (fun e1 e2 => by ((try simp only [Bool.and_eq_true] at e1); first | (simp (maxSteps := 1000000) only [e1, e2, go_sem, c1, c2, c3, c4, c5, c6, hr.funcs.len, hfl, hr'.text.len, hlt', hw, hp1, hp2, hp3, hq1, hq2, hq3, Fn.row, hn1, hw3, hn2, hw4, hn3, hx, hx', ha1, ha2, ha3, ha4, ha5, ha6, true_or, true_and, implies_true]; first | done | rfl))) ?_ | refine wds_opt2F rfl (fun e1 e2 => by ((try simp only [Bool.and_eq_true] at e1); first | (simp (maxSteps := 1000000) only [e1, e2, go_sem, c1, c2, c3, c4, c5, c6, hr.funcs.len, hfl, hr'.text.len, hlt', hw, hp1, hp2, hp3, hq1, hq2, hq3, Fn.row, hn1, hw3, hn2, hw4, hn3, hx, hx', ha1, ha2, ha3, ha4, ha5, ha6, true_or, true_and, implies_true]; first | done | rfl))) ?_)
        | ((with_reducible show wds _ _ (DI.i (XI.mk _ (some _) (XBody.call (XO.f 72) _)) :: _) _ _); first | refine wds_optcT rfl rfl (fun e2 => by simp (maxSteps := 1000000) only [e2, go_sem, c1, c2, c3, c4, c5, c6, hr.funcs.len, hfl, hr'.text.len, hlt', hw, hp1, hp2, hp3, hq1, hq2, hq3, Fn.row, hn1, hw3, hn2, hw4, hn3, hx, hx', ha1, ha2, ha3, ha4, ha5, ha6, true_or, true_and, implies_true]; exact (h72 _)) ?_ | refine wds_optcF rfl rfl (fun e2 => by simp (maxSteps := 1000000) only [e2, go_sem, c1, c2, c3, c4, c5, c6, hr.funcs.len, hfl, hr'.text.len, hlt', hw, hp1, hp2, hp3, hq1, hq2, hq3, Fn.row, hn1, hw3, hn2, hw4, hn3, hx, hx', ha1, ha2, ha3, ha4, ha5, ha6, true_or, true_and, implies_true]; exact (h72 _)) ?_ | refine wds_optc2T rfl rfl (fun e1 e2 => by simp (maxSteps := 1000000) only [e1, e2, go_sem, c1, c2, c3, c4, c5, c6, hr.funcs.len, hfl, hr'.text.len, hlt', hw, hp1, hp2, hp3, hq1, hq2, hq3, Fn.row, hn1, hw3, hn2, hw4, hn3, hx, hx', ha1, ha2, ha3, ha4, ha5, ha6, true_or, true_and, implies_true]; exact (h72 _)) ?_ | refine wds_optc2F rfl rfl (fun e1 e2 => by simp (maxSteps := 1000000) only [e1, e2, go_sem, c1, c2, c3, c4, c5, c6, hr.funcs.len, hfl, hr'.text.len, hlt', hw, hp1, hp2, hp3, hq1, hq2, hq3, Fn.row, hn1, hw3, hn2, hw4, hn3, hx, hx', ha1, ha2, ha3, ha4, ha5, ha6, true_or, true_and, implies_true]; exact (h72 _)) ?_)
        | ((with_reducible show wds _ _ (DI.i (XI.mk _ (some _) (XBody.call (XO.f 72) _)) :: _) _ _); first | refine wds_optcT rfl rfl (fun e2 => by simp (maxSteps := 1000000) only [e2, go_sem, c1, c2, c3, c4, c5, c6, hr.funcs.len, hfl, hr'.text.len, hlt', hw, hp1, hp2, hp3, hq1, hq2, hq3, Fn.row, hn1, hw3, hn2, hw4, hn3, hx, hx', ha1, ha2, ha3, ha4, ha5, ha6, true_or, true_and, implies_true]; exact (h72' _)) ?_ | refine wds_optcF rfl rfl (fun e2 => by simp (maxSteps := 1000000) only [e2, go_sem, c1, c2, c3, c4, c5, c6, hr.funcs.len, hfl, hr'.text.len, hlt', hw, hp1, hp2, hp3, hq1, hq2, hq3, Fn.row, hn1, hw3, hn2, hw4, hn3, hx, hx', ha1, ha2, ha3, ha4, ha5, ha6, true_or, true_and, implies_true]; exact (h72' _)) ?_ | refine wds_optc2T rfl rfl (fun e1 e2 => by simp (maxSteps := 1000000) only [e1, e2, go_sem, c1, c2, c3, c4, c5, c6, hr.funcs.len, hfl, hr'.text.len, hlt', hw, hp1, hp2, hp3, hq1, hq2, hq3, Fn.row, hn1, hw3, hn2, hw4, hn3, hx, hx', ha1, ha2, ha3, ha4, ha5, ha6, true_or, true_and, implies_true]; exact (h72' _)) ?_ | refine wds_optc2F rfl rfl (fun e1 e2 => by simp (maxSteps := 1000000) only [e1, e2, go_sem, c1, c2, c3, c4, c5, c6, hr.funcs.len, hfl, hr'.text.len, hlt', hw, hp1, hp2, hp3, hq1, hq2, hq3, Fn.row, hn1, hw3, hn2, hw4, hn3, hx, hx', ha1, ha2, ha3, ha4, ha5, ha6, true_or, true_and, implies_true]; exact (h72' _)) ?_)
        | ((with_reducible show wl _ (XI.mk _ (some _) _ :: _) _ _); first | ((refine wl_ifT rfl (fun e => ?_) (fun e => ?_)) <;> first | rw [e] | skip) | ((refine wl_ifF rfl (fun e => ?_) (fun e => ?_)) <;> first | rw [e] | skip))
        | ((with_reducible show wds _ _ (DI.i (XI.mk _ (some _) _) :: _) _ _); first | ((refine wds_ifT rfl (fun e => ?_) (fun e => ?_)) <;> first | rw [e] | skip) | ((refine wds_ifF rfl (fun e => ?_) (fun e => ?_)) <;> first | rw [e] | skip))
      exact hfin _
    · skip
      have hx : ∀ n, id < h.length + n := fun n => by omega
      repeat' first
        | ((with_reducible show wx _ (XCode.cond _ _ _) _ _); refine wx_if rfl (fun _ => ?_) (fun _ => ?_))
        | ((with_reducible show SemL _ _ _ _); refine SemL.of ?_)
        | ((with_reducible show SemD _ _ _ _ _); refine SemD.of ?_)
        | ((with_reducible show SimCall _ 29 _ _ _); refine (h29 _).mono ?_; rintro r h' ⟨rfl, rfl⟩)
        | ((with_reducible show dK _ 29 _ _ _); refine dK_app _ _ (h29 _) ?_)
        | ((with_reducible show SimCall _ 29 _ _ _); refine (h29' _).mono ?_; rintro r h' ⟨rfl, rfl⟩)
        | ((with_reducible show dK _ 29 _ _ _); refine dK_app _ _ (h29' _) ?_)
        | ((with_reducible show SimCall _ 72 _ _ _); refine (h72 _).mono ?_; rintro r h' ⟨rfl, rfl⟩)
        | ((with_reducible show dK _ 72 _ _ _); refine dK_of _ (h72 _) ?_)
        | ((with_reducible show SimCall _ 72 _ _ _); refine (h72' _).mono ?_; rintro r h' ⟨rfl, rfl⟩)
        | ((with_reducible show dK _ 72 _ _ _); refine dK_of _ (h72' _) ?_)
        | simp (maxSteps := 1000000) only [go_sem, c1, c2, c3, c4, c5, c6, hr.funcs.len, hfl, hr'.text.len, hlt', hw, hp1, hp2, hp3, hq1, hq2, hq3, Fn.row, hn1, hw3, hn2, hw4, hn3, hx, ha1, ha2, ha3, ha4, ha5, ha6, true_or, true_and, implies_true]
        | ((with_reducible show wl _ (XI.mk _ (some _) (XBody.op _) :: _) _ _); first | refine wl_optT rfl (fun e2 => by ((try simp only [Bool.and_eq_true] at e2); first | (simp (maxSteps := 1000000) only [e2, go_sem, c1, c2, c3, c4, c5, c6, hr.funcs.len, hfl, hr'.text.len, hlt', hw, hp1, hp2, hp3, hq1, hq2, hq3, Fn.row, hn1, hw3, hn2, hw4, hn3, hx, ha1, ha2, ha3, ha4, ha5, ha6, true_or, true_and, implies_true]; first | done | rfl))) ?_ | refine wl_optF rfl (fun e2 => by ((try simp only [Bool.and_eq_true] at e2); first | (simp (maxSteps := 1000000) only [e2, go_sem, c1, c2, c3, c4, c5, c6, hr.funcs.len, hfl, hr'.text.len, hlt', hw, hp1, hp2, hp3, hq1, hq2, hq3, Fn.row, hn1, hw3, hn2, hw4, hn3, hx, ha1, ha2, ha3, ha4, ha5, ha6, true_or, true_and, implies_true]; first | done | rfl))) ?_ | refine wl_opt2T rfl (fun e1 e2 => by ((try simp only [Bool.and_eq_true] at e1); first | (simp (maxSteps := 1000000) only [e1, e2, go_sem, c1, c2, c3, c4, c5, c6, hr.funcs.len, hfl, hr'.text.len, hlt', hw, hp1, hp2, hp3, hq1, hq2, hq3, Fn.row, hn1, hw3, hn2, hw4, hn3, hx, ha1, ha2, ha3, ha4, ha5, ha6, true_or, true_and, implies_true]; first | done | rfl))) ?_ | refine wl_opt2F rfl (fun e1 e2 => by ((try simp only [Bool.and_eq_true] at e1); first | (simp (maxSteps := 1000000) only [e1, e2, go_sem, c1, c2, c3, c4, c5, c6, hr.funcs.len, hfl, hr'.text.len, hlt', hw, hp1, hp2, hp3, hq1, hq2, hq3, Fn.row, hn1, hw3, hn2, hw4, hn3, hx, ha1, ha2, ha3, ha4, ha5, ha6, true_or, true_and, implies_true]; first | done | rfl))) ?_)
        | ((with_reducible show wl _ (XI.mk _ (some _) (XBody.call (XO.f 72) _) :: _) _ _); first | refine wl_optcT rfl rfl (fun e2 => by simp (maxSteps := 1000000) only [e2, go_sem, c1, c2, c3, c4, c5, c6, hr.funcs.len, hfl, hr'.text.len, hlt', hw, hp1, hp2, hp3, hq1, hq2, hq3, Fn.row, hn1, hw3, hn2, hw4, hn3, hx, ha1, ha2, ha3, ha4, ha5, ha6, true_or, true_and, implies_true]; exact (h72 _)) ?_ | refine wl_optcF rfl rfl (fun e2 => by simp (maxSteps := 1000000) only [e2, go_sem, c1, c2, c3, c4, c5, c6, hr.funcs.len, hfl, hr'.text.len, hlt', hw, hp1, hp2, hp3, hq1, hq2, hq3, Fn.row, hn1, hw3, hn2, hw4, hn3, hx, ha1, ha2, ha3, ha4, ha5, ha6, true_or, true_and, implies_true]; exact (h72 _)) ?_ | refine wl_optc2T rfl rfl (fun e1 e2 => by simp (maxSteps := 1000000) only [e1, e2, go_sem, c1, c2, c3, c4, c5, c6, hr.funcs.len, hfl, hr'.text.len, hlt', hw, hp1, hp2, hp3, hq1, hq2, hq3, Fn.row, hn1, hw3, hn2, hw4, hn3, hx, ha1, ha2, ha3, ha4, ha5, ha6, true_or, true_and, implies_true]; exact (h72 _)) ?_ | refine wl_optc2F rfl rfl (fun e1 e2 => by simp (maxSteps := 1000000) only [e1, e2, go_sem, c1, c2, c3, c4, c5, c6, hr.funcs.len, hfl, hr'.text.len, hlt', hw, hp1, hp2, hp3, hq1, hq2, hq3, Fn.row, hn1, hw3, hn2, hw4, hn3, hx, ha1, ha2, ha3, ha4, ha5, ha6, true_or, true_and, implies_true]; exact (h72 _)) ?_)
        | ((with_reducible show wl _ (XI.mk _ (some _) (XBody.call (XO.f 72) _) :: _) _ _); first | refine wl_optcT rfl rfl (fun e2 => by simp (maxSteps := 1000000) only [e2, go_sem, c1, c2, c3, c4, c5, c6, hr.funcs.len, hfl, hr'.text.len, hlt', hw, hp1, hp2, hp3, hq1, hq2, hq3, Fn.row, hn1, hw3, hn2, hw4, hn3, hx, ha1, ha2, ha3, ha4, ha5, ha6, true_or, true_and, implies_true]; exact (h72' _)) ?_ | refine wl_optcF rfl rfl (fun e2 => by simp (maxSteps := 1000000) only [e2, go_sem, c1, c2, c3, c4, c5, c6, hr.funcs.len, hfl, hr'.text.len, hlt', hw, hp1, hp2, hp3, hq1, hq2, hq3, Fn.row, hn1, hw3, hn2, hw4, hn3, hx, ha1, ha2, ha3, ha4, ha5, ha6, true_or, true_and, implies_true]; exact (h72' _)) ?_ | refine wl_optc2T rfl rfl (fun e1 e2 => by simp (maxSteps := 1000000) only [e1, e2, go_sem, c1, c2, c3, c4, c5, c6, hr.funcs.len, hfl, hr'.text.len, hlt', hw, hp1, hp2, hp3, hq1, hq2, hq3, Fn.row, hn1, hw3, hn2, hw4, hn3, hx, ha1, ha2, ha3, ha4, ha5, ha6, true_or, true_and, implies_true]; exact (h72' _)) ?_ | refine wl_optc2F rfl rfl (fun e1 e2 => by simp (maxSteps := 1000000) only [e1, e2, go_sem, c1, c2, c3, c4, c5, c6, hr.funcs.len, hfl, hr'.text.len, hlt', hw, hp1, hp2, hp3, hq1, hq2, hq3, Fn.row, hn1, hw3, hn2, hw4, hn3, hx, ha1, ha2, ha3, ha4, ha5, ha6, true_or, true_and, implies_true]; exact (h72' _)) ?_)
        | ((with_reducible show wds _ _ (DI.i (XI.mk _ (some _) (XBody.op _)) :: _) _ _); first | refine wds_optT rfl (fun e2 => by ((try simp only [Bool.and_eq_true] at e2); first | (simp (maxSteps := 1000000) only [e2, go_sem, c1, c2, c3, c4, c5, c6, hr.funcs.len, hfl, hr'.text.len, hlt', hw, hp1, hp2, hp3, hq1, hq2, hq3, Fn.row, hn1, hw3, hn2, hw4, hn3, hx, ha1, ha2, ha3, ha4, ha5, ha6, true_or, true_and, implies_true]; first | done | rfl))) ?_ | refine wds_optF rfl (fun e2 => by ((try simp only [Bool.and_eq_true] at e2); first | (simp (maxSteps := 1000000) only [e2, go_sem, c1, c2, c3, c4, c5, c6, hr.funcs.len, hfl, hr'.text.len, hlt', hw, hp1, hp2, hp3, hq1, hq2, hq3, Fn.row, hn1, hw3, hn2, hw4, hn3, hx, ha1, ha2, ha3, ha4, ha5, ha6, true_or, true_and, implies_true]; first | done | rfl))) ?_ | refine wds_opt2T rfl (fun e1 e2 => by ((try simp only [Bool.and_eq_true] at e1); first | (simp (maxSteps := 1000000) only [e1, e2, go_sem, c1, c2, c3, c4, c5, c6, hr.funcs.len, hfl, hr'.text.len, hlt', hw, hp1, hp2, hp3, hq1, hq2, hq3, Fn.row, hn1, hw3, hn2, hw4, hn3, hx, ha1, ha2, ha3, ha4, ha5, ha6, true_or, true_and, implies_true]; first | done | rfl))) ?_ | refine wds_opt2F rfl (fun e1 e2 => by ((try simp only [Bool.and_eq_true] at e1); first | (simp (maxSteps := 1000000) only [e1, e2, go_sem, c1, c2, c3, c4, c5, c6, hr.funcs.len, hfl, hr'.text.len, hlt', hw, hp1, hp2, hp3, hq1, hq2, hq3, Fn.row, hn1, hw3, hn2, hw4, hn3, hx, ha1, ha2, ha3, ha4, ha5, ha6, true_or, true_and, implies_true]; first | done | rfl))) ?_)
        | ((with_reducible show wds _ _ (DI.i (XI.mk _ (some _) (XBody.call (XO.f 72) _)) :: _) _ _); first | refine wds_optcT rfl rfl (fun e2 => by simp (maxSteps := 1000000) only [e2, go_sem, c1, c2, c3, c4, c5, c6, hr.funcs.len, hfl, hr'.text.len, hlt', hw, hp1, hp2, hp3, hq1, hq2, hq3, Fn.row, hn1, hw3, hn2, hw4, hn3, hx, ha1, ha2, ha3, ha4, ha5, ha6, true_or, true_and, implies_true]; exact (h72 _)) ?_ | refine wds_optcF rfl rfl (fun e2 => by simp (maxSteps := 1000000) only [e2, go_sem, c1, c2, c3, c4, c5, c6, hr.funcs.len, hfl, hr'.text.len, hlt', hw, hp1, hp2, hp3, hq1, hq2, hq3, Fn.row, hn1, hw3, hn2, hw4, hn3, hx, ha1, ha2, ha3, ha4, ha5, ha6, true_or, true_and, implies_true]; exact (h72 _)) ?_ | refine wds_optc2T rfl rfl (fun e1 e2 => by simp (maxSteps := 1000000) only [e1, e2, go_sem, c1, c2, c3, c4, c5, c6, hr.funcs.len, hfl, hr'.text.len, hlt', hw, hp1, hp2, hp3, hq1, hq2, hq3, Fn.row, hn1, hw3, hn2, hw4, hn3, hx, ha1, ha2, ha3, ha4, ha5, ha6, true_or, true_and, implies_true]; exact (h72 _)) ?_ | refine wds_optc2F rfl rfl (fun e1 e2 => by simp (maxSteps := 1000000) only [e1, e2, go_sem, c1, c2, c3, c4, c5, c6, hr.funcs.len, hfl, hr'.text.len, hlt', hw, hp1, hp2, hp3, hq1, hq2, hq3, Fn.row, hn1, hw3, hn2, hw4, hn3, hx, ha1, ha2, ha3, ha4, ha5, ha6, true_or, true_and, implies_true]; exact (h72 _)) ?_)
        | ((with_reducible show wds _ _ (DI.i (XI.mk _ (some _) (XBody.call (XO.f 72) _)) :: _) _ _); first | refine wds_optcT rfl rfl (fun e2 => by simp (maxSteps := 1000000) only [e2, go_sem, c1, c2, c3, c4, c5, c6, hr.funcs.len, hfl, hr'.text.len, hlt', hw, hp1, hp2, hp3, hq1, hq2, hq3, Fn.row, hn1, hw3, hn2, hw4, hn3, hx, ha1, ha2, ha3, ha4, ha5, ha6, true_or, true_and, implies_true]; exact (h72' _)) ?_ | refine wds_optcF rfl rfl (fun e2 => by simp (maxSteps := 1000000) only [e2, go_sem, c1, c2, c3, c4, c5, c6, hr.funcs.len, hfl, hr'.text.len, hlt', hw, hp1, hp2, hp3, hq1, hq2, hq3, Fn.row, hn1, hw3, hn2, hw4, hn3, hx, ha1, ha2, ha3, ha4, ha5, ha6, true_or, true_and, implies_true]; exact (h72' _)) ?_ | refine wds_optc2T rfl rfl (fun e1 e2 => by simp (maxSteps := 1000000) only [e1, e2, go_sem, c1, c2, c3, c4, c5, c6, hr.funcs.len, hfl, hr'.text.len, hlt', hw, hp1, hp2, hp3, hq1, hq2, hq3, Fn.row, hn1, hw3, hn2, hw4, hn3, hx, ha1, ha2, ha3, ha4, ha5, ha6, true_or, true_and, implies_true]; exact (h72' _)) ?_ | refine wds_optc2F rfl rfl (fun e1 e2 => by simp (maxSteps := 1000000) only [e1, e2, go_sem, c1, c2, c3, c4, c5, c6, hr.funcs.len, hfl, hr'.text.len, hlt', hw, hp1, hp2, hp3, hq1, hq2, hq3, Fn.row, hn1, hw3, hn2, hw4, hn3, hx, ha1, ha2, ha3, ha4, ha5, ha6, true_or, true_and, implies_true]; exact (h72' _)) ?_)
        | ((with_reducible show wl _ (XI.mk _ (some _) _ :: _) _ _); first | ((refine wl_ifT rfl (fun e => ?_) (fun e => ?_)) <;> first | rw [e] | skip) | ((refine wl_ifF rfl (fun e => ?_) (fun e => ?_)) <;> first | rw [e] | skip))
        | ((with_reducible show wds _ _ (DI.i (XI.mk _ (some _) _) :: _) _ _); first | ((refine wds_ifT rfl (fun e => ?_) (fun e => ?_)) <;> first | rw [e] | skip) | ((refine wds_ifF rfl (fun e => ?_) (fun e => ?_)) <;> first | rw [e] | skip))
      exact hfin _
    · skip
      have hx' : ∀ n, id' < h.length + n := fun n => by omega
      repeat' first
        | ((with_reducible show wx _ (XCode.cond _ _ _) _ _); refine wx_if rfl (fun _ => ?_) (fun _ => ?_))
        | ((with_reducible show SemL _ _ _ _); refine SemL.of ?_)
        | ((with_reducible show SemD _ _ _ _ _); refine SemD.of ?_)
        | ((with_reducible show SimCall _ 29 _ _ _); refine (h29 _).mono ?_; rintro r h' ⟨rfl, rfl⟩)
        | ((with_reducible show dK _ 29 _ _ _); refine dK_app _ _ (h29 _) ?_)
        | ((with_reducible show SimCall _ 29 _ _ _); refine (h29' _).mono ?_; rintro r h' ⟨rfl, rfl⟩)
        | ((with_reducible show dK _ 29 _ _ _); refine dK_app _ _ (h29' _) ?_)
        | ((with_reducible show SimCall _ 72 _ _ _); refine (h72 _).mono ?_; rintro r h' ⟨rfl, rfl⟩)
        | ((with_reducible show dK _ 72 _ _ _); refine dK_of _ (h72 _) ?_)
        | ((with_reducible show SimCall _ 72 _ _ _); refine (h72' _).mono ?_; rintro r h' ⟨rfl, rfl⟩)
        | ((with_reducible show dK _ 72 _ _ _); refine dK_of _ (h72' _) ?_)
        | simp (maxSteps := 1000000) only [go_sem, c1, c2, c3, c4, c5, c6, hr.funcs.len, hfl, hr'.text.len, hlt', hw, hp1, hp2, hp3, hq1, hq2, hq3, Fn.row, hn1, hw3, hn2, hw4, hn3, hx', ha1, ha2, ha3, ha4, ha5, ha6, true_or, true_and, implies_true]
        | ((with_reducible show wl _ (XI.mk _ (some _) (XBody.op _) :: _) _ _); first | refine wl_optT rfl (fun e2 => by ((try simp only [Bool.and_eq_true] at e2); first | (simp (maxSteps := 1000000) only [e2, go_sem, c1, c2, c3, c4, c5, c6, hr.funcs.len, hfl, hr'.text.len, hlt', hw, hp1, hp2, hp3, hq1, hq2, hq3, Fn.row, hn1, hw3, hn2, hw4, hn3, hx', ha1, ha2, ha3, ha4, ha5, ha6, true_or, true_and, implies_true]; first | done | rfl))) ?_ | refine wl_optF rfl (fun e2 => by ((try simp only [Bool.and_eq_true] at e2); first | (simp (maxSteps := 1000000) only [e2, go_sem, c1, c2, c3, c4, c5, c6, hr.funcs.len, hfl, hr'.text.len, hlt', hw, hp1, hp2, hp3, hq1, hq2, hq3, Fn.row, hn1, hw3, hn2, hw4, hn3, hx', ha1, ha2, ha3, ha4, ha5, ha6, true_or, true_and, implies_true]; first | done | rfl))) ?_ | refine wl_opt2T rfl (fun e1 e2 => by ((try simp only [Bool.and_eq_true] at e1); first | (simp (maxSteps := 1000000) only [e1, e2, go_sem, c1, c2, c3, c4, c5, c6, hr.funcs.len, hfl, hr'.text.len, hlt', hw, hp1, hp2, hp3, hq1, hq2, hq3, Fn.row, hn1, hw3, hn2, hw4, hn3, hx', ha1, ha2, ha3, ha4, ha5, ha6, true_or, true_and, implies_true]; first | done | rfl))) ?_ | refine wl_opt2F rfl (fun e1 e2 => by ((try simp only [Bool.and_eq_true] at e1); first | (simp (maxSteps := 1000000) only [e1, e2, go_sem, c1, c2, c3, c4, c5, c6, hr.funcs.len, hfl, hr'.text.len, hlt', hw, hp1, hp2, hp3, hq1, hq2, hq3, Fn.row, hn1, hw3, hn2, hw4, hn3, hx', ha1, ha2, ha3, ha4, ha5, ha6, true_or, true_and, implies_true]; first | done | rfl))) ?_)
        | ((with_reducible show wl _ (XI.mk _ (some _) (XBody.call (XO.f 72) _) :: _) _ _); first | refine wl_optcT rfl rfl (fun e2 => by simp (maxSteps := 1000000) only [e2, go_sem, c1, c2, c3, c4, c5, c6, hr.funcs.len, hfl, hr'.text.len, hlt', hw, hp1, hp2, hp3, hq1, hq2, hq3, Fn.row, hn1, hw3, hn2, hw4, hn3, hx', ha1, ha2, ha3, ha4, ha5, ha6, true_or, true_and, implies_true]; exact (h72 _)) ?_ | refine wl_optcF rfl rfl (fun e2 => by simp (maxSteps := 1000000) only [e2, go_sem, c1, c2, c3, c4, c5, c6, hr.funcs.len, hfl, hr'.text.len, hlt', hw, hp1, hp2, hp3, hq1, hq2, hq3, Fn.row, hn1, hw3, hn2, hw4, hn3, hx', ha1, ha2, ha3, ha4, ha5, ha6, true_or, true_and, implies_true]; exact (h72 _)) ?_ | refine wl_optc2T rfl rfl (fun e1 e2 => by simp (maxSteps := 1000000) only [e1, e2, go_sem, c1, c2, c3, c4, c5, c6, hr.funcs.len, hfl, hr'.text.len, hlt', hw, hp1, hp2, hp3, hq1, hq2, hq3, Fn.row, hn1, hw3, hn2, hw4, hn3, hx', ha1, ha2, ha3, ha4, ha5, ha6, true_or, true_and, implies_true]; exact (h72 _)) ?_ | refine wl_optc2F rfl rfl (fun e1 e2 => by simp (maxSteps := 1000000) only [e1, e2, go_sem, c1, c2, c3, c4, c5, c6, hr.funcs.len, hfl, hr'.text.len, hlt', hw, hp1, hp2, hp3, hq1, hq2, hq3, Fn.row, hn1, hw3, hn2, hw4, hn3, hx', ha1, ha2, ha3, ha4, ha5, ha6, true_or, true_and, implies_true]; exact (h72 _)) ?_)
        | ((with_reducible show wl _ (XI.mk _ (some _) (XBody.call (XO.f 72) _) :: _) _ _); first | refine wl_optcT rfl rfl (fun e2 => by simp (maxSteps := 1000000) only [e2, go_sem, c1, c2, c3, c4, c5, c6, hr.funcs.len, hfl, hr'.text.len, hlt', hw, hp1, hp2, hp3, hq1, hq2, hq3, Fn.row, hn1, hw3, hn2, hw4, hn3, hx', ha1, ha2, ha3, ha4, ha5, ha6, true_or, true_and, implies_true]; exact (h72' _)) ?_ | refine wl_optcF rfl rfl (fun e2 => by simp (maxSteps := 1000000) only [e2, go_sem, c1, c2, c3, c4, c5, c6, hr.funcs.len, hfl, hr'.text.len, hlt', hw, hp1, hp2, hp3, hq1, hq2, hq3, Fn.row, hn1, hw3, hn2, hw4, hn3, hx', ha1, ha2, ha3, ha4, ha5, ha6, true_or, true_and, implies_true]; exact (h72' _)) ?_ | refine wl_optc2T rfl rfl (fun e1 e2 => by simp (maxSteps := 1000000) only [e1, e2, go_sem, c1, c2, c3, c4, c5, c6, hr.funcs.len, hfl, hr'.text.len, hlt', hw, hp1, hp2, hp3, hq1, hq2, hq3, Fn.row, hn1, hw3, hn2, hw4, hn3, hx', ha1, ha2, ha3, ha4, ha5, ha6, true_or, true_and, implies_true]; exact (h72' _)) ?_ | refine wl_optc2F rfl rfl (fun e1 e2 => by simp (maxSteps := 1000000) only [e1, e2, go_sem, c1, c2, c3, c4, c5, c6, hr.funcs.len, hfl, hr'.text.len, hlt', hw, hp1, hp2, hp3, hq1, hq2, hq3, Fn.row, hn1, hw3, hn2, hw4, hn3, hx', ha1, ha2, ha3, ha4, ha5, ha6, true_or, true_and, implies_true]; exact (h72' _)) ?_)
        | ((with_reducible show wds _ _ (DI.i (XI.mk _ (some _) (XBody.op _)) :: _) _ _); first | refine wds_optT rfl (fun e2 => by ((try simp only [Bool.and_eq_true] at e2); first | (simp (maxSteps := 1000000) only [e2, go_sem, c1, c2, c3, c4, c5, c6, hr.funcs.len, hfl, hr'.text.len, hlt', hw, hp1, hp2, hp3, hq1, hq2, hq3, Fn.row, hn1, hw3, hn2, hw4, hn3, hx', ha1, ha2, ha3, ha4, ha5, ha6, true_or, true_and, implies_true]; first | done | rfl))) ?_ | refine wds_optF rfl (fun e2 => by ((try simp only [Bool.and_eq_true] at e2); first | (simp (maxSteps := 1000000) only [e2, go_sem, c1, c2, c3, c4, c5, c6, hr.funcs.len, hfl, hr'.text.len, hlt', hw, hp1, hp2, hp3, hq1, hq2, hq3, Fn.row, hn1, hw3, hn2, hw4, hn3, hx', ha1, ha2, ha3, ha4, ha5, ha6, true_or, true_and, implies_true]; first | done | rfl))) ?_ | refine wds_opt2T rfl (fun e1 e2 => by ((try simp only [Bool.and_eq_true] at e1); first | (simp (maxSteps := 1000000) only [e1, e2, go_sem, c1, c2, c3, c4, c5, c6, hr.funcs.len, hfl, hr'.text.len, hlt', hw, hp1, hp2, hp3, hq1, hq2, hq3, Fn.row, hn1, hw3, hn2, hw4, hn3, hx', ha1, ha2, ha3, ha4, ha5, ha6, true_or, true_and, implies_true]; first | done | rfl))) ?_ | refine wds_opt2F rfl (fun e1 e2 => by ((try simp only [Bool.and_eq_true] at e1); first | (simp (maxSteps := 1000000) only [e1, e2, go_sem, c1, c2, c3, c4, c5, c6, hr.funcs.len, hfl, hr'.text.len, hlt', hw, hp1, hp2, hp3, hq1, hq2, hq3, Fn.row, hn1, hw3, hn2, hw4, hn3, hx', ha1, ha2, ha3, ha4, ha5, ha6, true_or, true_and, implies_true]; first | done | rfl))) ?_)
        | ((with_reducible show wds _ _ (DI.i (XI.mk _ (some _) (XBody.call (XO.f 72) _)) :: _) _ _); first | refine wds_optcT rfl rfl (fun e2 => by simp (maxSteps := 1000000) only [e2, go_sem, c1, c2, c3, c4, c5, c6, hr.funcs.len, hfl, hr'.text.len, hlt', hw, hp1, hp2, hp3, hq1, hq2, hq3, Fn.row, hn1, hw3, hn2, hw4, hn3, hx', ha1, ha2, ha3, ha4, ha5, ha6, true_or, true_and, implies_true]; exact (h72 _)) ?_ | refine wds_optcF rfl rfl (fun e2 => by simp (maxSteps := 1000000) only [e2, go_sem, c1, c2, c3, c4, c5, c6, hr.funcs.len, hfl, hr'.text.len, hlt', hw, hp1, hp2, hp3, hq1, hq2, hq3, Fn.row, hn1, hw3, hn2, hw4, hn3, hx', ha1, ha2, ha3, ha4, ha5, ha6, true_or, true_and, implies_true]; exact (h72 _)) ?_ | refine wds_optc2T rfl rfl (fun e1 e2 => by simp (maxSteps := 1000000) only [e1, e2, go_sem, c1, c2, c3, c4, c5, c6, hr.funcs.len, hfl, hr'.text.len, hlt', hw, hp1, hp2, hp3, hq1, hq2, hq3, Fn.row, hn1, hw3, hn2, hw4, hn3, hx', ha1, ha2, ha3, ha4, ha5, ha6, true_or, true_and, implies_true]; exact (h72 _)) ?_ | refine wds_optc2F rfl rfl (fun e1 e2 => by simp (maxSteps := 1000000) only [e1, e2, go_sem, c1, c2, c3, c4, c5, c6, hr.funcs.len, hfl, hr'.text.len, hlt', hw, hp1, hp2, hp3, hq1, hq2, hq3, Fn.row, hn1, hw3, hn2, hw4, hn3, hx', ha1, ha2, ha3, ha4, ha5, ha6, true_or, true_and, implies_true]; exact (h72 _)) ?_)
        | ((with_reducible show wds _ _ (DI.i (XI.mk _ (some _) (XBody.call (XO.f 72) _)) :: _) _ _); first | refine wds_optcT rfl rfl (fun e2 => by simp (maxSteps := 1000000) only [e2, go_sem, c1, c2, c3, c4, c5, c6, hr.funcs.len, hfl, hr'.text.len, hlt', hw, hp1, hp2, hp3, hq1, hq2, hq3, Fn.row, hn1, hw3, hn2, hw4, hn3, hx', ha1, ha2, ha3, ha4, ha5, ha6, true_or, true_and, implies_true]; exact (h72' _)) ?_ | refine wds_optcF rfl rfl (fun e2 => by simp (maxSteps := 1000000) only [e2, go_sem, c1, c2, c3, c4, c5, c6, hr.funcs.len, hfl, hr'.text.len, hlt', hw, hp1, hp2, hp3, hq1, hq2, hq3, Fn.row, hn1, hw3, hn2, hw4, hn3, hx', ha1, ha2, ha3, ha4, ha5, ha6, true_or, true_and, implies_true]; exact (h72' _)) ?_ | refine wds_optc2T rfl rfl (fun e1 e2 => by simp (maxSteps := 1000000) only [e1, e2, go_sem, c1, c2, c3, c4, c5, c6, hr.funcs.len, hfl, hr'.text.len, hlt', hw, hp1, hp2, hp3, hq1, hq2, hq3, Fn.row, hn1, hw3, hn2, hw4, hn3, hx', ha1, ha2, ha3, ha4, ha5, ha6, true_or, true_and, implies_true]; exact (h72' _)) ?_ | refine wds_optc2F rfl rfl (fun e1 e2 => by simp (maxSteps := 1000000) only [e1, e2, go_sem, c1, c2, c3, c4, c5, c6, hr.funcs.len, hfl, hr'.text.len, hlt', hw, hp1, hp2, hp3, hq1, hq2, hq3, Fn.row, hn1, hw3, hn2, hw4, hn3, hx', ha1, ha2, ha3, ha4, ha5, ha6, true_or, true_and, implies_true]; exact (h72' _)) ?_)
        | ((with_reducible show wl _ (XI.mk _ (some _) _ :: _) _ _); first | ((refine wl_ifT rfl (fun e => ?_) (fun e => ?_)) <;> first | rw [e] | skip) | ((refine wl_ifF rfl (fun e => ?_) (fun e => ?_)) <;> first | rw [e] | skip))
        | ((with_reducible show wds _ _ (DI.i (XI.mk _ (some _) _) :: _) _ _); first | ((refine wds_ifT rfl (fun e => ?_) (fun e => ?_)) <;> first | rw [e] | skip) | ((refine wds_ifF rfl (fun e => ?_) (fun e => ?_)) <;> first | rw [e] | skip))
      exact hfin _
    · skip
      repeat' first
        | ((with_reducible show wx _ (XCode.cond _ _ _) _ _); refine wx_if rfl (fun _ => ?_) (fun _ => ?_))
        | ((with_reducible show SemL _ _ _ _); refine SemL.of ?_)
        | ((with_reducible show SemD _ _ _ _ _); refine SemD.of ?_)
        | ((with_reducible show SimCall _ 29 _ _ _); refine (h29 _).mono ?_; rintro r h' ⟨rfl, rfl⟩)
        | ((with_reducible show dK _ 29 _ _ _); refine dK_app _ _ (h29 _) ?_)
        | ((with_reducible show SimCall _ 29 _ _ _); refine (h29' _).mono ?_; rintro r h' ⟨rfl, rfl⟩)
        | ((with_reducible show dK _ 29 _ _ _); refine dK_app _ _ (h29' _) ?_)
        | ((with_reducible show SimCall _ 72 _ _ _); refine (h72 _).mono ?_; rintro r h' ⟨rfl, rfl⟩)
        | ((with_reducible show dK _ 72 _ _ _); refine dK_of _ (h72 _) ?_)
        | ((with_reducible show SimCall _ 72 _ _ _); refine (h72' _).mono ?_; rintro r h' ⟨rfl, rfl⟩)
        | ((with_reducible show dK _ 72 _ _ _); refine dK_of _ (h72' _) ?_)
        | simp (maxSteps := 1000000) only [go_sem, c1, c2, c3, c4, c5, c6, hr.funcs.len, hfl, hr'.text.len, hlt', hw, hp1, hp2, hp3, hq1, hq2, hq3, Fn.row, hn1, hw3, hn2, hw4, hn3, ha1, ha2, ha3, ha4, ha5, ha6, true_or, true_and, implies_true]
        | ((with_reducible show wl _ (XI.mk _ (some _) (XBody.op _) :: _) _ _); first | refine wl_optT rfl (fun e2 => by ((try simp only [Bool.and_eq_true] at e2); first | (simp (maxSteps := 1000000) only [e2, go_sem, c1, c2, c3, c4, c5, c6, hr.funcs.len, hfl, hr'.text.len, hlt', hw, hp1, hp2, hp3, hq1, hq2, hq3, Fn.row, hn1, hw3, hn2, hw4, hn3, ha1, ha2, ha3, ha4, ha5, ha6, true_or, true_and, implies_true]; first | done | rfl))) ?_ | refine wl_optF rfl (fun e2 => by ((try simp only [Bool.and_eq_true] at e2); first | (simp (maxSteps := 1000000) only [e2, go_sem, c1, c2, c3, c4, c5, c6, hr.funcs.len, hfl, hr'.text.len, hlt', hw, hp1, hp2, hp3, hq1, hq2, hq3, Fn.row, hn1, hw3, hn2, hw4, hn3, ha1, ha2, ha3, ha4, ha5, ha6, true_or, true_and, implies_true]; first | done | rfl))) ?_ | refine wl_opt2T rfl (fun e1 e2 => by ((try simp only [Bool.and_eq_true] at e1); first | (simp (maxSteps := 1000000) only [e1, e2, go_sem, c1, c2, c3, c4, c5, c6, hr.funcs.len, hfl, hr'.text.len, hlt', hw, hp1, hp2, hp3, hq1, hq2, hq3, Fn.row, hn1, hw3, hn2, hw4, hn3, ha1, ha2, ha3, ha4, ha5, ha6, true_or, true_and, implies_true]; first | done | rfl))) ?_ | refine wl_opt2F rfl (fun e1 e2 => by ((try simp only [Bool.and_eq_true] at e1); first | (simp (maxSteps := 1000000) only [e1, e2, go_sem, c1, c2, c3, c4, c5, c6, hr.funcs.len, hfl, hr'.text.len, hlt', hw, hp1, hp2, hp3, hq1, hq2, hq3, Fn.row, hn1, hw3, hn2, hw4, hn3, ha1, ha2, ha3, ha4, ha5, ha6, true_or, true_and, implies_true]; first | done | rfl))) ?_)
        | ((with_reducible show wl _ (XI.mk _ (some _) (XBody.call (XO.f 72) _) :: _) _ _); first | refine wl_optcT rfl rfl (fun e2 => by simp (maxSteps := 1000000) only [e2, go_sem, c1, c2, c3, c4, c5, c6, hr.funcs.len, hfl, hr'.text.len, hlt', hw, hp1, hp2, hp3, hq1, hq2, hq3, Fn.row, hn1, hw3, hn2, hw4, hn3, ha1, ha2, ha3, ha4, ha5, ha6, true_or, true_and, implies_true]; exact (h72 _)) ?_ | refine wl_optcF rfl rfl (fun e2 => by simp (maxSteps := 1000000) only [e2, go_sem, c1, c2, c3, c4, c5, c6, hr.funcs.len, hfl, hr'.text.len, hlt', hw, hp1, hp2, hp3, hq1, hq2, hq3, Fn.row, hn1, hw3, hn2, hw4, hn3, ha1, ha2, ha3, ha4, ha5, ha6, true_or, true_and, implies_true]; exact (h72 _)) ?_ | refine wl_optc2T rfl rfl (fun e1 e2 => by simp (maxSteps := 1000000) only [e1, e2, go_sem, c1, c2, c3, c4, c5, c6, hr.funcs.len, hfl, hr'.text.len, hlt', hw, hp1, hp2, hp3, hq1, hq2, hq3, Fn.row, hn1, hw3, hn2, hw4, hn3, ha1, ha2, ha3, ha4, ha5, ha6, true_or, true_and, implies_true]; exact (h72 _)) ?_ | refine wl_optc2F rfl rfl (fun e1 e2 => by simp (maxSteps := 1000000) only [e1, e2, go_sem, c1, c2, c3, c4, c5, c6, hr.funcs.len, hfl, hr'.text.len, hlt', hw, hp1, hp2, hp3, hq1, hq2, hq3, Fn.row, hn1, hw3, hn2, hw4, hn3, ha1, ha2, ha3, ha4, ha5, ha6, true_or, true_and, implies_true]; exact (h72 _)) ?_)
        | ((with_reducible show wl _ (XI.mk _ (some _) (XBody.call (XO.f 72) _) :: _) _ _); first | refine wl_optcT rfl rfl (fun e2 => by simp (maxSteps := 1000000) only [e2, go_sem, c1, c2, c3, c4, c5, c6, hr.funcs.len, hfl, hr'.text.len, hlt', hw, hp1, hp2, hp3, hq1, hq2, hq3, Fn.row, hn1, hw3, hn2, hw4, hn3, ha1, ha2, ha3, ha4, ha5, ha6, true_or, true_and, implies_true]; exact (h72' _)) ?_ | refine wl_optcF rfl rfl (fun e2 => by simp (maxSteps := 1000000) only [e2, go_sem, c1, c2, c3, c4, c5, c6, hr.funcs.len, hfl, hr'.text.len, hlt', hw, hp1, hp2, hp3, hq1, hq2, hq3, Fn.row, hn1, hw3, hn2, hw4, hn3, ha1, ha2, ha3, ha4, ha5, ha6, true_or, true_and, implies_true]; exact (h72' _)) ?_ | refine wl_optc2T rfl rfl (fun e1 e2 => by simp (maxSteps := 1000000) only [e1, e2, go_sem, c1, c2, c3, c4, c5, c6, hr.funcs.len, hfl, hr'.text.len, hlt', hw, hp1, hp2, hp3, hq1, hq2, hq3, Fn.row, hn1, hw3, hn2, hw4, hn3, ha1, ha2, ha3, ha4, ha5, ha6, true_or, true_and, implies_true]; exact (h72' _)) ?_ | refine wl_optc2F rfl rfl (fun e1 e2 => by simp (maxSteps := 1000000) only [e1, e2, go_sem, c1, c2, c3, c4, c5, c6, hr.funcs.len, hfl, hr'.text.len, hlt', hw, hp1, hp2, hp3, hq1, hq2, hq3, Fn.row, hn1, hw3, hn2, hw4, hn3, ha1, ha2, ha3, ha4, ha5, ha6, true_or, true_and, implies_true]; exact (h72' _)) ?_)
        | ((with_reducible show wds _ _ (DI.i (XI.mk _ (some _) (XBody.op _)) :: _) _ _); first | refine wds_optT rfl (fun e2 => by ((try simp only [Bool.and_eq_true] at e2); first | (simp (maxSteps := 1000000) only [e2, go_sem, c1, c2, c3, c4, c5, c6, hr.funcs.len, hfl, hr'.text.len, hlt', hw, hp1, hp2, hp3, hq1, hq2, hq3, Fn.row, hn1, hw3, hn2, hw4, hn3, ha1, ha2, ha3, ha4, ha5, ha6, true_or, true_and, implies_true]; first | done | rfl))) ?_ | refine wds_optF rfl (fun e2 => by ((try simp only [Bool.and_eq_true] at e2); first | (simp (maxSteps := 1000000) only [e2, go_sem, c1, c2, c3, c4, c5, c6, hr.funcs.len, hfl, hr'.text.len, hlt', hw, hp1, hp2, hp3, hq1, hq2, hq3, Fn.row, hn1, hw3, hn2, hw4, hn3, ha1, ha2, ha3, ha4, ha5, ha6, true_or, true_and, implies_true]; first | done | rfl))) ?_ | refine wds_opt2T rfl (fun e1 e2 => by ((try simp only [Bool.and_eq_true] at e1); first | (simp (maxSteps := 1000000) only [e1, e2, go_sem, c1, c2, c3, c4, c5, c6, hr.funcs.len, hfl, hr'.text.len, hlt', hw, hp1, hp2, hp3, hq1, hq2, hq3, Fn.row, hn1, hw3, hn2, hw4, hn3, ha1, ha2, ha3, ha4, ha5, ha6, true_or, true_and, implies_true]; first | done | rfl))) ?_ | refine wds_opt2F rfl (fun e1 e2 => by ((try simp only [Bool.and_eq_true] at e1); first | (simp (maxSteps := 1000000) only [e1, e2, go_sem, c1, c2, c3, c4, c5, c6, hr.funcs.len, hfl, hr'.text.len, hlt', hw, hp1, hp2, hp3, hq1, hq2, hq3, Fn.row, hn1, hw3, hn2, hw4, hn3, ha1, ha2, ha3, ha4, ha5, ha6, true_or, true_and, implies_true]; first | done | rfl))) ?_)
        | ((with_reducible show wds _ _ (DI.i (XI.mk _ (some _) (XBody.call (XO.f 72) _)) :: _) _ _); first | refine wds_optcT rfl rfl (fun e2 => by simp (maxSteps := 1000000) only [e2, go_sem, c1, c2, c3, c4, c5, c6, hr.funcs.len, hfl, hr'.text.len, hlt', hw, hp1, hp2, hp3, hq1, hq2, hq3, Fn.row, hn1, hw3, hn2, hw4, hn3, ha1, ha2, ha3, ha4, ha5, ha6, true_or, true_and, implies_true]; exact (h72 _)) ?_ | refine wds_optcF rfl rfl (fun e2 => by simp (maxSteps := 1000000) only [e2, go_sem, c1, c2, c3, c4, c5, c6, hr.funcs.len, hfl, hr'.text.len, hlt', hw, hp1, hp2, hp3, hq1, hq2, hq3, Fn.row, hn1, hw3, hn2, hw4, hn3, ha1, ha2, ha3, ha4, ha5, ha6, true_or, true_and, implies_true]; exact (h72 _)) ?_ | refine wds_optc2T rfl rfl (fun e1 e2 => by simp (maxSteps := 1000000) only [e1, e2, go_sem, c1, c2, c3, c4, c5, c6, hr.funcs.len, hfl, hr'.text.len, hlt', hw, hp1, hp2, hp3, hq1, hq2, hq3, Fn.row, hn1, hw3, hn2, hw4, hn3, ha1, ha2, ha3, ha4, ha5, ha6, true_or, true_and, implies_true]; exact (h72 _)) ?_ | refine wds_optc2F rfl rfl (fun e1 e2 => by simp (maxSteps := 1000000) only [e1, e2, go_sem, c1, c2, c3, c4, c5, c6, hr.funcs.len, hfl, hr'.text.len, hlt', hw, hp1, hp2, hp3, hq1, hq2, hq3, Fn.row, hn1, hw3, hn2, hw4, hn3, ha1, ha2, ha3, ha4, ha5, ha6, true_or, true_and, implies_true]; exact (h72 _)) ?_)
        | ((with_reducible show wds _ _ (DI.i (XI.mk _ (some _) (XBody.call (XO.f 72) _)) :: _) _ _); first | refine wds_optcT rfl rfl (fun e2 => by simp (maxSteps := 1000000) only [e2, go_sem, c1, c2, c3, c4, c5, c6, hr.funcs.len, hfl, hr'.text.len, hlt', hw, hp1, hp2, hp3, hq1, hq2, hq3, Fn.row, hn1, hw3, hn2, hw4, hn3, ha1, ha2, ha3, ha4, ha5, ha6, true_or, true_and, implies_true]; exact (h72' _)) ?_ | refine wds_optcF rfl rfl (fun e2 => by simp (maxSteps := 1000000) only [e2, go_sem, c1, c2, c3, c4, c5, c6, hr.funcs.len, hfl, hr'.text.len, hlt', hw, hp1, hp2, hp3, hq1, hq2, hq3, Fn.row, hn1, hw3, hn2, hw4, hn3, ha1, ha2, ha3, ha4, ha5, ha6, true_or, true_and, implies_true]; exact (h72' _)) ?_ | refine wds_optc2T rfl rfl (fun e1 e2 => by simp (maxSteps := 1000000) only [e1, e2, go_sem, c1, c2, c3, c4, c5, c6, hr.funcs.len, hfl, hr'.text.len, hlt', hw, hp1, hp2, hp3, hq1, hq2, hq3, Fn.row, hn1, hw3, hn2, hw4, hn3, ha1, ha2, ha3, ha4, ha5, ha6, true_or, true_and, implies_true]; exact (h72' _)) ?_ | refine wds_optc2F rfl rfl (fun e1 e2 => by simp (maxSteps := 1000000) only [e1, e2, go_sem, c1, c2, c3, c4, c5, c6, hr.funcs.len, hfl, hr'.text.len, hlt', hw, hp1, hp2, hp3, hq1, hq2, hq3, Fn.row, hn1, hw3, hn2, hw4, hn3, ha1, ha2, ha3, ha4, ha5, ha6, true_or, true_and, implies_true]; exact (h72' _)) ?_)
        | ((with_reducible show wl _ (XI.mk _ (some _) _ :: _) _ _); first | ((refine wl_ifT rfl (fun e => ?_) (fun e => ?_)) <;> first | rw [e] | skip) | ((refine wl_ifF rfl (fun e => ?_) (fun e => ?_)) <;> first | rw [e] | skip))
        | ((with_reducible show wds _ _ (DI.i (XI.mk _ (some _) _) :: _) _ _); first | ((refine wds_ifT rfl (fun e => ?_) (fun e => ?_)) <;> first | rw [e] | skip) | ((refine wds_ifF rfl (fun e => ?_) (fun e => ?_)) <;> first | rw [e] | skip))
      exact hfin _
  · have hlt' : ¬ ((i : Int) < im.funcs.length) := by omega
    rw [List.drop_eq_nil_of_le (by rw [hk.len]; omega)] at hfb
    simp only [funcsB, decide_eq_true_eq] at hfb
    repeat' first
      | ((with_reducible show wx _ (XCode.cond _ _ _) _ _); refine wx_if rfl (fun _ => ?_) (fun _ => ?_))
      | ((with_reducible show SemL _ _ _ _); refine SemL.of ?_)
      | ((with_reducible show SemD _ _ _ _ _); refine SemD.of ?_)
      | simp (maxSteps := 1000000) only [go_sem, hr.funcs.len, hr'.text.len, hfb, hlt']
      | ((with_reducible show wl _ (XI.mk _ (some _) (XBody.op _) :: _) _ _); first | refine wl_optT rfl (fun e2 => by ((try simp only [Bool.and_eq_true] at e2); first | (simp (maxSteps := 1000000) only [e2, go_sem, hr.funcs.len, hr'.text.len, hfb, hlt']; first | done | rfl))) ?_ | refine wl_optF rfl (fun e2 => by ((try simp only [Bool.and_eq_true] at e2); first | (simp (maxSteps := 1000000) only [e2, go_sem, hr.funcs.len, hr'.text.len, hfb, hlt']; first | done | rfl))) ?_ | refine wl_opt2T rfl (fun e1 e2 => by ((try simp only [Bool.and_eq_true] at e1); first | (simp (maxSteps := 1000000) only [e1, e2, go_sem, hr.funcs.len, hr'.text.len, hfb, hlt']; first | done | rfl))) ?_ | refine wl_opt2F rfl (fun e1 e2 => by ((try simp only [Bool.and_eq_true] at e1); first | (simp (maxSteps := 1000000) only [e1, e2, go_sem, hr.funcs.len, hr'.text.len, hfb, hlt']; first | done | rfl))) ?_)
      | ((with_reducible show wds _ _ (DI.i (XI.mk _ (some _) (XBody.op _)) :: _) _ _); first | refine wds_optT rfl (fun e2 => by ((try simp only [Bool.and_eq_true] at e2); first | (simp (maxSteps := 1000000) only [e2, go_sem, hr.funcs.len, hr'.text.len, hfb, hlt']; first | done | rfl))) ?_ | refine wds_optF rfl (fun e2 => by ((try simp only [Bool.and_eq_true] at e2); first | (simp (maxSteps := 1000000) only [e2, go_sem, hr.funcs.len, hr'.text.len, hfb, hlt']; first | done | rfl))) ?_ | refine wds_opt2T rfl (fun e1 e2 => by ((try simp only [Bool.and_eq_true] at e1); first | (simp (maxSteps := 1000000) only [e1, e2, go_sem, hr.funcs.len, hr'.text.len, hfb, hlt']; first | done | rfl))) ?_ | refine wds_opt2F rfl (fun e1 e2 => by ((try simp only [Bool.and_eq_true] at e1); first | (simp (maxSteps := 1000000) only [e1, e2, go_sem, hr.funcs.len, hr'.text.len, hfb, hlt']; first | done | rfl))) ?_)
      | ((with_reducible show wl _ (XI.mk _ (some _) _ :: _) _ _); first | ((refine wl_ifT rfl (fun e => ?_) (fun e => ?_)) <;> first | rw [e] | skip) | ((refine wl_ifF rfl (fun e => ?_) (fun e => ?_)) <;> first | rw [e] | skip))
      | ((with_reducible show wds _ _ (DI.i (XI.mk _ (some _) _) :: _) _ _); first | ((refine wds_ifT rfl (fun e => ?_) (fun e => ?_)) <;> first | rw [e] | skip) | ((refine wds_ifF rfl (fun e => ?_) (fun e => ?_)) <;> first | rw [e] | skip))
    exact ⟨more_one, plain_v _⟩
end Go.Tidy
namespace Go.Tidy
open Go Go.Eng Go.Proofs
set_option maxRecDepth 100000
def x33 : XCode := .seq (.reg [⟨(some 2), none, (.op (.mov (.k (.bool false))))⟩])
 (.seq (.reg [⟨(some 11), none, (.op (.mov (.t 0)))⟩,
    ⟨(some 12), none, (.call (.f 30) [(.t 11)])⟩,
    ⟨(some 3), none, (.op (.mov (.t 12)))⟩])
  (.seq (.reg [⟨(some 13), none, (.op (.mov (.t 0)))⟩,
     ⟨(some 14), none, (.call (.f 77) [(.t 13)])⟩,
     ⟨(some 4), none, (.op (.mov (.t 14)))⟩])
   (.seq (.seq (.reg [⟨(some 5), none, (.op (.mov (.k (.int .i64 0))))⟩])
     (.block 0 (.loop (.seq (.seq (.reg [⟨(some 15), none, (.op (.mov (.t 5)))⟩,
           ⟨(some 16), none, (.op (.mov (.t 0)))⟩,
           ⟨(some 17), none, (.op (.lenl (.t 16)))⟩,
           ⟨(some 18), none, (.op (.bin .lss (.t 15) (.t 17)))⟩])
         (.cond (.t 18) (.skip)
          (.exit 0)))
        (.seq (.block 1 (.seq (.reg [⟨(some 21), none, (.op (.mov (.t 0)))⟩,
             ⟨(some 22), none, (.op (.mov (.t 5)))⟩,
             ⟨(some 23), none, (.op (.iad 5 (.t 21) (.t 22)))⟩,
             ⟨(some 24), none, (.op (.lda 5 (.t 23)))⟩,
             ⟨(some 6), none, (.op (.alloc [(.int .i64 0), (.int .i64 0), (.int .i64 0), (.int .i64 0), (.int .i64 0)]))⟩,
             ⟨none, none, (.op (.st 5 (.t 6) (.t 24)))⟩])
           (.seq (.seq (.reg [⟨(some 25), none, (.op (.mov (.t 4)))⟩,
               ⟨(some 26), none, (.op (.mov (.t 5)))⟩,
               ⟨(some 27), none, (.op (.iad 1 (.t 25) (.t 26)))⟩,
               ⟨(some 28), none, (.op (.ld1 (.t 27)))⟩,
               ⟨(some 29), none, (.op (.un .not (.t 28)))⟩,
               ⟨(some 30), none, (.op (.mov (.t 29)))⟩,
               ⟨(some 31), (some (30, false)), (.op (.fad 0 (.t 6)))⟩,
               ⟨(some 32), (some (30, false)), (.op (.ld1 (.t 31)))⟩,
               ⟨(some 33), (some (30, false)), (.op (.bin .eql (.t 32) (.k (.int .i64 191))))⟩,
               ⟨(some 34), (some (30, false)), (.op (.mov (.t 33)))⟩,
               ⟨(some 35), (some (34, true)), (.op (.fad 3 (.t 6)))⟩,
               ⟨(some 36), (some (34, true)), (.op (.ld1 (.t 35)))⟩,
               ⟨(some 37), (some (34, true)), (.op (.bin .eql (.t 36) (.k (.int .i64 0))))⟩,
               ⟨(some 38), (some (30, false)), (.op (.pick (.t 34) (.t 37) (.k (.bool false))))⟩,
               ⟨(some 39), (some (30, false)), (.op (.mov (.t 38)))⟩,
               ⟨(some 40), (some (39, true)), (.op (.fad 1 (.t 6)))⟩,
               ⟨(some 41), (some (39, true)), (.op (.ld1 (.t 40)))⟩,
               ⟨(some 42), (some (39, true)), (.op (.fad 2 (.t 6)))⟩,
               ⟨(some 43), (some (39, true)), (.op (.ld1 (.t 42)))⟩,
               ⟨(some 44), (some (39, true)), (.op (.bin .eql (.t 41) (.t 43)))⟩,
               ⟨(some 45), (some (30, false)), (.op (.pick (.t 39) (.t 44) (.k (.bool false))))⟩,
               ⟨(some 46), none, (.op (.pick (.t 30) (.k (.bool true)) (.t 45)))⟩])
             (.cond (.t 46) (.seq (.reg [⟨(some 2), none, (.op (.mov (.k (.bool false))))⟩])
               (.ret))
              (.skip)))
            (.seq (.seq (.reg [⟨(some 47), none, (.op (.lda 5 (.t 6)))⟩,
                ⟨(some 48), none, (.call (.f 31) [(.t 47)])⟩,
                ⟨(some 49), none, (.op (.un .not (.t 48)))⟩])
              (.cond (.t 49) (.exit 1)
               (.skip)))
             (.seq (.reg [⟨(some 50), none, (.op (.mov (.t 0)))⟩,
                ⟨(some 51), none, (.op (.mov (.t 3)))⟩,
                ⟨(some 52), none, (.op (.mov (.t 5)))⟩,
                ⟨(some 53), none, (.call (.f 32) [(.t 50), (.t 51), (.t 52)])⟩,
                ⟨(some 7), none, (.op (.mov (.t 53)))⟩])
              (.seq (.seq (.reg [⟨(some 54), none, (.op (.mov (.t 7)))⟩,
                  ⟨(some 55), none, (.op (.bin .lss (.t 54) (.k (.int .i64 0))))⟩,
                  ⟨(some 56), none, (.op (.mov (.t 55)))⟩,
                  ⟨(some 57), (some (56, false)), (.op (.mov (.t 7)))⟩,
                  ⟨(some 58), (some (56, false)), (.op (.mov (.t 5)))⟩,
                  ⟨(some 59), (some (56, false)), (.op (.bin .add (.t 58) (.k (.int .i64 1))))⟩,
                  ⟨(some 60), (some (56, false)), (.op (.bin .eql (.t 57) (.t 59)))⟩,
                  ⟨(some 61), none, (.op (.pick (.t 56) (.k (.bool true)) (.t 60)))⟩])
                (.cond (.t 61) (.seq (.reg [⟨(some 2), none, (.op (.mov (.k (.bool false))))⟩])
                  (.ret))
                 (.skip)))
               (.seq (.reg [⟨(some 63), none, (.op (.mov (.t 0)))⟩,
                  ⟨(some 64), none, (.op (.mov (.t 3)))⟩,
                  ⟨(some 65), none, (.op (.mov (.t 5)))⟩,
                  ⟨(some 66), none, (.call (.f 78) [(.t 63), (.t 64), (.t 65)])⟩,
                  ⟨(some 62), none, (.op (.mov (.t 66)))⟩,
                  ⟨(some 67), none, (.op (.ext 0 (.t 62)))⟩,
                  ⟨(some 68), none, (.op (.ext 1 (.t 62)))⟩,
                  ⟨(some 8), none, (.op (.mov (.t 67)))⟩,
                  ⟨(some 9), none, (.op (.mov (.t 68)))⟩])
                (.seq (.reg [⟨(some 69), none, (.op (.mov (.t 0)))⟩,
                   ⟨(some 70), none, (.op (.mov (.t 7)))⟩,
                   ⟨(some 71), none, (.op (.iad 5 (.t 69) (.t 70)))⟩,
                   ⟨(some 72), none, (.op (.lda 5 (.t 71)))⟩,
                   ⟨(some 73), none, (.call (.f 31) [(.t 72)])⟩,
                   ⟨(some 74), none, (.op (.mov (.t 73)))⟩,
                   ⟨(some 75), (some (74, true)), (.op (.mov (.t 9)))⟩,
                   ⟨(some 76), none, (.op (.pick (.t 74) (.t 75) (.k (.bool false))))⟩])
                 (.cond (.t 76) (.seq (.drw none [⟨(some 77), none, (.op (.mov (.t 3)))⟩,
                     ⟨(some 78), none, (.op (.mov (.t 8)))⟩,
                     ⟨(some 79), none, (.op (.iad 1 (.t 77) (.t 78)))⟩,
                     ⟨(some 80), none, (.op (.ld1 (.t 79)))⟩,
                     ⟨(some 81), none, (.op (.mov (.t 3)))⟩,
                     ⟨(some 82), none, (.op (.mov (.t 5)))⟩,
                     ⟨(some 83), none, (.op (.iad 1 (.t 81) (.t 82)))⟩,
                     ⟨(some 84), none, (.op (.ld1 (.t 83)))⟩,
                     ⟨(some 85), none, (.op (.bin .sub (.t 80) (.t 84)))⟩,
                     ⟨(some 86), none, (.op (.bin .sub (.t 85) (.k (.int .i64 1))))⟩,
                     ⟨(some 10), none, (.op (.mov (.t 86)))⟩])
                   (.seq (.reg [⟨(some 87), none, (.op (.fad 0 (.t 6)))⟩,
                      ⟨(some 88), none, (.op (.ld1 (.t 87)))⟩,
                      ⟨(some 89), none, (.op (.bin .eql (.t 88) (.k (.int .i64 6))))⟩,
                      ⟨(some 90), none, (.op (.mov (.t 89)))⟩,
                      ⟨(some 91), (some (90, true)), (.op (.mov (.t 10)))⟩,
                      ⟨(some 92), (some (90, true)), (.op (.bin .geq (.t 91) (.k (.int .i64 (-2147483648)))))⟩,
                      ⟨(some 93), none, (.op (.pick (.t 90) (.t 92) (.k (.bool false))))⟩,
                      ⟨(some 94), none, (.op (.mov (.t 93)))⟩,
                      ⟨(some 95), (some (94, true)), (.op (.mov (.t 10)))⟩,
                      ⟨(some 96), (some (94, true)), (.op (.bin .lss (.t 95) (.k (.int .i64 2147483648))))⟩,
                      ⟨(some 97), none, (.op (.pick (.t 94) (.t 96) (.k (.bool false))))⟩,
                      ⟨(some 98), none, (.op (.mov (.t 97)))⟩,
                      ⟨(some 99), (some (98, false)), (.op (.fad 0 (.t 6)))⟩,
                      ⟨(some 100), (some (98, false)), (.op (.ld1 (.t 99)))⟩,
                      ⟨(some 101), (some (98, false)), (.op (.bin .eql (.t 100) (.k (.int .i64 5))))⟩,
                      ⟨(some 102), (some (98, false)), (.op (.mov (.t 101)))⟩,
                      ⟨(some 103), (some (102, true)), (.op (.mov (.t 10)))⟩,
                      ⟨(some 104), (some (102, true)), (.op (.bin .geq (.t 103) (.k (.int .i64 (-32768)))))⟩,
                      ⟨(some 105), (some (98, false)), (.op (.pick (.t 102) (.t 104) (.k (.bool false))))⟩,
                      ⟨(some 106), (some (98, false)), (.op (.mov (.t 105)))⟩,
                      ⟨(some 107), (some (106, true)), (.op (.mov (.t 10)))⟩,
                      ⟨(some 108), (some (106, true)), (.op (.bin .lss (.t 107) (.k (.int .i64 32768))))⟩,
                      ⟨(some 109), (some (98, false)), (.op (.pick (.t 106) (.t 108) (.k (.bool false))))⟩,
                      ⟨(some 110), none, (.op (.pick (.t 98) (.k (.bool true)) (.t 109)))⟩])
                    (.cond (.t 110) (.seq (.reg [⟨(some 2), none, (.op (.mov (.k (.bool false))))⟩])
                      (.ret))
                     (.skip))))
                  (.skip))))))))))
         (.reg [⟨(some 19), none, (.op (.mov (.t 5)))⟩,
           ⟨(some 20), none, (.op (.bin .add (.t 19) (.k (.int .i64 1))))⟩,
           ⟨(some 5), none, (.op (.mov (.t 20)))⟩]))))))
    (.seq (.reg [⟨(some 2), none, (.op (.mov (.k (.bool true))))⟩])
     (.ret)))))
def r33 : List XRes := [.t 2]
theorem res33 : resolveF Tryz.prog 33 = some (x33, r33, 111) := by kernel_rfl
def x77 : XCode := .seq (.reg [⟨(some 2), none, (.op (.mov (.k (.slice none 0 0))))⟩])
 (.seq (.reg [⟨(some 8), none, (.op (.mov (.t 0)))⟩,
    ⟨(some 9), none, (.call (.f 30) [(.t 8)])⟩,
    ⟨(some 3), none, (.op (.mov (.t 9)))⟩])
  (.seq (.reg [⟨(some 10), none, (.op (.mov (.t 0)))⟩,
     ⟨(some 11), none, (.op (.lenl (.t 10)))⟩,
     ⟨(some 12), none, (.op (.mks 1 1 [(.bool false)] (.t 11) (.t 11)))⟩,
     ⟨(some 4), none, (.op (.mov (.t 12)))⟩])
   (.seq (.reg [⟨(some 13), none, (.op (.bsl 1 1 [(.int .i64 0)] [(0, 1, (.k (.int .i64 0)))]))⟩,
      ⟨(some 5), none, (.op (.mov (.t 13)))⟩])
    (.seq (.seq (.reg [⟨(some 6), none, (.op (.mov (.k (.int .i64 0))))⟩])
      (.block 0 (.loop (.seq (.seq (.reg [⟨(some 14), none, (.op (.mov (.t 6)))⟩,
            ⟨(some 15), none, (.op (.mov (.t 5)))⟩,
            ⟨(some 16), none, (.op (.lenl (.t 15)))⟩,
            ⟨(some 17), none, (.op (.bin .lss (.t 14) (.t 16)))⟩])
          (.cond (.t 17) (.skip)
           (.exit 0)))
         (.seq (.block 1 (.seq (.reg [⟨(some 20), none, (.op (.mov (.t 5)))⟩,
              ⟨(some 21), none, (.op (.mov (.t 6)))⟩,
              ⟨(some 22), none, (.op (.iad 1 (.t 20) (.t 21)))⟩,
              ⟨(some 23), none, (.op (.ld1 (.t 22)))⟩,
              ⟨(some 7), none, (.op (.mov (.t 23)))⟩])
            (.seq (.seq (.reg [⟨(some 24), none, (.op (.mov (.t 7)))⟩,
                ⟨(some 25), none, (.op (.bin .lss (.t 24) (.k (.int .i64 0))))⟩,
                ⟨(some 26), none, (.op (.mov (.t 25)))⟩,
                ⟨(some 27), (some (26, false)), (.op (.mov (.t 7)))⟩,
                ⟨(some 28), (some (26, false)), (.op (.mov (.t 0)))⟩,
                ⟨(some 29), (some (26, false)), (.op (.lenl (.t 28)))⟩,
                ⟨(some 30), (some (26, false)), (.op (.bin .geq (.t 27) (.t 29)))⟩,
                ⟨(some 31), none, (.op (.pick (.t 26) (.k (.bool true)) (.t 30)))⟩,
                ⟨(some 32), none, (.op (.mov (.t 31)))⟩,
                ⟨(some 33), (some (32, false)), (.op (.mov (.t 4)))⟩,
                ⟨(some 34), (some (32, false)), (.op (.mov (.t 7)))⟩,
                ⟨(some 35), (some (32, false)), (.op (.iad 1 (.t 33) (.t 34)))⟩,
                ⟨(some 36), (some (32, false)), (.op (.ld1 (.t 35)))⟩,
                ⟨(some 37), none, (.op (.pick (.t 32) (.k (.bool true)) (.t 36)))⟩])
              (.cond (.t 37) (.exit 1)
               (.skip)))
             (.seq (.reg [⟨(some 38), none, (.op (.mov (.t 4)))⟩,
                ⟨(some 39), none, (.op (.mov (.t 7)))⟩,
                ⟨(some 40), none, (.op (.iad 1 (.t 38) (.t 39)))⟩,
                ⟨none, none, (.op (.st 1 (.t 40) (.k (.bool true))))⟩])
              (.reg [⟨(some 41), none, (.op (.mov (.t 5)))⟩,
                ⟨(some 42), none, (.op (.mov (.t 0)))⟩,
                ⟨(some 43), none, (.op (.mov (.t 3)))⟩,
                ⟨(some 44), none, (.op (.mov (.t 7)))⟩,
                ⟨(some 45), none, (.call (.f 131) [(.t 42), (.t 43), (.t 44)])⟩,
                ⟨(some 46), none, (.op (.app 1 8 (.t 41) (.t 45)))⟩,
                ⟨(some 5), none, (.op (.mov (.t 46)))⟩])))))
          (.reg [⟨(some 18), none, (.op (.mov (.t 6)))⟩,
            ⟨(some 19), none, (.op (.bin .add (.t 18) (.k (.int .i64 1))))⟩,
            ⟨(some 6), none, (.op (.mov (.t 19)))⟩]))))))
     (.seq (.reg [⟨(some 47), none, (.op (.mov (.t 4)))⟩,
        ⟨(some 2), none, (.op (.mov (.t 47)))⟩])
      (.ret))))))
def r77 : List XRes := [.t 2]
theorem res77 : resolveF Tryz.prog 77 = some (x77, r77, 48) := by kernel_rfl
def x131 : XCode := .seq (.reg [⟨(some 6), none, (.op (.mov (.k (.slice none 0 0))))⟩])
 (.seq (.seq (.reg [⟨(some 10), none, (.op (.mov (.t 0)))⟩,
     ⟨(some 11), none, (.op (.mov (.t 2)))⟩,
     ⟨(some 12), none, (.op (.iad 5 (.t 10) (.t 11)))⟩,
     ⟨(some 13), none, (.op (.lda 5 (.t 12)))⟩,
     ⟨(some 14), none, (.call (.f 121) [(.t 13)])⟩,
     ⟨(some 15), none, (.op (.bin .neq (.t 14) (.k (.int .i64 0))))⟩,
     ⟨(some 16), none, (.op (.mov (.t 15)))⟩,
     ⟨(some 17), (some (16, false)), (.op (.mov (.t 0)))⟩,
     ⟨(some 18), (some (16, false)), (.op (.mov (.t 2)))⟩,
     ⟨(some 19), (some (16, false)), (.op (.iad 5 (.t 17) (.t 18)))⟩,
     ⟨(some 20), (some (16, false)), (.op (.lda 5 (.t 19)))⟩,
     ⟨(some 21), (some (16, false)), (.call (.f 99) [(.t 20)])⟩,
     ⟨(some 22), (some (16, false)), (.op (.bin .eql (.t 21) (.k (.int .i64 4))))⟩,
     ⟨(some 23), none, (.op (.pick (.t 16) (.k (.bool true)) (.t 22)))⟩])
   (.cond (.t 23) (.seq (.reg [⟨(some 6), none, (.op (.mov (.k (.slice none 0 0))))⟩])
     (.ret))
    (.skip)))
  (.seq (.reg [⟨(some 25), none, (.op (.mov (.t 0)))⟩,
     ⟨(some 26), none, (.op (.mov (.t 2)))⟩,
     ⟨(some 27), none, (.op (.iad 5 (.t 25) (.t 26)))⟩,
     ⟨(some 28), none, (.op (.lda 5 (.t 27)))⟩,
     ⟨(some 29), none, (.call (.f 185) [(.t 28)])⟩,
     ⟨(some 24), none, (.op (.mov (.t 29)))⟩,
     ⟨(some 30), none, (.op (.ext 0 (.t 24)))⟩,
     ⟨(some 31), none, (.op (.ext 1 (.t 24)))⟩,
     ⟨(some 7), none, (.op (.mov (.t 30)))⟩,
     ⟨(some 8), none, (.op (.mov (.t 31)))⟩])
   (.seq (.seq (.reg [⟨(some 32), none, (.op (.mov (.t 7)))⟩,
       ⟨(some 33), none, (.op (.un .not (.t 32)))⟩])
     (.cond (.t 33) (.seq (.reg [⟨(some 34), none, (.op (.mov (.t 2)))⟩,
         ⟨(some 35), none, (.op (.bin .add (.t 34) (.k (.int .i64 1))))⟩,
         ⟨(some 36), none, (.op (.bsl 1 1 [(.int .i64 0)] [(0, 1, (.t 35))]))⟩,
         ⟨(some 6), none, (.op (.mov (.t 36)))⟩])
       (.ret))
      (.skip)))
    (.seq (.reg [⟨(some 37), none, (.op (.mov (.t 0)))⟩,
       ⟨(some 38), none, (.op (.mov (.t 1)))⟩,
       ⟨(some 39), none, (.op (.mov (.t 2)))⟩,
       ⟨(some 40), none, (.call (.f 32) [(.t 37), (.t 38), (.t 39)])⟩,
       ⟨(some 9), none, (.op (.mov (.t 40)))⟩])
     (.seq (.block 0 (.seq (.reg [⟨(some 42), none, (.op (.mov (.t 8)))⟩,
          ⟨(some 43), none, (.op (.mov (.t 42)))⟩,
          ⟨(some 44), (some (43, false)), (.op (.mov (.t 9)))⟩,
          ⟨(some 45), (some (43, false)), (.op (.mov (.t 2)))⟩,
          ⟨(some 46), (some (43, false)), (.op (.bin .add (.t 45) (.k (.int .i64 1))))⟩,
          ⟨(some 47), (some (43, false)), (.op (.bin .eql (.t 44) (.t 46)))⟩,
          ⟨(some 48), none, (.op (.pick (.t 43) (.k (.bool true)) (.t 47)))⟩,
          ⟨(some 41), none, (.op (.mov (.t 48)))⟩])
        (.cond (.t 41) (.seq (.reg [⟨(some 49), none, (.op (.mov (.t 9)))⟩,
            ⟨(some 50), none, (.op (.bsl 1 1 [(.int .i64 0)] [(0, 1, (.t 49))]))⟩,
            ⟨(some 6), none, (.op (.mov (.t 50)))⟩])
          (.ret))
         (.seq (.reg [⟨(some 52), none, (.op (.mov (.t 9)))⟩,
            ⟨(some 53), none, (.op (.mov (.t 2)))⟩,
            ⟨(some 54), none, (.op (.bin .add (.t 53) (.k (.int .i64 1))))⟩,
            ⟨(some 55), none, (.op (.bin .lss (.t 52) (.t 54)))⟩,
            ⟨(some 51), none, (.op (.mov (.t 55)))⟩])
          (.cond (.t 51) (.seq (.reg [⟨(some 56), none, (.op (.mov (.t 9)))⟩,
              ⟨(some 57), none, (.op (.mov (.t 2)))⟩,
              ⟨(some 58), none, (.op (.bin .add (.t 57) (.k (.int .i64 1))))⟩,
              ⟨(some 59), none, (.op (.bsl 1 2 [(.int .i64 0), (.int .i64 0)] [(0, 1, (.t 56)), (1, 1, (.t 58))]))⟩,
              ⟨(some 6), none, (.op (.mov (.t 59)))⟩])
            (.ret))
           (.skip))))))
      (.seq (.reg [⟨(some 60), none, (.op (.mov (.t 2)))⟩,
         ⟨(some 61), none, (.op (.bin .add (.t 60) (.k (.int .i64 1))))⟩,
         ⟨(some 62), none, (.op (.mov (.t 9)))⟩,
         ⟨(some 63), none, (.op (.bsl 1 2 [(.int .i64 0), (.int .i64 0)] [(0, 1, (.t 61)), (1, 1, (.t 62))]))⟩,
         ⟨(some 6), none, (.op (.mov (.t 63)))⟩])
       (.ret)))))))
def r131 : List XRes := [.t 6]
theorem res131 : resolveF Tryz.prog 131 = some (x131, r131, 64) := by kernel_rfl
def x121 : XCode := .seq (.reg [⟨(some 1), none, (.op (.box (.t 0)))⟩,
   ⟨(some 2), none, (.op (.mov (.k (.int .i64 0))))⟩])
 (.seq (.reg [⟨(some 5), none, (.op (.fad 0 (.t 1)))⟩,
    ⟨(some 6), none, (.op (.ld1 (.t 5)))⟩,
    ⟨(some 7), none, (.call (.f 168) [(.t 6)])⟩,
    ⟨(some 3), none, (.op (.mov (.t 7)))⟩])
  (.seq (.seq (.reg [⟨(some 8), none, (.op (.mov (.t 3)))⟩,
      ⟨(some 9), none, (.op (.lenl (.t 8)))⟩,
      ⟨(some 10), none, (.op (.bin .eql (.t 9) (.k (.int .i64 0))))⟩])
    (.cond (.t 10) (.seq (.reg [⟨(some 2), none, (.op (.mov (.k (.int .i64 20))))⟩])
      (.ret))
     (.skip)))
   (.seq (.seq (.reg [⟨(some 4), none, (.op (.mov (.k (.int .i64 0))))⟩])
     (.block 0 (.loop (.seq (.seq (.reg [⟨(some 11), none, (.op (.mov (.t 4)))⟩,
           ⟨(some 12), none, (.op (.mov (.t 3)))⟩,
           ⟨(some 13), none, (.op (.lenl (.t 12)))⟩,
           ⟨(some 14), none, (.op (.bin .lss (.t 11) (.t 13)))⟩])
         (.cond (.t 14) (.skip)
          (.exit 0)))
        (.seq (.block 1 (.seq (.drw none [⟨(some 17), none, (.op (.mov (.t 3)))⟩,
             ⟨(some 18), none, (.op (.mov (.t 4)))⟩,
             ⟨(some 19), none, (.op (.iad 10 (.t 17) (.t 18)))⟩,
             ⟨(some 20), none, (.op (.lda 10 (.t 19)))⟩,
             ⟨(some 21), none, (.op (.lda 5 (.t 1)))⟩,
             ⟨(some 22), none, (.call (.f 175) [(.t 20), (.t 21)])⟩])
           (.cond (.t 22) (.seq (.reg [⟨(some 2), none, (.op (.mov (.k (.int .i64 0))))⟩])
             (.ret))
            (.skip))))
         (.reg [⟨(some 15), none, (.op (.mov (.t 4)))⟩,
           ⟨(some 16), none, (.op (.bin .add (.t 15) (.k (.int .i64 1))))⟩,
           ⟨(some 4), none, (.op (.mov (.t 16)))⟩]))))))
    (.seq (.reg [⟨(some 2), none, (.op (.mov (.k (.int .i64 21))))⟩])
     (.ret)))))
def r121 : List XRes := [.t 2]
theorem res121 : resolveF Tryz.prog 121 = some (x121, r121, 23) := by kernel_rfl
def x168 : XCode := .seq (.reg [⟨(some 2), none, (.op (.mov (.k (.slice none 0 0))))⟩])
 (.seq (.seq (.reg [⟨(some 6), none, (.op (.mov (.t 0)))⟩,
     ⟨(some 7), none, (.op (.bin .lss (.t 6) (.k (.int .i64 0))))⟩,
     ⟨(some 8), none, (.op (.mov (.t 7)))⟩,
     ⟨(some 9), (some (8, false)), (.op (.mov (.t 0)))⟩,
     ⟨(some 10), (some (8, false)), (.op (.bin .gtr (.t 9) (.k (.int .i64 255))))⟩,
     ⟨(some 11), none, (.op (.pick (.t 8) (.k (.bool true)) (.t 10)))⟩])
   (.cond (.t 11) (.seq (.reg [⟨(some 2), none, (.op (.mov (.k (.slice none 0 0))))⟩])
     (.ret))
    (.skip)))
  (.seq (.reg [⟨(some 12), none, (.op (.mov (.t 0)))⟩,
     ⟨(some 13), none, (.op (.bin .rem (.t 12) (.k (.int .i64 8))))⟩,
     ⟨(some 3), none, (.op (.mov (.t 13)))⟩])
   (.seq (.reg [⟨(some 14), none, (.op (.mov (.t 0)))⟩,
      ⟨(some 15), none, (.op (.bin .quo (.t 14) (.k (.int .i64 16))))⟩,
      ⟨(some 16), none, (.op (.bin .mul (.t 15) (.k (.int .i64 16))))⟩,
      ⟨(some 4), none, (.op (.mov (.t 16)))⟩])
    (.seq (.reg [⟨(some 17), none, (.op (.mov (.t 0)))⟩,
       ⟨(some 18), none, (.op (.bin .quo (.t 17) (.k (.int .i64 8))))⟩,
       ⟨(some 19), none, (.op (.bin .rem (.t 18) (.k (.int .i64 2))))⟩,
       ⟨(some 20), none, (.op (.bin .eql (.t 19) (.k (.int .i64 1))))⟩,
       ⟨(some 5), none, (.op (.mov (.t 20)))⟩])
     (.seq (.block 0 (.seq (.reg [⟨(some 22), none, (.op (.mov (.t 3)))⟩,
          ⟨(some 23), none, (.op (.bin .eql (.t 22) (.k (.int .i64 4))))⟩,
          ⟨(some 24), none, (.op (.mov (.t 23)))⟩,
          ⟨(some 25), (some (24, false)), (.op (.mov (.t 3)))⟩,
          ⟨(some 26), (some (24, false)), (.op (.bin .eql (.t 25) (.k (.int .i64 7))))⟩,
          ⟨(some 27), none, (.op (.pick (.t 24) (.k (.bool true)) (.t 26)))⟩,
          ⟨(some 21), none, (.op (.mov (.t 27)))⟩])
        (.cond (.t 21) (.seq (.reg [⟨(some 28), none, (.op (.mov (.t 3)))⟩,
            ⟨(some 29), none, (.op (.mov (.t 4)))⟩,
            ⟨(some 30), none, (.op (.mov (.t 5)))⟩,
            ⟨(some 31), none, (.call (.f 224) [(.t 28), (.t 29), (.t 30)])⟩,
            ⟨(some 2), none, (.op (.mov (.t 31)))⟩])
          (.ret))
         (.seq (.reg [⟨(some 33), none, (.op (.mov (.t 3)))⟩,
            ⟨(some 34), none, (.op (.bin .eql (.t 33) (.k (.int .i64 5))))⟩,
            ⟨(some 35), none, (.op (.mov (.t 34)))⟩,
            ⟨(some 36), (some (35, false)), (.op (.mov (.t 3)))⟩,
            ⟨(some 37), (some (35, false)), (.op (.bin .eql (.t 36) (.k (.int .i64 6))))⟩,
            ⟨(some 38), none, (.op (.pick (.t 35) (.k (.bool true)) (.t 37)))⟩,
            ⟨(some 32), none, (.op (.mov (.t 38)))⟩])
          (.cond (.t 32) (.seq (.reg [⟨(some 39), none, (.op (.mov (.t 3)))⟩,
              ⟨(some 40), none, (.op (.mov (.t 4)))⟩,
              ⟨(some 41), none, (.op (.mov (.t 5)))⟩,
              ⟨(some 42), none, (.call (.f 225) [(.t 39), (.t 40), (.t 41)])⟩,
              ⟨(some 2), none, (.op (.mov (.t 42)))⟩])
            (.ret))
           (.skip))))))
      (.seq (.reg [⟨(some 43), none, (.op (.mov (.t 0)))⟩,
         ⟨(some 44), none, (.call (.f 226) [(.t 43)])⟩,
         ⟨(some 2), none, (.op (.mov (.t 44)))⟩])
       (.ret)))))))
def r168 : List XRes := [.t 2]
theorem res168 : resolveF Tryz.prog 168 = some (x168, r168, 45) := by kernel_rfl
def x224 : XCode := .seq (.reg [⟨(some 6), none, (.op (.mov (.k (.slice none 0 0))))⟩])
 (.seq (.seq (.reg [⟨(some 11), none, (.op (.mov (.t 1)))⟩,
     ⟨(some 12), none, (.op (.bin .eql (.t 11) (.k (.int .i64 128))))⟩,
     ⟨(some 13), none, (.op (.mov (.t 12)))⟩,
     ⟨(some 14), (some (13, true)), (.op (.mov (.t 2)))⟩,
     ⟨(some 15), (some (13, true)), (.op (.un .not (.t 14)))⟩,
     ⟨(some 16), none, (.op (.pick (.t 13) (.t 15) (.k (.bool false))))⟩])
   (.cond (.t 16) (.seq (.reg [⟨(some 17), none, (.op (.build [(.int .i64 0), (.int .i64 0), (.bool false), (.bool false), (.bool false), (.bool false), (.bool false), (.int .i64 0), (.int .i64 0), (.slice none 0 0)] [(0, 1, (.k (.int .i64 2))), (1, 1, (.k (.int .i64 1))), (2, 1, (.k (.bool true)))]))⟩,
       ⟨(some 18), none, (.op (.bsl 10 1 [(.int .i64 0), (.int .i64 0), (.bool false), (.bool false), (.bool false), (.bool false), (.bool false), (.int .i64 0), (.int .i64 0), (.slice none 0 0)] [(0, 10, (.t 17))]))⟩,
       ⟨(some 6), none, (.op (.mov (.t 18)))⟩])
     (.ret))
    (.skip)))
  (.seq (.seq (.reg [⟨(some 19), none, (.op (.mov (.t 1)))⟩,
      ⟨(some 20), none, (.op (.bin .eql (.t 19) (.k (.int .i64 208))))⟩,
      ⟨(some 21), none, (.op (.mov (.t 20)))⟩,
      ⟨(some 22), (some (21, true)), (.op (.mov (.t 0)))⟩,
      ⟨(some 23), (some (21, true)), (.op (.bin .eql (.t 22) (.k (.int .i64 4))))⟩,
      ⟨(some 24), (some (21, true)), (.op (.mov (.t 23)))⟩,
      ⟨(some 25), (some (24, false)), (.op (.mov (.t 2)))⟩,
      ⟨(some 26), (some (24, false)), (.op (.un .not (.t 25)))⟩,
      ⟨(some 27), (some (21, true)), (.op (.pick (.t 24) (.k (.bool true)) (.t 26)))⟩,
      ⟨(some 28), none, (.op (.pick (.t 21) (.t 27) (.k (.bool false))))⟩])
    (.cond (.t 28) (.seq (.reg [⟨(some 29), none, (.op (.bsl 1 3 [(.int .i64 0), (.int .i64 0), (.int .i64 0)] [(0, 1, (.k (.int .i64 16))), (1, 1, (.k (.int .i64 32))), (2, 1, (.k (.int .i64 64)))]))⟩,
        ⟨(some 30), none, (.op (.build [(.int .i64 0), (.int .i64 0), (.bool false), (.bool false), (.bool false), (.bool false), (.bool false), (.int .i64 0), (.int .i64 0), (.slice none 0 0)] [(0, 1, (.k (.int .i64 2))), (1, 1, (.k (.int .i64 1))), (2, 1, (.k (.bool true))), (9, 1, (.t 29))]))⟩,
        ⟨(some 31), none, (.op (.bsl 10 1 [(.int .i64 0), (.int .i64 0), (.bool false), (.bool false), (.bool false), (.bool false), (.bool false), (.int .i64 0), (.int .i64 0), (.slice none 0 0)] [(0, 10, (.t 30))]))⟩,
        ⟨(some 6), none, (.op (.mov (.t 31)))⟩])
      (.ret))
     (.skip)))
   (.seq (.seq (.reg [⟨(some 32), none, (.op (.mov (.t 1)))⟩,
       ⟨(some 33), none, (.op (.bin .eql (.t 32) (.k (.int .i64 128))))⟩,
       ⟨(some 34), none, (.op (.mov (.t 33)))⟩,
       ⟨(some 35), (some (34, false)), (.op (.mov (.t 1)))⟩,
       ⟨(some 36), (some (34, false)), (.op (.bin .gtr (.t 35) (.k (.int .i64 192))))⟩,
       ⟨(some 37), none, (.op (.pick (.t 34) (.k (.bool true)) (.t 36)))⟩])
     (.cond (.t 37) (.seq (.reg [⟨(some 6), none, (.op (.mov (.k (.slice none 0 0))))⟩])
       (.ret))
      (.skip)))
    (.seq (.reg [⟨(some 38), none, (.op (.mov (.t 2)))⟩,
       ⟨(some 39), none, (.op (.mov (.t 2)))⟩,
       ⟨(some 40), none, (.op (.un .not (.t 39)))⟩,
       ⟨(some 41), none, (.op (.build [(.int .i64 0), (.int .i64 0), (.bool false), (.bool false), (.bool false), (.bool false), (.bool false), (.int .i64 0), (.int .i64 0), (.slice none 0 0)] [(0, 1, (.k (.int .i64 3))), (1, 1, (.k (.int .i64 1))), (2, 1, (.k (.bool true))), (3, 1, (.t 38)), (5, 1, (.t 40))]))⟩,
       ⟨(some 7), none, (.op (.alloc [(.int .i64 0), (.int .i64 0), (.bool false), (.bool false), (.bool false), (.bool false), (.bool false), (.int .i64 0), (.int .i64 0), (.slice none 0 0)]))⟩,
       ⟨none, none, (.op (.st 10 (.t 7) (.t 41)))⟩])
     (.seq (.reg [⟨(some 42), none, (.op (.mov (.t 1)))⟩,
        ⟨(some 43), none, (.op (.bin .eql (.t 42) (.k (.int .i64 48))))⟩,
        ⟨(some 44), none, (.op (.mov (.t 43)))⟩,
        ⟨(some 45), (some (44, false)), (.op (.mov (.t 1)))⟩,
        ⟨(some 46), (some (44, false)), (.op (.bin .eql (.t 45) (.k (.int .i64 144))))⟩,
        ⟨(some 47), none, (.op (.pick (.t 44) (.k (.bool true)) (.t 46)))⟩,
        ⟨(some 8), none, (.op (.mov (.t 47)))⟩])
      (.seq (.seq (.reg [⟨(some 48), none, (.op (.mov (.t 8)))⟩,
          ⟨(some 49), none, (.op (.mov (.t 48)))⟩,
          ⟨(some 50), (some (49, false)), (.op (.mov (.t 1)))⟩,
          ⟨(some 51), (some (49, false)), (.op (.bin .eql (.t 50) (.k (.int .i64 32))))⟩,
          ⟨(some 52), none, (.op (.pick (.t 49) (.k (.bool true)) (.t 51)))⟩])
        (.cond (.t 52) (.reg [⟨(some 53), none, (.op (.fad 1 (.t 7)))⟩,
           ⟨none, none, (.op (.st 1 (.t 53) (.k (.int .i64 2))))⟩])
         (.skip)))
       (.seq (.reg [⟨(some 54), none, (.op (.lda 10 (.t 7)))⟩,
          ⟨(some 55), none, (.op (.bsl 10 1 [(.int .i64 0), (.int .i64 0), (.bool false), (.bool false), (.bool false), (.bool false), (.bool false), (.int .i64 0), (.int .i64 0), (.slice none 0 0)] [(0, 10, (.t 54))]))⟩,
          ⟨(some 9), none, (.op (.mov (.t 55)))⟩])
        (.seq (.seq (.reg [⟨(some 56), none, (.op (.mov (.t 8)))⟩])
          (.cond (.t 56) (.seq (.reg [⟨(some 57), none, (.op (.fad 8 (.t 7)))⟩,
              ⟨none, none, (.op (.st 1 (.t 57) (.k (.int .i64 1))))⟩])
            (.reg [⟨(some 58), none, (.op (.mov (.t 9)))⟩,
              ⟨(some 59), none, (.op (.lda 10 (.t 7)))⟩,
              ⟨(some 60), none, (.op (.bsl 10 1 [(.int .i64 0), (.int .i64 0), (.bool false), (.bool false), (.bool false), (.bool false), (.bool false), (.int .i64 0), (.int .i64 0), (.slice none 0 0)] [(0, 10, (.t 59))]))⟩,
              ⟨(some 61), none, (.op (.app 10 64 (.t 58) (.t 60)))⟩,
              ⟨(some 9), none, (.op (.mov (.t 61)))⟩]))
           (.skip)))
         (.seq (.seq (.reg [⟨(some 10), none, (.op (.mov (.k (.int .i64 8))))⟩])
           (.block 0 (.loop (.seq (.seq (.reg [⟨(some 62), none, (.op (.mov (.t 10)))⟩,
                 ⟨(some 63), none, (.op (.bin .leq (.t 62) (.k (.int .i64 32))))⟩,
                 ⟨(some 64), none, (.op (.mov (.t 63)))⟩,
                 ⟨(some 65), (some (64, true)), (.op (.mov (.t 1)))⟩,
                 ⟨(some 66), (some (64, true)), (.op (.bin .eql (.t 65) (.k (.int .i64 176))))⟩,
                 ⟨(some 67), none, (.op (.pick (.t 64) (.t 66) (.k (.bool false))))⟩,
                 ⟨(some 68), none, (.op (.mov (.t 67)))⟩,
                 ⟨(some 69), (some (68, true)), (.op (.mov (.t 2)))⟩,
                 ⟨(some 70), none, (.op (.pick (.t 68) (.t 69) (.k (.bool false))))⟩])
               (.cond (.t 70) (.skip)
                (.exit 0)))
              (.seq (.block 1 (.seq (.reg [⟨(some 73), none, (.op (.mov (.t 10)))⟩,
                   ⟨(some 74), none, (.op (.fad 8 (.t 7)))⟩,
                   ⟨none, none, (.op (.st 1 (.t 74) (.t 73)))⟩])
                 (.seq (.reg [⟨(some 75), none, (.op (.mov (.t 10)))⟩,
                    ⟨(some 76), none, (.op (.bin .lss (.t 75) (.k (.int .i64 32))))⟩,
                    ⟨(some 77), none, (.op (.mov (.t 76)))⟩,
                    ⟨(some 78), (some (77, false)), (.op (.mov (.t 0)))⟩,
                    ⟨(some 79), (some (77, false)), (.op (.bin .eql (.t 78) (.k (.int .i64 7))))⟩,
                    ⟨(some 80), none, (.op (.pick (.t 77) (.k (.bool true)) (.t 79)))⟩])
                  (.cond (.t 80) (.reg [⟨(some 81), none, (.op (.mov (.t 9)))⟩,
                     ⟨(some 82), none, (.op (.lda 10 (.t 7)))⟩,
                     ⟨(some 83), none, (.op (.bsl 10 1 [(.int .i64 0), (.int .i64 0), (.bool false), (.bool false), (.bool false), (.bool false), (.bool false), (.int .i64 0), (.int .i64 0), (.slice none 0 0)] [(0, 10, (.t 82))]))⟩,
                     ⟨(some 84), none, (.op (.app 10 64 (.t 81) (.t 83)))⟩,
                     ⟨(some 9), none, (.op (.mov (.t 84)))⟩])
                   (.skip)))))
               (.reg [⟨(some 71), none, (.op (.mov (.t 10)))⟩,
                 ⟨(some 72), none, (.op (.bin .mul (.k (.int .i64 2)) (.t 71)))⟩,
                 ⟨(some 10), none, (.op (.mov (.t 72)))⟩]))))))
          (.seq (.reg [⟨(some 85), none, (.op (.mov (.t 9)))⟩,
             ⟨(some 6), none, (.op (.mov (.t 85)))⟩])
           (.ret)))))))))))
def r224 : List XRes := [.t 6]
theorem res224 : resolveF Tryz.prog 224 = some (x224, r224, 86) := by kernel_rfl
def x225 : XCode := .seq (.reg [⟨(some 6), none, (.op (.mov (.k (.slice none 0 0))))⟩])
 (.seq (.reg [⟨(some 9), none, (.op (.build [(.int .i64 0), (.int .i64 0), (.bool false), (.bool false), (.bool false), (.bool false), (.bool false), (.int .i64 0), (.int .i64 0), (.slice none 0 0)] [(1, 1, (.k (.int .i64 1)))]))⟩,
    ⟨(some 7), none, (.op (.alloc [(.int .i64 0), (.int .i64 0), (.bool false), (.bool false), (.bool false), (.bool false), (.bool false), (.int .i64 0), (.int .i64 0), (.slice none 0 0)]))⟩,
    ⟨none, none, (.op (.st 10 (.t 7) (.t 9)))⟩])
  (.seq (.block 0 (.seq (.reg [⟨(some 11), none, (.op (.mov (.t 1)))⟩,
       ⟨(some 12), none, (.op (.bin .eql (.t 11) (.k (.int .i64 0))))⟩,
       ⟨(some 13), none, (.op (.mov (.t 12)))⟩,
       ⟨(some 14), (some (13, true)), (.op (.mov (.t 2)))⟩,
       ⟨(some 15), (some (13, true)), (.op (.un .not (.t 14)))⟩,
       ⟨(some 16), none, (.op (.pick (.t 13) (.t 15) (.k (.bool false))))⟩,
       ⟨(some 10), none, (.op (.mov (.t 16)))⟩])
     (.cond (.t 10) (.seq (.reg [⟨(some 17), none, (.op (.fad 0 (.t 7)))⟩,
         ⟨none, none, (.op (.st 1 (.t 17) (.k (.int .i64 7))))⟩])
       (.seq (.reg [⟨(some 18), none, (.op (.mov (.t 0)))⟩,
          ⟨(some 19), none, (.op (.bin .eql (.t 18) (.k (.int .i64 5))))⟩,
          ⟨(some 20), none, (.op (.fad 4 (.t 7)))⟩,
          ⟨none, none, (.op (.st 1 (.t 20) (.t 19)))⟩])
        (.seq (.reg [⟨(some 21), none, (.op (.mov (.t 0)))⟩,
           ⟨(some 22), none, (.op (.bin .eql (.t 21) (.k (.int .i64 6))))⟩,
           ⟨(some 23), none, (.op (.fad 5 (.t 7)))⟩,
           ⟨none, none, (.op (.st 1 (.t 23) (.t 22)))⟩])
         (.seq (.reg [⟨(some 24), none, (.op (.lda 10 (.t 7)))⟩,
            ⟨(some 25), none, (.op (.bsl 10 1 [(.int .i64 0), (.int .i64 0), (.bool false), (.bool false), (.bool false), (.bool false), (.bool false), (.int .i64 0), (.int .i64 0), (.slice none 0 0)] [(0, 10, (.t 24))]))⟩,
            ⟨(some 6), none, (.op (.mov (.t 25)))⟩])
          (.ret)))))
      (.seq (.reg [⟨(some 27), none, (.op (.mov (.t 1)))⟩,
         ⟨(some 28), none, (.op (.bin .eql (.t 27) (.k (.int .i64 128))))⟩,
         ⟨(some 29), none, (.op (.mov (.t 28)))⟩,
         ⟨(some 30), (some (29, true)), (.op (.mov (.t 0)))⟩,
         ⟨(some 31), (some (29, true)), (.op (.bin .eql (.t 30) (.k (.int .i64 5))))⟩,
         ⟨(some 32), none, (.op (.pick (.t 29) (.t 31) (.k (.bool false))))⟩,
         ⟨(some 33), none, (.op (.mov (.t 32)))⟩,
         ⟨(some 34), (some (33, true)), (.op (.mov (.t 2)))⟩,
         ⟨(some 35), (some (33, true)), (.op (.un .not (.t 34)))⟩,
         ⟨(some 36), none, (.op (.pick (.t 33) (.t 35) (.k (.bool false))))⟩,
         ⟨(some 26), none, (.op (.mov (.t 36)))⟩])
       (.cond (.t 26) (.seq (.reg [⟨(some 37), none, (.op (.fad 0 (.t 7)))⟩,
           ⟨none, none, (.op (.st 1 (.t 37) (.k (.int .i64 9))))⟩])
         (.seq (.reg [⟨(some 38), none, (.op (.fad 5 (.t 7)))⟩,
            ⟨none, none, (.op (.st 1 (.t 38) (.k (.bool true))))⟩])
          (.seq (.reg [⟨(some 39), none, (.op (.lda 10 (.t 7)))⟩,
             ⟨(some 8), none, (.op (.alloc [(.int .i64 0), (.int .i64 0), (.bool false), (.bool false), (.bool false), (.bool false), (.bool false), (.int .i64 0), (.int .i64 0), (.slice none 0 0)]))⟩,
             ⟨none, none, (.op (.st 10 (.t 8) (.t 39)))⟩])
           (.seq (.reg [⟨(some 40), none, (.op (.fad 7 (.t 8)))⟩,
              ⟨none, none, (.op (.st 1 (.t 40) (.k (.int .i64 1))))⟩])
            (.seq (.reg [⟨(some 41), none, (.op (.lda 10 (.t 7)))⟩,
               ⟨(some 42), none, (.op (.lda 10 (.t 8)))⟩,
               ⟨(some 43), none, (.op (.bsl 10 2 [(.int .i64 0), (.int .i64 0), (.bool false), (.bool false), (.bool false), (.bool false), (.bool false), (.int .i64 0), (.int .i64 0), (.slice none 0 0), (.int .i64 0), (.int .i64 0), (.bool false), (.bool false), (.bool false), (.bool false), (.bool false), (.int .i64 0), (.int .i64 0), (.slice none 0 0)] [(0, 10, (.t 41)), (10, 10, (.t 42))]))⟩,
               ⟨(some 6), none, (.op (.mov (.t 43)))⟩])
             (.ret))))))
        (.seq (.reg [⟨(some 45), none, (.op (.mov (.t 1)))⟩,
           ⟨(some 46), none, (.op (.bin .eql (.t 45) (.k (.int .i64 144))))⟩,
           ⟨(some 47), none, (.op (.mov (.t 46)))⟩,
           ⟨(some 48), (some (47, true)), (.op (.mov (.t 0)))⟩,
           ⟨(some 49), (some (47, true)), (.op (.bin .eql (.t 48) (.k (.int .i64 5))))⟩,
           ⟨(some 50), none, (.op (.pick (.t 47) (.t 49) (.k (.bool false))))⟩,
           ⟨(some 51), none, (.op (.mov (.t 50)))⟩,
           ⟨(some 52), (some (51, true)), (.op (.mov (.t 2)))⟩,
           ⟨(some 53), (some (51, true)), (.op (.un .not (.t 52)))⟩,
           ⟨(some 54), none, (.op (.pick (.t 51) (.t 53) (.k (.bool false))))⟩,
           ⟨(some 44), none, (.op (.mov (.t 54)))⟩])
         (.cond (.t 44) (.seq (.reg [⟨(some 55), none, (.op (.fad 0 (.t 7)))⟩,
             ⟨none, none, (.op (.st 1 (.t 55) (.k (.int .i64 1))))⟩])
           (.seq (.reg [⟨(some 56), none, (.op (.lda 10 (.t 7)))⟩,
              ⟨(some 57), none, (.op (.bsl 10 1 [(.int .i64 0), (.int .i64 0), (.bool false), (.bool false), (.bool false), (.bool false), (.bool false), (.int .i64 0), (.int .i64 0), (.slice none 0 0)] [(0, 10, (.t 56))]))⟩,
              ⟨(some 6), none, (.op (.mov (.t 57)))⟩])
            (.ret)))
          (.seq (.reg [⟨(some 59), none, (.op (.mov (.t 1)))⟩,
             ⟨(some 60), none, (.op (.bin .geq (.t 59) (.k (.int .i64 16))))⟩,
             ⟨(some 61), none, (.op (.mov (.t 60)))⟩,
             ⟨(some 62), (some (61, true)), (.op (.mov (.t 1)))⟩,
             ⟨(some 63), (some (61, true)), (.op (.bin .leq (.t 62) (.k (.int .i64 112))))⟩,
             ⟨(some 64), none, (.op (.pick (.t 61) (.t 63) (.k (.bool false))))⟩,
             ⟨(some 65), none, (.op (.mov (.t 64)))⟩,
             ⟨(some 66), (some (65, false)), (.op (.mov (.t 1)))⟩,
             ⟨(some 67), (some (65, false)), (.op (.bin .geq (.t 66) (.k (.int .i64 160))))⟩,
             ⟨(some 68), (some (65, false)), (.op (.mov (.t 67)))⟩,
             ⟨(some 69), (some (68, true)), (.op (.mov (.t 1)))⟩,
             ⟨(some 70), (some (68, true)), (.op (.bin .leq (.t 69) (.k (.int .i64 208))))⟩,
             ⟨(some 71), (some (65, false)), (.op (.pick (.t 68) (.t 70) (.k (.bool false))))⟩,
             ⟨(some 72), none, (.op (.pick (.t 65) (.k (.bool true)) (.t 71)))⟩,
             ⟨(some 58), none, (.op (.mov (.t 72)))⟩])
           (.cond (.t 58) (.seq (.reg [⟨(some 73), none, (.op (.mov (.t 2)))⟩,
               ⟨(some 74), none, (.op (.mov (.t 2)))⟩,
               ⟨(some 75), none, (.op (.un .not (.t 74)))⟩,
               ⟨(some 76), none, (.op (.build [(.int .i64 0), (.int .i64 0), (.bool false), (.bool false), (.bool false), (.bool false), (.bool false), (.int .i64 0), (.int .i64 0), (.slice none 0 0)] [(0, 1, (.k (.int .i64 8))), (1, 1, (.k (.int .i64 1))), (2, 1, (.k (.bool true))), (4, 1, (.k (.bool true))), (3, 1, (.t 73)), (5, 1, (.t 75))]))⟩,
               ⟨(some 77), none, (.op (.bsl 10 1 [(.int .i64 0), (.int .i64 0), (.bool false), (.bool false), (.bool false), (.bool false), (.bool false), (.int .i64 0), (.int .i64 0), (.slice none 0 0)] [(0, 10, (.t 76))]))⟩,
               ⟨(some 6), none, (.op (.mov (.t 77)))⟩])
             (.ret))
            (.skip))))))))))
   (.seq (.reg [⟨(some 6), none, (.op (.mov (.k (.slice none 0 0))))⟩])
    (.ret))))
def r225 : List XRes := [.t 6]
theorem res225 : resolveF Tryz.prog 225 = some (x225, r225, 78) := by kernel_rfl
def x226 : XCode := .seq (.reg [⟨(some 2), none, (.op (.mov (.k (.slice none 0 0))))⟩])
 (.seq (.reg [⟨(some 6), none, (.op (.bsl 1 7 [(.int .i64 0), (.int .i64 0), (.int .i64 0), (.int .i64 0), (.int .i64 0), (.int .i64 0), (.int .i64 0)] [(0, 1, (.k (.int .i64 97))), (1, 1, (.k (.int .i64 105))), (2, 1, (.k (.int .i64 113))), (3, 1, (.k (.int .i64 121))), (4, 1, (.k (.int .i64 129))), (5, 1, (.k (.int .i64 137))), (6, 1, (.k (.int .i64 145)))]))⟩,
    ⟨(some 3), none, (.op (.mov (.t 6)))⟩])
  (.seq (.reg [⟨(some 7), none, (.op (.bsl 1 4 [(.int .i64 0), (.int .i64 0), (.int .i64 0), (.int .i64 0)] [(0, 1, (.k (.int .i64 98))), (1, 1, (.k (.int .i64 106))), (2, 1, (.k (.int .i64 114))), (3, 1, (.k (.int .i64 122)))]))⟩,
     ⟨(some 4), none, (.op (.mov (.t 7)))⟩])
   (.seq (.reg [⟨(some 8), none, (.op (.bsl 1 4 [(.int .i64 0), (.int .i64 0), (.int .i64 0), (.int .i64 0)] [(0, 1, (.k (.int .i64 99))), (1, 1, (.k (.int .i64 107))), (2, 1, (.k (.int .i64 115))), (3, 1, (.k (.int .i64 123)))]))⟩,
      ⟨(some 5), none, (.op (.mov (.t 8)))⟩])
    (.seq (.block 0 (.seq (.reg [⟨(some 10), none, (.op (.mov (.t 0)))⟩,
         ⟨(some 11), none, (.op (.bin .eql (.t 10) (.k (.int .i64 24))))⟩,
         ⟨(some 9), none, (.op (.mov (.t 11)))⟩])
       (.cond (.t 9) (.seq (.reg [⟨(some 12), none, (.op (.build [(.int .i64 0), (.int .i64 0), (.bool false), (.bool false), (.bool false), (.bool false), (.bool false), (.int .i64 0), (.int .i64 0), (.slice none 0 0)] [(0, 1, (.k (.int .i64 10))), (1, 1, (.k (.int .i64 1))), (2, 1, (.k (.bool true))), (5, 1, (.k (.bool true))), (6, 1, (.k (.bool true)))]))⟩,
           ⟨(some 13), none, (.op (.build [(.int .i64 0), (.int .i64 0), (.bool false), (.bool false), (.bool false), (.bool false), (.bool false), (.int .i64 0), (.int .i64 0), (.slice none 0 0)] [(0, 1, (.k (.int .i64 10))), (1, 1, (.k (.int .i64 1))), (2, 1, (.k (.bool true))), (5, 1, (.k (.bool true))), (7, 1, (.k (.int .i64 1)))]))⟩,
           ⟨(some 14), none, (.op (.bsl 10 2 [(.int .i64 0), (.int .i64 0), (.bool false), (.bool false), (.bool false), (.bool false), (.bool false), (.int .i64 0), (.int .i64 0), (.slice none 0 0), (.int .i64 0), (.int .i64 0), (.bool false), (.bool false), (.bool false), (.bool false), (.bool false), (.int .i64 0), (.int .i64 0), (.slice none 0 0)] [(0, 10, (.t 12)), (10, 10, (.t 13))]))⟩,
           ⟨(some 2), none, (.op (.mov (.t 14)))⟩])
         (.ret))
        (.seq (.reg [⟨(some 16), none, (.op (.mov (.t 3)))⟩,
           ⟨(some 17), none, (.op (.mov (.t 0)))⟩,
           ⟨(some 18), none, (.call (.f 232) [(.t 16), (.t 17)])⟩,
           ⟨(some 15), none, (.op (.mov (.t 18)))⟩])
         (.cond (.t 15) (.seq (.reg [⟨(some 19), none, (.op (.build [(.int .i64 0), (.int .i64 0), (.bool false), (.bool false), (.bool false), (.bool false), (.bool false), (.int .i64 0), (.int .i64 0), (.slice none 0 0)] [(0, 1, (.k (.int .i64 4))), (1, 1, (.k (.int .i64 1))), (2, 1, (.k (.bool true))), (3, 1, (.k (.bool true))), (4, 1, (.k (.bool true)))]))⟩,
             ⟨(some 20), none, (.op (.bsl 10 1 [(.int .i64 0), (.int .i64 0), (.bool false), (.bool false), (.bool false), (.bool false), (.bool false), (.int .i64 0), (.int .i64 0), (.slice none 0 0)] [(0, 10, (.t 19))]))⟩,
             ⟨(some 2), none, (.op (.mov (.t 20)))⟩])
           (.ret))
          (.seq (.reg [⟨(some 22), none, (.op (.mov (.t 4)))⟩,
             ⟨(some 23), none, (.op (.mov (.t 0)))⟩,
             ⟨(some 24), none, (.call (.f 232) [(.t 22), (.t 23)])⟩,
             ⟨(some 21), none, (.op (.mov (.t 24)))⟩])
           (.cond (.t 21) (.seq (.reg [⟨(some 25), none, (.op (.build [(.int .i64 0), (.int .i64 0), (.bool false), (.bool false), (.bool false), (.bool false), (.bool false), (.int .i64 0), (.int .i64 0), (.slice none 0 0)] [(0, 1, (.k (.int .i64 5))), (1, 1, (.k (.int .i64 1))), (2, 1, (.k (.bool true))), (4, 1, (.k (.bool true))), (5, 1, (.k (.bool true)))]))⟩,
               ⟨(some 26), none, (.op (.bsl 10 1 [(.int .i64 0), (.int .i64 0), (.bool false), (.bool false), (.bool false), (.bool false), (.bool false), (.int .i64 0), (.int .i64 0), (.slice none 0 0)] [(0, 10, (.t 25))]))⟩,
               ⟨(some 2), none, (.op (.mov (.t 26)))⟩])
             (.ret))
            (.seq (.reg [⟨(some 28), none, (.op (.mov (.t 5)))⟩,
               ⟨(some 29), none, (.op (.mov (.t 0)))⟩,
               ⟨(some 30), none, (.call (.f 232) [(.t 28), (.t 29)])⟩,
               ⟨(some 27), none, (.op (.mov (.t 30)))⟩])
             (.cond (.t 27) (.seq (.reg [⟨(some 31), none, (.op (.build [(.int .i64 0), (.int .i64 0), (.bool false), (.bool false), (.bool false), (.bool false), (.bool false), (.int .i64 0), (.int .i64 0), (.slice none 0 0)] [(0, 1, (.k (.int .i64 5))), (1, 1, (.k (.int .i64 1))), (2, 1, (.k (.bool true))), (3, 1, (.k (.bool true))), (4, 1, (.k (.bool true)))]))⟩,
                 ⟨(some 32), none, (.op (.bsl 10 1 [(.int .i64 0), (.int .i64 0), (.bool false), (.bool false), (.bool false), (.bool false), (.bool false), (.int .i64 0), (.int .i64 0), (.slice none 0 0)] [(0, 10, (.t 31))]))⟩,
                 ⟨(some 2), none, (.op (.mov (.t 32)))⟩])
               (.ret))
              (.seq (.reg [⟨(some 34), none, (.op (.mov (.t 0)))⟩,
                 ⟨(some 35), none, (.op (.bin .eql (.t 34) (.k (.int .i64 219))))⟩,
                 ⟨(some 36), none, (.op (.mov (.t 35)))⟩,
                 ⟨(some 37), (some (36, false)), (.op (.mov (.t 0)))⟩,
                 ⟨(some 38), (some (36, false)), (.op (.bin .eql (.t 37) (.k (.int .i64 195))))⟩,
                 ⟨(some 39), none, (.op (.pick (.t 36) (.k (.bool true)) (.t 38)))⟩,
                 ⟨(some 33), none, (.op (.mov (.t 39)))⟩])
               (.cond (.t 33) (.seq (.reg [⟨(some 40), none, (.op (.bsl 1 10 [(.int .i64 0), (.int .i64 0), (.int .i64 0), (.int .i64 0), (.int .i64 0), (.int .i64 0), (.int .i64 0), (.int .i64 0), (.int .i64 0), (.int .i64 0)] [(0, 1, (.k (.int .i64 0))), (1, 1, (.k (.int .i64 64))), (2, 1, (.k (.int .i64 80))), (3, 1, (.k (.int .i64 160))), (4, 1, (.k (.int .i64 1))), (5, 1, (.k (.int .i64 65))), (6, 1, (.k (.int .i64 81))), (7, 1, (.k (.int .i64 161))), (8, 1, (.k (.int .i64 225))), (9, 1, (.k (.int .i64 241)))]))⟩,
                   ⟨(some 41), none, (.op (.build [(.int .i64 0), (.int .i64 0), (.bool false), (.bool false), (.bool false), (.bool false), (.bool false), (.int .i64 0), (.int .i64 0), (.slice none 0 0)] [(0, 1, (.k (.int .i64 6))), (1, 1, (.k (.int .i64 3))), (2, 1, (.k (.bool true))), (3, 1, (.k (.bool true))), (4, 1, (.k (.bool true))), (9, 1, (.t 40))]))⟩,
                   ⟨(some 42), none, (.op (.bsl 10 1 [(.int .i64 0), (.int .i64 0), (.bool false), (.bool false), (.bool false), (.bool false), (.bool false), (.int .i64 0), (.int .i64 0), (.slice none 0 0)] [(0, 10, (.t 41))]))⟩,
                   ⟨(some 2), none, (.op (.mov (.t 42)))⟩])
                 (.ret))
                (.skip))))))))))))
     (.seq (.reg [⟨(some 2), none, (.op (.mov (.k (.slice none 0 0))))⟩])
      (.ret))))))
def r226 : List XRes := [.t 2]
theorem res226 : resolveF Tryz.prog 226 = some (x226, r226, 43) := by kernel_rfl
def x232 : XCode := .seq (.reg [⟨(some 4), none, (.op (.mov (.k (.bool false))))⟩])
 (.seq (.seq (.reg [⟨(some 5), none, (.op (.mov (.k (.int .i64 0))))⟩])
   (.block 0 (.loop (.seq (.seq (.reg [⟨(some 6), none, (.op (.mov (.t 5)))⟩,
         ⟨(some 7), none, (.op (.mov (.t 0)))⟩,
         ⟨(some 8), none, (.op (.lenl (.t 7)))⟩,
         ⟨(some 9), none, (.op (.bin .lss (.t 6) (.t 8)))⟩])
       (.cond (.t 9) (.skip)
        (.exit 0)))
      (.seq (.block 1 (.seq (.reg [⟨(some 12), none, (.op (.mov (.t 0)))⟩,
           ⟨(some 13), none, (.op (.mov (.t 5)))⟩,
           ⟨(some 14), none, (.op (.iad 1 (.t 12) (.t 13)))⟩,
           ⟨(some 15), none, (.op (.ld1 (.t 14)))⟩,
           ⟨(some 16), none, (.op (.mov (.t 1)))⟩,
           ⟨(some 17), none, (.op (.bin .eql (.t 15) (.t 16)))⟩])
         (.cond (.t 17) (.seq (.reg [⟨(some 4), none, (.op (.mov (.k (.bool true))))⟩])
           (.ret))
          (.skip))))
       (.reg [⟨(some 10), none, (.op (.mov (.t 5)))⟩,
         ⟨(some 11), none, (.op (.bin .add (.t 10) (.k (.int .i64 1))))⟩,
         ⟨(some 5), none, (.op (.mov (.t 11)))⟩]))))))
  (.seq (.reg [⟨(some 4), none, (.op (.mov (.k (.bool false))))⟩])
   (.ret)))
def r232 : List XRes := [.t 4]
theorem res232 : resolveF Tryz.prog 232 = some (x232, r232, 18) := by kernel_rfl
def x175 : XCode := .seq (.reg [⟨(some 2), none, (.op (.box (.t 0)))⟩,
   ⟨(some 3), none, (.op (.box (.t 1)))⟩,
   ⟨(some 4), none, (.op (.mov (.k (.bool false))))⟩])
 (.seq (.reg [⟨(some 7), none, (.op (.fad 3 (.t 3)))⟩,
    ⟨(some 8), none, (.op (.ld1 (.t 7)))⟩,
    ⟨(some 9), none, (.op (.fad 8 (.t 2)))⟩,
    ⟨(some 10), none, (.op (.ld1 (.t 9)))⟩,
    ⟨(some 11), none, (.op (.bin .eql (.t 8) (.t 10)))⟩,
    ⟨(some 5), none, (.op (.mov (.t 11)))⟩])
  (.seq (.seq (.reg [⟨(some 12), none, (.op (.fad 4 (.t 2)))⟩,
      ⟨(some 13), none, (.op (.ld1 (.t 12)))⟩])
    (.cond (.t 13) (.reg [⟨(some 14), none, (.op (.fad 3 (.t 3)))⟩,
       ⟨(some 15), none, (.op (.ld1 (.t 14)))⟩,
       ⟨(some 16), none, (.op (.bin .geq (.t 15) (.k (.int .i64 (-32768)))))⟩,
       ⟨(some 17), none, (.op (.mov (.t 16)))⟩,
       ⟨(some 18), (some (17, true)), (.op (.fad 3 (.t 3)))⟩,
       ⟨(some 19), (some (17, true)), (.op (.ld1 (.t 18)))⟩,
       ⟨(some 20), (some (17, true)), (.op (.bin .leq (.t 19) (.k (.int .i64 32767))))⟩,
       ⟨(some 21), none, (.op (.pick (.t 17) (.t 20) (.k (.bool false))))⟩,
       ⟨(some 5), none, (.op (.mov (.t 21)))⟩])
     (.skip)))
   (.seq (.reg [⟨(some 22), none, (.op (.fad 4 (.t 3)))⟩,
      ⟨(some 23), none, (.op (.ld1 (.t 22)))⟩,
      ⟨(some 24), none, (.op (.bin .eql (.t 23) (.k (.int .i64 0))))⟩,
      ⟨(some 6), none, (.op (.mov (.t 24)))⟩])
    (.seq (.seq (.reg [⟨(some 25), none, (.op (.fad 9 (.t 2)))⟩,
        ⟨(some 26), none, (.op (.ld1 (.t 25)))⟩,
        ⟨(some 27), none, (.op (.lenl (.t 26)))⟩,
        ⟨(some 28), none, (.op (.bin .gtr (.t 27) (.k (.int .i64 0))))⟩])
      (.cond (.t 28) (.reg [⟨(some 29), none, (.op (.fad 9 (.t 2)))⟩,
         ⟨(some 30), none, (.op (.ld1 (.t 29)))⟩,
         ⟨(some 31), none, (.op (.fad 4 (.t 3)))⟩,
         ⟨(some 32), none, (.op (.ld1 (.t 31)))⟩,
         ⟨(some 33), none, (.call (.f 232) [(.t 30), (.t 32)])⟩,
         ⟨(some 6), none, (.op (.mov (.t 33)))⟩])
       (.skip)))
     (.seq (.seq (.reg [⟨(some 34), none, (.op (.fad 5 (.t 2)))⟩,
         ⟨(some 35), none, (.op (.ld1 (.t 34)))⟩])
       (.cond (.t 35) (.reg [⟨(some 36), none, (.op (.fad 6 (.t 2)))⟩,
          ⟨(some 37), none, (.op (.ld1 (.t 36)))⟩,
          ⟨(some 38), none, (.op (.mov (.t 37)))⟩,
          ⟨(some 39), (some (38, false)), (.op (.fad 4 (.t 3)))⟩,
          ⟨(some 40), (some (38, false)), (.op (.ld1 (.t 39)))⟩,
          ⟨(some 41), (some (38, false)), (.op (.bin .geq (.t 40) (.k (.int .i64 (-2147483648)))))⟩,
          ⟨(some 42), (some (38, false)), (.op (.mov (.t 41)))⟩,
          ⟨(some 43), (some (42, true)), (.op (.fad 4 (.t 3)))⟩,
          ⟨(some 44), (some (42, true)), (.op (.ld1 (.t 43)))⟩,
          ⟨(some 45), (some (42, true)), (.op (.bin .leq (.t 44) (.k (.int .i64 2147483647))))⟩,
          ⟨(some 46), (some (38, false)), (.op (.pick (.t 42) (.t 45) (.k (.bool false))))⟩,
          ⟨(some 47), none, (.op (.pick (.t 38) (.k (.bool true)) (.t 46)))⟩,
          ⟨(some 6), none, (.op (.mov (.t 47)))⟩])
        (.skip)))
      (.seq (.reg [⟨(some 48), none, (.op (.mov (.t 5)))⟩,
         ⟨(some 49), none, (.op (.mov (.t 48)))⟩,
         ⟨(some 50), (some (49, true)), (.op (.mov (.t 6)))⟩,
         ⟨(some 51), none, (.op (.pick (.t 49) (.t 50) (.k (.bool false))))⟩,
         ⟨(some 52), none, (.op (.mov (.t 51)))⟩,
         ⟨(some 53), (some (52, true)), (.op (.fad 2 (.t 2)))⟩,
         ⟨(some 54), (some (52, true)), (.op (.ld1 (.t 53)))⟩,
         ⟨(some 55), (some (52, true)), (.op (.fad 1 (.t 3)))⟩,
         ⟨(some 56), (some (52, true)), (.op (.ld1 (.t 55)))⟩,
         ⟨(some 57), (some (52, true)), (.call (.f 233) [(.t 54), (.k (.int .i64 0)), (.t 56)])⟩,
         ⟨(some 58), none, (.op (.pick (.t 52) (.t 57) (.k (.bool false))))⟩,
         ⟨(some 59), none, (.op (.mov (.t 58)))⟩,
         ⟨(some 60), (some (59, true)), (.op (.fad 3 (.t 2)))⟩,
         ⟨(some 61), (some (59, true)), (.op (.ld1 (.t 60)))⟩,
         ⟨(some 62), (some (59, true)), (.op (.fad 7 (.t 2)))⟩,
         ⟨(some 63), (some (59, true)), (.op (.ld1 (.t 62)))⟩,
         ⟨(some 64), (some (59, true)), (.op (.fad 2 (.t 3)))⟩,
         ⟨(some 65), (some (59, true)), (.op (.ld1 (.t 64)))⟩,
         ⟨(some 66), (some (59, true)), (.call (.f 233) [(.t 61), (.t 63), (.t 65)])⟩,
         ⟨(some 67), none, (.op (.pick (.t 59) (.t 66) (.k (.bool false))))⟩,
         ⟨(some 4), none, (.op (.mov (.t 67)))⟩])
       (.ret)))))))
def r175 : List XRes := [.t 4]
theorem res175 : resolveF Tryz.prog 175 = some (x175, r175, 68) := by kernel_rfl
def x233 : XCode := .seq (.reg [⟨(some 6), none, (.op (.mov (.k (.bool false))))⟩])
 (.seq (.seq (.reg [⟨(some 7), none, (.op (.mov (.t 0)))⟩])
   (.cond (.t 7) (.seq (.reg [⟨(some 8), none, (.op (.mov (.t 2)))⟩,
       ⟨(some 9), none, (.op (.bin .geq (.t 8) (.k (.int .i64 0))))⟩,
       ⟨(some 10), none, (.op (.mov (.t 9)))⟩,
       ⟨(some 11), (some (10, true)), (.op (.mov (.t 2)))⟩,
       ⟨(some 12), (some (10, true)), (.op (.bin .leq (.t 11) (.k (.int .i64 10))))⟩,
       ⟨(some 13), none, (.op (.pick (.t 10) (.t 12) (.k (.bool false))))⟩,
       ⟨(some 6), none, (.op (.mov (.t 13)))⟩])
     (.ret))
    (.skip)))
  (.seq (.reg [⟨(some 14), none, (.op (.mov (.t 2)))⟩,
     ⟨(some 15), none, (.op (.mov (.t 1)))⟩,
     ⟨(some 16), none, (.op (.bin .eql (.t 14) (.t 15)))⟩,
     ⟨(some 6), none, (.op (.mov (.t 16)))⟩])
   (.ret)))
def r233 : List XRes := [.t 6]
theorem res233 : resolveF Tryz.prog 233 = some (x233, r233, 17) := by kernel_rfl
def x99 : XCode := .seq (.reg [⟨(some 1), none, (.op (.box (.t 0)))⟩,
   ⟨(some 2), none, (.op (.mov (.k (.int .i64 0))))⟩])
 (.seq (.seq (.reg [⟨(some 3), none, (.op (.lda 5 (.t 1)))⟩,
     ⟨(some 4), none, (.call (.f 121) [(.t 3)])⟩,
     ⟨(some 5), none, (.op (.bin .neq (.t 4) (.k (.int .i64 0))))⟩])
   (.cond (.t 5) (.seq (.reg [⟨(some 2), none, (.op (.mov (.k (.int .i64 0))))⟩])
     (.ret))
    (.skip)))
  (.seq (.seq (.reg [⟨(some 6), none, (.op (.fad 0 (.t 1)))⟩,
      ⟨(some 7), none, (.op (.ld1 (.t 6)))⟩,
      ⟨(some 8), none, (.call (.f 168) [(.t 7)])⟩,
      ⟨(some 9), none, (.op (.iad 10 (.t 8) (.k (.int .i64 0))))⟩,
      ⟨(some 10), none, (.op (.fad 0 (.t 9)))⟩,
      ⟨(some 11), none, (.op (.ld1 (.t 10)))⟩])
    (.block 0 (.seq (.reg [⟨(some 13), none, (.op (.bin .eql (.t 11) (.k (.int .i64 7))))⟩,
        ⟨(some 12), none, (.op (.mov (.t 13)))⟩])
      (.cond (.t 12) (.seq (.reg [⟨(some 2), none, (.op (.mov (.k (.int .i64 1))))⟩])
        (.ret))
       (.seq (.reg [⟨(some 15), none, (.op (.bin .eql (.t 11) (.k (.int .i64 8))))⟩,
          ⟨(some 14), none, (.op (.mov (.t 15)))⟩])
        (.cond (.t 14) (.seq (.reg [⟨(some 2), none, (.op (.mov (.k (.int .i64 2))))⟩])
          (.ret))
         (.seq (.reg [⟨(some 17), none, (.op (.bin .eql (.t 11) (.k (.int .i64 1))))⟩,
            ⟨(some 16), none, (.op (.mov (.t 17)))⟩])
          (.cond (.t 16) (.seq (.reg [⟨(some 2), none, (.op (.mov (.k (.int .i64 4))))⟩])
            (.ret))
           (.seq (.reg [⟨(some 19), none, (.op (.bin .eql (.t 11) (.k (.int .i64 9))))⟩,
              ⟨(some 18), none, (.op (.mov (.t 19)))⟩])
            (.cond (.t 18) (.seq (.reg [⟨(some 20), none, (.op (.fad 2 (.t 1)))⟩,
                ⟨(some 21), none, (.op (.ld1 (.t 20)))⟩,
                ⟨(some 22), none, (.op (.bin .eql (.t 21) (.k (.int .i64 1))))⟩])
              (.cond (.t 22) (.seq (.reg [⟨(some 2), none, (.op (.mov (.k (.int .i64 3))))⟩])
                (.ret))
               (.skip)))
             (.skip)))))))))))
   (.seq (.reg [⟨(some 2), none, (.op (.mov (.k (.int .i64 0))))⟩])
    (.ret))))
def r99 : List XRes := [.t 2]
theorem res99 : resolveF Tryz.prog 99 = some (x99, r99, 23) := by kernel_rfl
def x185 : XCode := .seq (.reg [⟨(some 1), none, (.op (.box (.t 0)))⟩,
   ⟨(some 2), none, (.op (.mov (.k (.bool false))))⟩,
   ⟨(some 3), none, (.op (.mov (.k (.bool false))))⟩])
 (.seq (.reg [⟨(some 5), none, (.op (.lda 5 (.t 1)))⟩,
    ⟨(some 6), none, (.call (.f 99) [(.t 5)])⟩,
    ⟨(some 4), none, (.op (.mov (.t 6)))⟩])
  (.seq (.reg [⟨(some 7), none, (.op (.mov (.t 4)))⟩,
     ⟨(some 8), none, (.op (.bin .eql (.t 7) (.k (.int .i64 1))))⟩,
     ⟨(some 9), none, (.op (.mov (.t 8)))⟩,
     ⟨(some 10), (some (9, false)), (.op (.mov (.t 4)))⟩,
     ⟨(some 11), (some (9, false)), (.op (.bin .eql (.t 10) (.k (.int .i64 2))))⟩,
     ⟨(some 12), none, (.op (.pick (.t 9) (.k (.bool true)) (.t 11)))⟩,
     ⟨(some 13), none, (.op (.mov (.t 4)))⟩,
     ⟨(some 14), none, (.op (.bin .eql (.t 13) (.k (.int .i64 1))))⟩,
     ⟨(some 2), none, (.op (.mov (.t 12)))⟩,
     ⟨(some 3), none, (.op (.mov (.t 14)))⟩])
   (.ret)))
def r185 : List XRes := [.t 2, .t 3]
theorem res185 : resolveF Tryz.prog 185 = some (x185, r185, 15) := by kernel_rfl
def x32 : XCode := .seq (.reg [⟨(some 6), none, (.op (.mov (.k (.int .i64 0))))⟩])
 (.seq (.reg [⟨(some 8), none, (.op (.mov (.t 0)))⟩,
    ⟨(some 9), none, (.op (.mov (.t 2)))⟩,
    ⟨(some 10), none, (.op (.iad 5 (.t 8) (.t 9)))⟩,
    ⟨(some 11), none, (.op (.fad 3 (.t 10)))⟩,
    ⟨(some 12), none, (.op (.ld1 (.t 11)))⟩,
    ⟨(some 7), none, (.op (.mov (.t 12)))⟩])
  (.seq (.seq (.reg [⟨(some 13), none, (.op (.mov (.t 0)))⟩,
      ⟨(some 14), none, (.op (.mov (.t 2)))⟩,
      ⟨(some 15), none, (.op (.iad 5 (.t 13) (.t 14)))⟩,
      ⟨(some 16), none, (.op (.fad 0 (.t 15)))⟩,
      ⟨(some 17), none, (.op (.ld1 (.t 16)))⟩,
      ⟨(some 18), none, (.op (.bin .eql (.t 17) (.k (.int .i64 6))))⟩])
    (.cond (.t 18) (.reg [⟨(some 19), none, (.op (.mov (.t 0)))⟩,
       ⟨(some 20), none, (.op (.mov (.t 2)))⟩,
       ⟨(some 21), none, (.op (.iad 5 (.t 19) (.t 20)))⟩,
       ⟨(some 22), none, (.op (.fad 4 (.t 21)))⟩,
       ⟨(some 23), none, (.op (.ld1 (.t 22)))⟩,
       ⟨(some 7), none, (.op (.mov (.t 23)))⟩])
     (.skip)))
   (.seq (.drw none [⟨(some 24), none, (.op (.mov (.t 1)))⟩,
      ⟨(some 25), none, (.op (.mov (.t 0)))⟩,
      ⟨(some 26), none, (.op (.lenl (.t 25)))⟩,
      ⟨(some 27), none, (.op (.sls 1 (.t 24) none (some (.t 26))))⟩,
      ⟨(some 28), none, (.op (.mov (.t 1)))⟩,
      ⟨(some 29), none, (.op (.mov (.t 2)))⟩,
      ⟨(some 30), none, (.op (.iad 1 (.t 28) (.t 29)))⟩,
      ⟨(some 31), none, (.op (.ld1 (.t 30)))⟩,
      ⟨(some 32), none, (.op (.bin .add (.t 31) (.k (.int .i64 1))))⟩,
      ⟨(some 33), none, (.op (.mov (.t 7)))⟩,
      ⟨(some 34), none, (.op (.bin .add (.t 32) (.t 33)))⟩,
      ⟨(some 35), none, (.call (.f 76) [(.t 27), (.t 34)])⟩,
      ⟨(some 6), none, (.op (.mov (.t 35)))⟩])
    (.ret))))
def r32 : List XRes := [.t 6]
theorem res32 : resolveF Tryz.prog 32 = some (x32, r32, 36) := by kernel_rfl
def x76 : XCode := .seq (.reg [⟨(some 4), none, (.op (.mov (.k (.int .i64 0))))⟩])
 (.seq (.reg [⟨(some 8), none, (.op (.mov (.t 0)))⟩,
    ⟨(some 9), none, (.op (.lenl (.t 8)))⟩,
    ⟨(some 5), none, (.op (.mov (.k (.int .i64 0))))⟩,
    ⟨(some 6), none, (.op (.mov (.t 9)))⟩])
  (.seq (.block 0 (.loop (.seq (.seq (.reg [⟨(some 10), none, (.op (.mov (.t 5)))⟩,
         ⟨(some 11), none, (.op (.mov (.t 6)))⟩,
         ⟨(some 12), none, (.op (.bin .lss (.t 10) (.t 11)))⟩])
       (.cond (.t 12) (.skip)
        (.exit 0)))
      (.block 1 (.seq (.reg [⟨(some 13), none, (.op (.mov (.t 5)))⟩,
          ⟨(some 14), none, (.op (.mov (.t 6)))⟩,
          ⟨(some 15), none, (.op (.bin .add (.t 13) (.t 14)))⟩,
          ⟨(some 16), none, (.op (.bin .quo (.t 15) (.k (.int .i64 2))))⟩,
          ⟨(some 7), none, (.op (.mov (.t 16)))⟩])
        (.seq (.reg [⟨(some 17), none, (.op (.mov (.t 0)))⟩,
           ⟨(some 18), none, (.op (.mov (.t 7)))⟩,
           ⟨(some 19), none, (.op (.iad 1 (.t 17) (.t 18)))⟩,
           ⟨(some 20), none, (.op (.ld1 (.t 19)))⟩,
           ⟨(some 21), none, (.op (.mov (.t 1)))⟩,
           ⟨(some 22), none, (.op (.bin .lss (.t 20) (.t 21)))⟩])
         (.cond (.t 22) (.reg [⟨(some 23), none, (.op (.mov (.t 7)))⟩,
            ⟨(some 24), none, (.op (.bin .add (.t 23) (.k (.int .i64 1))))⟩,
            ⟨(some 5), none, (.op (.mov (.t 24)))⟩])
          (.reg [⟨(some 25), none, (.op (.mov (.t 7)))⟩,
            ⟨(some 6), none, (.op (.mov (.t 25)))⟩]))))))))
   (.seq (.seq (.reg [⟨(some 26), none, (.op (.mov (.t 5)))⟩,
       ⟨(some 27), none, (.op (.mov (.t 0)))⟩,
       ⟨(some 28), none, (.op (.lenl (.t 27)))⟩,
       ⟨(some 29), none, (.op (.bin .lss (.t 26) (.t 28)))⟩,
       ⟨(some 30), none, (.op (.mov (.t 29)))⟩,
       ⟨(some 31), (some (30, true)), (.op (.mov (.t 0)))⟩,
       ⟨(some 32), (some (30, true)), (.op (.mov (.t 5)))⟩,
       ⟨(some 33), (some (30, true)), (.op (.iad 1 (.t 31) (.t 32)))⟩,
       ⟨(some 34), (some (30, true)), (.op (.ld1 (.t 33)))⟩,
       ⟨(some 35), (some (30, true)), (.op (.mov (.t 1)))⟩,
       ⟨(some 36), (some (30, true)), (.op (.bin .eql (.t 34) (.t 35)))⟩,
       ⟨(some 37), none, (.op (.pick (.t 30) (.t 36) (.k (.bool false))))⟩])
     (.cond (.t 37) (.seq (.reg [⟨(some 38), none, (.op (.mov (.t 5)))⟩,
         ⟨(some 4), none, (.op (.mov (.t 38)))⟩])
       (.ret))
      (.skip)))
    (.seq (.reg [⟨(some 4), none, (.op (.mov (.k (.int .i64 (-1)))))⟩])
     (.ret)))))
def r76 : List XRes := [.t 4]
theorem res76 : resolveF Tryz.prog 76 = some (x76, r76, 39) := by kernel_rfl
def x31 : XCode := .seq (.reg [⟨(some 1), none, (.op (.box (.t 0)))⟩,
   ⟨(some 2), none, (.op (.mov (.k (.bool false))))⟩])
 (.seq (.reg [⟨(some 3), none, (.op (.fad 0 (.t 1)))⟩,
    ⟨(some 4), none, (.op (.ld1 (.t 3)))⟩,
    ⟨(some 5), none, (.op (.bin .eql (.t 4) (.k (.int .i64 5))))⟩,
    ⟨(some 6), none, (.op (.mov (.t 5)))⟩,
    ⟨(some 7), (some (6, false)), (.op (.fad 0 (.t 1)))⟩,
    ⟨(some 8), (some (6, false)), (.op (.ld1 (.t 7)))⟩,
    ⟨(some 9), (some (6, false)), (.op (.bin .eql (.t 8) (.k (.int .i64 6))))⟩,
    ⟨(some 10), none, (.op (.pick (.t 6) (.k (.bool true)) (.t 9)))⟩,
    ⟨(some 2), none, (.op (.mov (.t 10)))⟩])
  (.ret))
def r31 : List XRes := [.t 2]
theorem res31 : resolveF Tryz.prog 31 = some (x31, r31, 11) := by kernel_rfl
def x78 : XCode := .seq (.reg [⟨(some 6), none, (.op (.mov (.k (.int .i64 0))))⟩,
   ⟨(some 7), none, (.op (.mov (.k (.bool false))))⟩])
 (.seq (.seq (.reg [⟨(some 8), none, (.op (.mov (.k (.int .i64 0))))⟩])
   (.block 0 (.loop (.seq (.seq (.reg [⟨(some 9), none, (.op (.mov (.t 8)))⟩,
         ⟨(some 10), none, (.op (.mov (.t 0)))⟩,
         ⟨(some 11), none, (.op (.lenl (.t 10)))⟩,
         ⟨(some 12), none, (.op (.bin .leq (.t 9) (.t 11)))⟩])
       (.cond (.t 12) (.skip)
        (.exit 0)))
      (.seq (.block 1 (.seq (.seq (.reg [⟨(some 15), none, (.op (.mov (.t 0)))⟩,
            ⟨(some 16), none, (.op (.mov (.t 2)))⟩,
            ⟨(some 17), none, (.op (.iad 5 (.t 15) (.t 16)))⟩,
            ⟨(some 18), none, (.op (.lda 5 (.t 17)))⟩,
            ⟨(some 19), none, (.call (.f 31) [(.t 18)])⟩,
            ⟨(some 20), none, (.op (.un .not (.t 19)))⟩])
          (.cond (.t 20) (.seq (.reg [⟨(some 21), none, (.op (.mov (.t 2)))⟩,
              ⟨(some 6), none, (.op (.mov (.t 21)))⟩,
              ⟨(some 7), none, (.op (.mov (.k (.bool true))))⟩])
            (.ret))
           (.skip)))
         (.seq (.reg [⟨(some 22), none, (.op (.mov (.t 0)))⟩,
            ⟨(some 23), none, (.op (.mov (.t 1)))⟩,
            ⟨(some 24), none, (.op (.mov (.t 2)))⟩,
            ⟨(some 25), none, (.call (.f 32) [(.t 22), (.t 23), (.t 24)])⟩,
            ⟨(some 2), none, (.op (.mov (.t 25)))⟩])
          (.seq (.reg [⟨(some 26), none, (.op (.mov (.t 2)))⟩,
             ⟨(some 27), none, (.op (.bin .lss (.t 26) (.k (.int .i64 0))))⟩])
           (.cond (.t 27) (.seq (.reg [⟨(some 6), none, (.op (.mov (.k (.int .i64 0))))⟩,
               ⟨(some 7), none, (.op (.mov (.k (.bool false))))⟩])
             (.ret))
            (.skip))))))
       (.reg [⟨(some 13), none, (.op (.mov (.t 8)))⟩,
         ⟨(some 14), none, (.op (.bin .add (.t 13) (.k (.int .i64 1))))⟩,
         ⟨(some 8), none, (.op (.mov (.t 14)))⟩]))))))
  (.seq (.reg [⟨(some 6), none, (.op (.mov (.k (.int .i64 0))))⟩,
     ⟨(some 7), none, (.op (.mov (.k (.bool false))))⟩])
   (.ret)))
def r78 : List XRes := [.t 6, .t 7]
theorem res78 : resolveF Tryz.prog 78 = some (x78, r78, 28) := by kernel_rfl
end Go.Tidy
namespace Go.Tidy
open Go Go.Eng Go.Proofs
set_option maxRecDepth 100000
def x80 : XCode := .seq (.reg [⟨(some 5), none, (.op (.mov (.t 0)))⟩,
   ⟨(some 6), none, (.op (.lenl (.t 5)))⟩,
   ⟨(some 4), none, (.op (.mov (.t 6)))⟩])
 (.reg [⟨(some 7), none, (.op (.mov (.t 0)))⟩,
   ⟨(some 8), none, (.op (.mov (.t 4)))⟩,
   ⟨(some 9), none, (.op (.mov (.t 4)))⟩,
   ⟨(some 10), none, (.op (.cvi .u64 (.t 9)))⟩,
   ⟨(some 11), none, (.call (.f 139) [(.t 10)])⟩,
   ⟨(some 12), none, (.op (.mov (.t 1)))⟩,
   ⟨(some 13), none, (.call (.f 138) [(.t 7), (.k (.int .i64 0)), (.t 8), (.t 11), (.t 12)])⟩])
def r80 : List XRes := []
theorem res80 : resolveF Tryz.prog 80 = some (x80, r80, 14) := by kernel_rfl
def x138 : XCode := .seq (.reg [⟨(some 10), none, (.op (.mov (.k (.bool true))))⟩])
 (.seq (.reg [⟨(some 11), none, (.op (.mov (.k (.bool true))))⟩])
  (.block 0 (.loop (.block 1 (.seq (.reg [⟨(some 21), none, (.op (.mov (.t 2)))⟩,
        ⟨(some 22), none, (.op (.mov (.t 1)))⟩,
        ⟨(some 23), none, (.op (.bin .sub (.t 21) (.t 22)))⟩,
        ⟨(some 12), none, (.op (.mov (.t 23)))⟩])
      (.seq (.seq (.reg [⟨(some 24), none, (.op (.mov (.t 12)))⟩,
          ⟨(some 25), none, (.op (.bin .leq (.t 24) (.k (.int .i64 12))))⟩])
        (.cond (.t 25) (.seq (.reg [⟨(some 26), none, (.op (.mov (.t 0)))⟩,
            ⟨(some 27), none, (.op (.mov (.t 1)))⟩,
            ⟨(some 28), none, (.op (.mov (.t 2)))⟩,
            ⟨(some 29), none, (.op (.mov (.t 4)))⟩,
            ⟨(some 30), none, (.call (.f 191) [(.t 26), (.t 27), (.t 28), (.t 29)])⟩])
          (.ret))
         (.skip)))
       (.seq (.seq (.reg [⟨(some 31), none, (.op (.mov (.t 3)))⟩,
           ⟨(some 32), none, (.op (.bin .eql (.t 31) (.k (.int .i64 0))))⟩])
         (.cond (.t 32) (.seq (.reg [⟨(some 33), none, (.op (.mov (.t 0)))⟩,
             ⟨(some 34), none, (.op (.mov (.t 1)))⟩,
             ⟨(some 35), none, (.op (.mov (.t 2)))⟩,
             ⟨(some 36), none, (.op (.mov (.t 4)))⟩,
             ⟨(some 37), none, (.call (.f 192) [(.t 33), (.t 34), (.t 35), (.t 36)])⟩])
           (.ret))
          (.skip)))
        (.seq (.seq (.reg [⟨(some 38), none, (.op (.mov (.t 10)))⟩,
            ⟨(some 39), none, (.op (.un .not (.t 38)))⟩])
          (.cond (.t 39) (.seq (.reg [⟨(some 40), none, (.op (.mov (.t 0)))⟩,
              ⟨(some 41), none, (.op (.mov (.t 1)))⟩,
              ⟨(some 42), none, (.op (.mov (.t 2)))⟩,
              ⟨(some 43), none, (.op (.mov (.t 4)))⟩,
              ⟨(some 44), none, (.call (.f 193) [(.t 40), (.t 41), (.t 42), (.t 43)])⟩])
            (.reg [⟨(some 45), none, (.op (.mov (.t 3)))⟩,
              ⟨(some 46), none, (.op (.bin .sub (.t 45) (.k (.int .i64 1))))⟩,
              ⟨(some 3), none, (.op (.mov (.t 46)))⟩]))
           (.skip)))
         (.seq (.reg [⟨(some 48), none, (.op (.mov (.t 0)))⟩,
            ⟨(some 49), none, (.op (.mov (.t 1)))⟩,
            ⟨(some 50), none, (.op (.mov (.t 2)))⟩,
            ⟨(some 51), none, (.op (.mov (.t 4)))⟩,
            ⟨(some 52), none, (.call (.f 194) [(.t 48), (.t 49), (.t 50), (.t 51)])⟩,
            ⟨(some 47), none, (.op (.mov (.t 52)))⟩,
            ⟨(some 53), none, (.op (.ext 0 (.t 47)))⟩,
            ⟨(some 54), none, (.op (.ext 1 (.t 47)))⟩,
            ⟨(some 13), none, (.op (.mov (.t 53)))⟩,
            ⟨(some 14), none, (.op (.mov (.t 54)))⟩])
          (.seq (.seq (.reg [⟨(some 55), none, (.op (.mov (.t 14)))⟩,
              ⟨(some 56), none, (.op (.bin .eql (.t 55) (.k (.int .i64 2))))⟩])
            (.cond (.t 56) (.seq (.reg [⟨(some 57), none, (.op (.mov (.t 0)))⟩,
                ⟨(some 58), none, (.op (.mov (.t 1)))⟩,
                ⟨(some 59), none, (.op (.mov (.t 2)))⟩,
                ⟨(some 60), none, (.op (.mov (.t 4)))⟩,
                ⟨(some 61), none, (.call (.f 195) [(.t 57), (.t 58), (.t 59), (.t 60)])⟩])
              (.seq (.reg [⟨(some 62), none, (.op (.mov (.t 2)))⟩,
                 ⟨(some 63), none, (.op (.bin .sub (.t 62) (.k (.int .i64 1))))⟩,
                 ⟨(some 64), none, (.op (.mov (.t 13)))⟩,
                 ⟨(some 65), none, (.op (.mov (.t 1)))⟩,
                 ⟨(some 66), none, (.op (.bin .sub (.t 64) (.t 65)))⟩,
                 ⟨(some 67), none, (.op (.bin .sub (.t 63) (.t 66)))⟩,
                 ⟨(some 13), none, (.op (.mov (.t 67)))⟩])
               (.reg [⟨(some 14), none, (.op (.mov (.k (.int .i64 1))))⟩])))
             (.skip)))
           (.seq (.seq (.reg [⟨(some 68), none, (.op (.mov (.t 10)))⟩,
               ⟨(some 69), none, (.op (.mov (.t 68)))⟩,
               ⟨(some 70), (some (69, true)), (.op (.mov (.t 11)))⟩,
               ⟨(some 71), none, (.op (.pick (.t 69) (.t 70) (.k (.bool false))))⟩,
               ⟨(some 72), none, (.op (.mov (.t 71)))⟩,
               ⟨(some 73), (some (72, true)), (.op (.mov (.t 14)))⟩,
               ⟨(some 74), (some (72, true)), (.op (.bin .eql (.t 73) (.k (.int .i64 1))))⟩,
               ⟨(some 75), none, (.op (.pick (.t 72) (.t 74) (.k (.bool false))))⟩])
             (.cond (.t 75) (.seq (.reg [⟨(some 76), none, (.op (.mov (.t 0)))⟩,
                 ⟨(some 77), none, (.op (.mov (.t 1)))⟩,
                 ⟨(some 78), none, (.op (.mov (.t 2)))⟩,
                 ⟨(some 79), none, (.op (.mov (.t 4)))⟩,
                 ⟨(some 80), none, (.call (.f 196) [(.t 76), (.t 77), (.t 78), (.t 79)])⟩])
               (.cond (.t 80) (.ret)
                (.skip)))
              (.skip)))
            (.seq (.seq (.drw none [⟨(some 81), none, (.op (.mov (.t 1)))⟩,
                ⟨(some 82), none, (.op (.bin .gtr (.t 81) (.k (.int .i64 0))))⟩,
                ⟨(some 83), none, (.op (.mov (.t 82)))⟩,
                ⟨(some 84), (some (83, true)), (.op (.mov (.t 4)))⟩,
                ⟨(some 85), (some (83, true)), (.op (.mov (.t 0)))⟩,
                ⟨(some 86), (some (83, true)), (.op (.mov (.t 1)))⟩,
                ⟨(some 87), (some (83, true)), (.op (.bin .sub (.t 86) (.k (.int .i64 1))))⟩,
                ⟨(some 88), (some (83, true)), (.op (.iad 1 (.t 85) (.t 87)))⟩,
                ⟨(some 89), (some (83, true)), (.op (.ld1 (.t 88)))⟩,
                ⟨(some 90), (some (83, true)), (.op (.mov (.t 0)))⟩,
                ⟨(some 91), (some (83, true)), (.op (.mov (.t 13)))⟩,
                ⟨(some 92), (some (83, true)), (.op (.iad 1 (.t 90) (.t 91)))⟩,
                ⟨(some 93), (some (83, true)), (.op (.ld1 (.t 92)))⟩,
                ⟨(some 94), (some (83, true)), (.call (.t 84) [(.t 89), (.t 93)])⟩,
                ⟨(some 95), (some (83, true)), (.op (.bin .lss (.t 94) (.k (.int .i64 0))))⟩,
                ⟨(some 96), (some (83, true)), (.op (.un .not (.t 95)))⟩,
                ⟨(some 97), none, (.op (.pick (.t 83) (.t 96) (.k (.bool false))))⟩])
              (.cond (.t 97) (.seq (.reg [⟨(some 98), none, (.op (.mov (.t 0)))⟩,
                  ⟨(some 99), none, (.op (.mov (.t 1)))⟩,
                  ⟨(some 100), none, (.op (.mov (.t 2)))⟩,
                  ⟨(some 101), none, (.op (.mov (.t 13)))⟩,
                  ⟨(some 102), none, (.op (.mov (.t 4)))⟩,
                  ⟨(some 103), none, (.call (.f 197) [(.t 98), (.t 99), (.t 100), (.t 101), (.t 102)])⟩,
                  ⟨(some 15), none, (.op (.mov (.t 103)))⟩])
                (.seq (.reg [⟨(some 104), none, (.op (.mov (.t 15)))⟩,
                   ⟨(some 1), none, (.op (.mov (.t 104)))⟩])
                 (.exit 1)))
               (.skip)))
             (.seq (.reg [⟨(some 106), none, (.op (.mov (.t 0)))⟩,
                ⟨(some 107), none, (.op (.mov (.t 1)))⟩,
                ⟨(some 108), none, (.op (.mov (.t 2)))⟩,
                ⟨(some 109), none, (.op (.mov (.t 13)))⟩,
                ⟨(some 110), none, (.op (.mov (.t 4)))⟩,
                ⟨(some 111), none, (.call (.f 198) [(.t 106), (.t 107), (.t 108), (.t 109), (.t 110)])⟩,
                ⟨(some 105), none, (.op (.mov (.t 111)))⟩,
                ⟨(some 112), none, (.op (.ext 0 (.t 105)))⟩,
                ⟨(some 113), none, (.op (.ext 1 (.t 105)))⟩,
                ⟨(some 16), none, (.op (.mov (.t 112)))⟩,
                ⟨(some 17), none, (.op (.mov (.t 113)))⟩])
              (.seq (.reg [⟨(some 114), none, (.op (.mov (.t 17)))⟩,
                 ⟨(some 11), none, (.op (.mov (.t 114)))⟩])
               (.seq (.reg [⟨(some 115), none, (.op (.mov (.t 16)))⟩,
                  ⟨(some 116), none, (.op (.mov (.t 1)))⟩,
                  ⟨(some 117), none, (.op (.bin .sub (.t 115) (.t 116)))⟩,
                  ⟨(some 118), none, (.op (.mov (.t 2)))⟩,
                  ⟨(some 119), none, (.op (.mov (.t 16)))⟩,
                  ⟨(some 120), none, (.op (.bin .sub (.t 118) (.t 119)))⟩,
                  ⟨(some 18), none, (.op (.mov (.t 117)))⟩,
                  ⟨(some 19), none, (.op (.mov (.t 120)))⟩])
                (.seq (.reg [⟨(some 121), none, (.op (.mov (.t 12)))⟩,
                   ⟨(some 122), none, (.op (.bin .quo (.t 121) (.k (.int .i64 8))))⟩,
                   ⟨(some 20), none, (.op (.mov (.t 122)))⟩])
                 (.seq (.reg [⟨(some 123), none, (.op (.mov (.t 18)))⟩,
                    ⟨(some 124), none, (.op (.mov (.t 19)))⟩,
                    ⟨(some 125), none, (.op (.bin .lss (.t 123) (.t 124)))⟩])
                  (.cond (.t 125) (.seq (.reg [⟨(some 126), none, (.op (.mov (.t 18)))⟩,
                      ⟨(some 127), none, (.op (.mov (.t 20)))⟩,
                      ⟨(some 128), none, (.op (.bin .geq (.t 126) (.t 127)))⟩,
                      ⟨(some 10), none, (.op (.mov (.t 128)))⟩])
                    (.seq (.reg [⟨(some 129), none, (.op (.mov (.t 0)))⟩,
                       ⟨(some 130), none, (.op (.mov (.t 1)))⟩,
                       ⟨(some 131), none, (.op (.mov (.t 16)))⟩,
                       ⟨(some 132), none, (.op (.mov (.t 3)))⟩,
                       ⟨(some 133), none, (.op (.mov (.t 4)))⟩,
                       ⟨(some 134), none, (.call (.f 138) [(.t 129), (.t 130), (.t 131), (.t 132), (.t 133)])⟩])
                     (.reg [⟨(some 135), none, (.op (.mov (.t 16)))⟩,
                       ⟨(some 136), none, (.op (.bin .add (.t 135) (.k (.int .i64 1))))⟩,
                       ⟨(some 1), none, (.op (.mov (.t 136)))⟩])))
                   (.seq (.reg [⟨(some 137), none, (.op (.mov (.t 19)))⟩,
                      ⟨(some 138), none, (.op (.mov (.t 20)))⟩,
                      ⟨(some 139), none, (.op (.bin .geq (.t 137) (.t 138)))⟩,
                      ⟨(some 10), none, (.op (.mov (.t 139)))⟩])
                    (.seq (.reg [⟨(some 140), none, (.op (.mov (.t 0)))⟩,
                       ⟨(some 141), none, (.op (.mov (.t 16)))⟩,
                       ⟨(some 142), none, (.op (.bin .add (.t 141) (.k (.int .i64 1))))⟩,
                       ⟨(some 143), none, (.op (.mov (.t 2)))⟩,
                       ⟨(some 144), none, (.op (.mov (.t 3)))⟩,
                       ⟨(some 145), none, (.op (.mov (.t 4)))⟩,
                       ⟨(some 146), none, (.call (.f 138) [(.t 140), (.t 142), (.t 143), (.t 144), (.t 145)])⟩])
                     (.reg [⟨(some 147), none, (.op (.mov (.t 16)))⟩,
                       ⟨(some 2), none, (.op (.mov (.t 147)))⟩])))))))))))))))))))))
def r138 : List XRes := []
theorem res138 : resolveF Tryz.prog 138 = some (x138, r138, 148) := by kernel_rfl
def x139 : XCode := .seq (.reg [⟨(some 2), none, (.op (.mov (.k (.int .i64 0))))⟩])
 (.seq (.cond (.k (.bool false)) (.seq (.reg [⟨(some 3), none, (.op (.mov (.t 0)))⟩,
      ⟨(some 4), none, (.op (.cvi .u32 (.t 3)))⟩,
      ⟨(some 5), none, (.call (.f 199) [(.t 4)])⟩,
      ⟨(some 2), none, (.op (.mov (.t 5)))⟩])
    (.ret))
   (.skip))
  (.seq (.reg [⟨(some 6), none, (.op (.mov (.t 0)))⟩,
     ⟨(some 7), none, (.call (.f 200) [(.t 6)])⟩,
     ⟨(some 2), none, (.op (.mov (.t 7)))⟩])
   (.ret)))
def r139 : List XRes := [.t 2]
theorem res139 : resolveF Tryz.prog 139 = some (x139, r139, 8) := by kernel_rfl
def x191 : XCode := .seq (.reg [⟨(some 10), none, (.op (.mov (.t 1)))⟩,
   ⟨(some 11), none, (.op (.bin .add (.t 10) (.k (.int .i64 1))))⟩,
   ⟨(some 8), none, (.op (.mov (.t 11)))⟩])
 (.block 0 (.loop (.seq (.seq (.reg [⟨(some 12), none, (.op (.mov (.t 8)))⟩,
       ⟨(some 13), none, (.op (.mov (.t 2)))⟩,
       ⟨(some 14), none, (.op (.bin .lss (.t 12) (.t 13)))⟩])
     (.cond (.t 14) (.skip)
      (.exit 0)))
    (.seq (.block 1 (.seq (.reg [⟨(some 17), none, (.op (.mov (.t 8)))⟩,
         ⟨(some 9), none, (.op (.mov (.t 17)))⟩])
       (.block 2 (.loop (.seq (.seq (.drw none [⟨(some 18), none, (.op (.mov (.t 9)))⟩,
             ⟨(some 19), none, (.op (.mov (.t 1)))⟩,
             ⟨(some 20), none, (.op (.bin .gtr (.t 18) (.t 19)))⟩,
             ⟨(some 21), none, (.op (.mov (.t 20)))⟩,
             ⟨(some 22), (some (21, true)), (.op (.mov (.t 3)))⟩,
             ⟨(some 23), (some (21, true)), (.op (.mov (.t 0)))⟩,
             ⟨(some 24), (some (21, true)), (.op (.mov (.t 9)))⟩,
             ⟨(some 25), (some (21, true)), (.op (.iad 1 (.t 23) (.t 24)))⟩,
             ⟨(some 26), (some (21, true)), (.op (.ld1 (.t 25)))⟩,
             ⟨(some 27), (some (21, true)), (.op (.mov (.t 0)))⟩,
             ⟨(some 28), (some (21, true)), (.op (.mov (.t 9)))⟩,
             ⟨(some 29), (some (21, true)), (.op (.bin .sub (.t 28) (.k (.int .i64 1))))⟩,
             ⟨(some 30), (some (21, true)), (.op (.iad 1 (.t 27) (.t 29)))⟩,
             ⟨(some 31), (some (21, true)), (.op (.ld1 (.t 30)))⟩,
             ⟨(some 32), (some (21, true)), (.call (.t 22) [(.t 26), (.t 31)])⟩,
             ⟨(some 33), (some (21, true)), (.op (.bin .lss (.t 32) (.k (.int .i64 0))))⟩,
             ⟨(some 34), none, (.op (.pick (.t 21) (.t 33) (.k (.bool false))))⟩])
           (.cond (.t 34) (.skip)
            (.exit 2)))
          (.seq (.block 3 (.drw none [⟨(some 37), none, (.op (.mov (.t 0)))⟩,
              ⟨(some 38), none, (.op (.mov (.t 9)))⟩,
              ⟨(some 39), none, (.op (.mov (.t 0)))⟩,
              ⟨(some 40), none, (.op (.mov (.t 9)))⟩,
              ⟨(some 41), none, (.op (.bin .sub (.t 40) (.k (.int .i64 1))))⟩,
              ⟨(some 42), none, (.op (.mov (.t 0)))⟩,
              ⟨(some 43), none, (.op (.mov (.t 9)))⟩,
              ⟨(some 44), none, (.op (.bin .sub (.t 43) (.k (.int .i64 1))))⟩,
              ⟨(some 45), none, (.op (.iad 1 (.t 42) (.t 44)))⟩,
              ⟨(some 46), none, (.op (.ld1 (.t 45)))⟩,
              ⟨(some 47), none, (.op (.mov (.t 0)))⟩,
              ⟨(some 48), none, (.op (.mov (.t 9)))⟩,
              ⟨(some 49), none, (.op (.iad 1 (.t 47) (.t 48)))⟩,
              ⟨(some 50), none, (.op (.ld1 (.t 49)))⟩,
              ⟨(some 51), none, (.op (.iad 1 (.t 37) (.t 38)))⟩,
              ⟨none, none, (.op (.st 1 (.t 51) (.t 46)))⟩,
              ⟨(some 52), none, (.op (.iad 1 (.t 39) (.t 41)))⟩,
              ⟨none, none, (.op (.st 1 (.t 52) (.t 50)))⟩]))
           (.reg [⟨(some 35), none, (.op (.mov (.t 9)))⟩,
             ⟨(some 36), none, (.op (.bin .sub (.t 35) (.k (.int .i64 1))))⟩,
             ⟨(some 9), none, (.op (.mov (.t 36)))⟩])))))))
     (.reg [⟨(some 15), none, (.op (.mov (.t 8)))⟩,
       ⟨(some 16), none, (.op (.bin .add (.t 15) (.k (.int .i64 1))))⟩,
       ⟨(some 8), none, (.op (.mov (.t 16)))⟩])))))
def r191 : List XRes := []
theorem res191 : resolveF Tryz.prog 191 = some (x191, r191, 53) := by kernel_rfl
def x200 : XCode := .seq (.reg [⟨(some 2), none, (.op (.mov (.k (.int .i64 0))))⟩])
 (.seq (.seq (.reg [⟨(some 3), none, (.op (.mov (.t 0)))⟩,
     ⟨(some 4), none, (.op (.bin .geq (.t 3) (.k (.int .u64 4294967296))))⟩])
   (.cond (.t 4) (.seq (.reg [⟨(some 5), none, (.op (.mov (.t 0)))⟩,
       ⟨(some 6), none, (.op (.bin .shr (.t 5) (.k (.int .u64 32))))⟩,
       ⟨(some 0), none, (.op (.mov (.t 6)))⟩])
     (.reg [⟨(some 2), none, (.op (.mov (.k (.int .i64 32))))⟩]))
    (.skip)))
  (.seq (.seq (.reg [⟨(some 7), none, (.op (.mov (.t 0)))⟩,
      ⟨(some 8), none, (.op (.bin .geq (.t 7) (.k (.int .u64 65536))))⟩])
    (.cond (.t 8) (.seq (.reg [⟨(some 9), none, (.op (.mov (.t 0)))⟩,
        ⟨(some 10), none, (.op (.bin .shr (.t 9) (.k (.int .u64 16))))⟩,
        ⟨(some 0), none, (.op (.mov (.t 10)))⟩])
      (.reg [⟨(some 11), none, (.op (.mov (.t 2)))⟩,
        ⟨(some 12), none, (.op (.bin .add (.t 11) (.k (.int .i64 16))))⟩,
        ⟨(some 2), none, (.op (.mov (.t 12)))⟩]))
     (.skip)))
   (.seq (.seq (.reg [⟨(some 13), none, (.op (.mov (.t 0)))⟩,
       ⟨(some 14), none, (.op (.bin .geq (.t 13) (.k (.int .u64 256))))⟩])
     (.cond (.t 14) (.seq (.reg [⟨(some 15), none, (.op (.mov (.t 0)))⟩,
         ⟨(some 16), none, (.op (.bin .shr (.t 15) (.k (.int .u64 8))))⟩,
         ⟨(some 0), none, (.op (.mov (.t 16)))⟩])
       (.reg [⟨(some 17), none, (.op (.mov (.t 2)))⟩,
         ⟨(some 18), none, (.op (.bin .add (.t 17) (.k (.int .i64 8))))⟩,
         ⟨(some 2), none, (.op (.mov (.t 18)))⟩]))
      (.skip)))
    (.seq (.reg [⟨(some 19), none, (.op (.mov (.t 2)))⟩,
       ⟨(some 20), none, (.op (.mov (.t 0)))⟩,
       ⟨(some 21), none, (.op (.cvi .u8 (.t 20)))⟩,
       ⟨(some 22), none, (.op (.ixs (.k (.string ⟨#[0, 1, 2, 2, 3, 3, 3, 3, 4, 4, 4, 4, 4, 4, 4, 4, 5, 5, 5, 5, 5, 5, 5, 5, 5, 5, 5, 5, 5, 5, 5, 5, 6, 6, 6, 6, 6, 6, 6, 6, 6, 6, 6, 6, 6, 6, 6, 6, 6, 6, 6, 6, 6, 6, 6, 6, 6, 6, 6, 6, 6, 6, 6, 6, 7, 7, 7, 7, 7, 7, 7, 7, 7, 7, 7, 7, 7, 7, 7, 7, 7, 7, 7, 7, 7, 7, 7, 7, 7, 7, 7, 7, 7, 7, 7, 7, 7, 7, 7, 7, 7, 7, 7, 7, 7, 7, 7, 7, 7, 7, 7, 7, 7, 7, 7, 7, 7, 7, 7, 7, 7, 7, 7, 7, 7, 7, 7, 7, 8, 8, 8, 8, 8, 8, 8, 8, 8, 8, 8, 8, 8, 8, 8, 8, 8, 8, 8, 8, 8, 8, 8, 8, 8, 8, 8, 8, 8, 8, 8, 8, 8, 8, 8, 8, 8, 8, 8, 8, 8, 8, 8, 8, 8, 8, 8, 8, 8, 8, 8, 8, 8, 8, 8, 8, 8, 8, 8, 8, 8, 8, 8, 8, 8, 8, 8, 8, 8, 8, 8, 8, 8, 8, 8, 8, 8, 8, 8, 8, 8, 8, 8, 8, 8, 8, 8, 8, 8, 8, 8, 8, 8, 8, 8, 8, 8, 8, 8, 8, 8, 8, 8, 8, 8, 8, 8, 8, 8, 8, 8, 8, 8, 8, 8, 8, 8, 8, 8, 8, 8, 8, 8, 8, 8, 8, 8, 8]⟩)) (.t 21)))⟩,
       ⟨(some 23), none, (.op (.cvi .i64 (.t 22)))⟩,
       ⟨(some 24), none, (.op (.bin .add (.t 19) (.t 23)))⟩,
       ⟨(some 2), none, (.op (.mov (.t 24)))⟩])
     (.ret)))))
def r200 : List XRes := [.t 2]
theorem res200 : resolveF Tryz.prog 200 = some (x200, r200, 25) := by kernel_rfl
end Go.Tidy
namespace Go.Tidy
open Go Go.Eng Go.Proofs
set_option maxRecDepth 100000
def pArr0 : List Int := [0x00, 0x40, 0x50, 0xa0, 0x01, 0x41, 0x51, 0xa1, 0xe1, 0xf1]
def pArr1 : List Int := [0x71, 0x69, 0x61, 0x79, 0x91, 0x89, 0x81]
def pArr2 : List Int := [0x72, 0x6a, 0x62, 0x7a, 0x73, 0x6b, 0x63, 0x7b]
def pArr3 : List Int := [0x00, 0x10, 0x20, 0x30, 0x40, 0x50, 0x60, 0x70, 0x90, 0xa0, 0xb0, 0xc0]
def pArr4 : List Int := [0x10, 0x20, 0x30, 0x40, 0x50, 0x60, 0x70, 0xa0, 0xb0, 0xc0, 0xd0]
def arrs : Nat → Option (List AV)
  | 0 => some (pArr0.map VI)
  | 1 => some (pArr1.map VI)
  | 2 => some (pArr2.map VI)
  | 3 => some (pArr3.map VI)
  | 4 => some (pArr4.map VI)
  | _ => none
def ft : FT := fun
  | 16 => some (x16, r16, 4)
  | 20 => some (x20, r20, 32)
  | 23 => some (x23, r23, 65)
  | 26 => some (x26, r26, 99)
  | 29 => some (x29, r29, 27)
  | 30 => some (x30, r30, 30)
  | 31 => some (x31, r31, 11)
  | 32 => some (x32, r32, 36)
  | 33 => some (x33, r33, 111)
  | 34 => some (x34, r34, 82)
  | 51 => some (x51, r51, 26)
  | 69 => some (x69, r69, 8)
  | 70 => some (x70, r70, 25)
  | 72 => some (x72, r72, 11)
  | 76 => some (x76, r76, 39)
  | 77 => some (x77, r77, 48)
  | 78 => some (x78, r78, 28)
  | 79 => some (x79, r79, 58)
  | 80 => some (x80, r80, 14)
  | 81 => some (x81, r81, 30)
  | 82 => some (x82, r82, 18)
  | 83 => some (x83, r83, 20)
  | 84 => some (x84, r84, 20)
  | 85 => some (x85, r85, 9)
  | 86 => some (x86, r86, 57)
  | 87 => some (x87, r87, 33)
  | 88 => some (x88, r88, 138)
  | 89 => some (x89, r89, 52)
  | 99 => some (x99, r99, 23)
  | 107 => some (x107, r107, 6)
  | 121 => some (x121, r121, 23)
  | 125 => some (x125, r125, 63)
  | 126 => some (x126, r126, 2)
  | 127 => some (x127, r127, 47)
  | 131 => some (x131, r131, 64)
  | 132 => some (x132, r132, 19)
  | 133 => some (x133, r133, 89)
  | 134 => some (x134, r134, 48)
  | 135 => some (x135, r135, 29)
  | 136 => some (x136, r136, 15)
  | 137 => some (x137, r137, 19)
  | 138 => some (x138, r138, 148)
  | 139 => some (x139, r139, 8)
  | 140 => some (x140, r140, 6)
  | 141 => some (x141, r141, 6)
  | 142 => some (x142, r142, 14)
  | 143 => some (x143, r143, 144)
  | 144 => some (x144, r144, 54)
  | 145 => some (x145, r145, 20)
  | 146 => some (x146, r146, 30)
  | 147 => some (x147, r147, 14)
  | 148 => some (x148, r148, 9)
  | 149 => some (x149, r149, 35)
  | 150 => some (x150, r150, 28)
  | 151 => some (x151, r151, 12)
  | 152 => some (x152, r152, 32)
  | 153 => some (x153, r153, 39)
  | 154 => some (x154, r154, 88)
  | 168 => some (x168, r168, 45)
  | 175 => some (x175, r175, 68)
  | 177 => some (x177, r177, 28)
  | 178 => some (x178, r178, 12)
  | 179 => some (x179, r179, 54)
  | 180 => some (x180, r180, 12)
  | 181 => some (x181, r181, 9)
  | 182 => some (x182, r182, 70)
  | 185 => some (x185, r185, 15)
  | 186 => some (x186, r186, 18)
  | 187 => some (x187, r187, 45)
  | 188 => some (x188, r188, 55)
  | 189 => some (x189, r189, 14)
  | 190 => some (x190, r190, 58)
  | 191 => some (x191, r191, 53)
  | 200 => some (x200, r200, 25)
  | 201 => some (x201, r201, 53)
  | 202 => some (x202, r202, 43)
  | 203 => some (x203, r203, 78)
  | 204 => some (x204, r204, 19)
  | 205 => some (x205, r205, 18)
  | 224 => some (x224, r224, 86)
  | 225 => some (x225, r225, 78)
  | 226 => some (x226, r226, 43)
  | 232 => some (x232, r232, 18)
  | 233 => some (x233, r233, 17)
  | 235 => some (x235, r235, 6)
  | 236 => some (x236, r236, 17)
  | 237 => some (x237, r237, 6)
  | 238 => some (x238, r238, 64)
  | 239 => some (x239, r239, 57)
  | 240 => some (x240, r240, 9)
  | 241 => some (x241, r241, 39)
  | 242 => some (x242, r242, 11)
  | 243 => some (x243, r243, 36)
  | 244 => some (x244, r244, 6)
  | 245 => some (x245, r245, 8)
  | _ => none
theorem ft_ok : ∀ g r, ft g = some r → resolveF Tryz.prog g = some r := by
  intro g r h
  unfold ft at h
  split at h
  · cases h; exact res16
  · cases h; exact res20
  · cases h; exact res23
  · cases h; exact res26
  · cases h; exact res29
  · cases h; exact res30
  · cases h; exact res31
  · cases h; exact res32
  · cases h; exact res33
  · cases h; exact res34
  · cases h; exact res51
  · cases h; exact res69
  · cases h; exact res70
  · cases h; exact res72
  · cases h; exact res76
  · cases h; exact res77
  · cases h; exact res78
  · cases h; exact res79
  · cases h; exact res80
  · cases h; exact res81
  · cases h; exact res82
  · cases h; exact res83
  · cases h; exact res84
  · cases h; exact res85
  · cases h; exact res86
  · cases h; exact res87
  · cases h; exact res88
  · cases h; exact res89
  · cases h; exact res99
  · cases h; exact res107
  · cases h; exact res121
  · cases h; exact res125
  · cases h; exact res126
  · cases h; exact res127
  · cases h; exact res131
  · cases h; exact res132
  · cases h; exact res133
  · cases h; exact res134
  · cases h; exact res135
  · cases h; exact res136
  · cases h; exact res137
  · cases h; exact res138
  · cases h; exact res139
  · cases h; exact res140
  · cases h; exact res141
  · cases h; exact res142
  · cases h; exact res143
  · cases h; exact res144
  · cases h; exact res145
  · cases h; exact res146
  · cases h; exact res147
  · cases h; exact res148
  · cases h; exact res149
  · cases h; exact res150
  · cases h; exact res151
  · cases h; exact res152
  · cases h; exact res153
  · cases h; exact res154
  · cases h; exact res168
  · cases h; exact res175
  · cases h; exact res177
  · cases h; exact res178
  · cases h; exact res179
  · cases h; exact res180
  · cases h; exact res181
  · cases h; exact res182
  · cases h; exact res185
  · cases h; exact res186
  · cases h; exact res187
  · cases h; exact res188
  · cases h; exact res189
  · cases h; exact res190
  · cases h; exact res191
  · cases h; exact res200
  · cases h; exact res201
  · cases h; exact res202
  · cases h; exact res203
  · cases h; exact res204
  · cases h; exact res205
  · cases h; exact res224
  · cases h; exact res225
  · cases h; exact res226
  · cases h; exact res232
  · cases h; exact res233
  · cases h; exact res235
  · cases h; exact res236
  · cases h; exact res237
  · cases h; exact res238
  · cases h; exact res239
  · cases h; exact res240
  · cases h; exact res241
  · cases h; exact res242
  · cases h; exact res243
  · cases h; exact res244
  · cases h; exact res245
  · cases h
def pm : FuncId → List AV → Option AV
  | 203, [.v (.int .i64 a)] => some (VI (form a))
  | 154, [.v (.int .i64 a)] => some (.tup [(info a).av, VI (infoE a)])
  | 143, [.agg [.v (.int .i64 a), .v (.int .i64 b), .v (.int .i64 c), .v (.int .i64 d), .v (.int .i64 e)]] => some (VI (may ⟨a, b, c, d, e⟩))
  | 145, [.agg [.v (.int .i64 a), .v (.int .i64 b), .v (.int .i64 c), .v (.int .i64 d), .v (.int .i64 e)]] => some (VI (jumps ⟨a, b, c, d, e⟩))
  | 190, [.agg [.v (.int .i64 a), .v (.int .i64 b), .v (.int .i64 c), .v (.int .i64 d), .v (.int .i64 e)]] => some (VB (heldB ⟨a, b, c, d, e⟩))
  | _, _ => none
theorem pm_ok {cx : Cx} (hO : On cx) : PrimOk cx pm := by
  intro g args v hv h
  unfold pm at hv
  split at hv <;> (try cases hv)
  · exact c203 hO _ h
  · exact c154 hO _ h
  · exact c143 hO ⟨_, _, _, _, _⟩ h
  · exact c145 hO ⟨_, _, _, _, _⟩ h
  · exact c190 hO ⟨_, _, _, _, _⟩ h
theorem on_arrs {cx : Cx} (hP : cx.P = Tryz.prog) (hG : cx.G = arrs) : On cx := ⟨hP, by rw [hG]; rfl, by rw [hG]; rfl, by rw [hG]; rfl, by rw [hG]; rfl, by rw [hG]; rfl⟩
def isTrue : AV → Bool
  | .v (.bool b) => b
  | _ => false
theorem isTrue_eq {x : AV} (h : isTrue x = true) : x = VB true := by
  unfold isTrue at h
  split at h
  · rw [h]
  · cases h
theorem run20 (w0 : World) (B : Nat) (hB : B ≤ w0.heap.size) (hG : ∀ (φ : Phi) g cs, arrs g = some cs → Rep w0 B φ (.rp cs) (.pointer (some ⟨g, 0, none⟩))) :
    (runF ⟨Tryz.prog, w0, B, arrs, hB, hG⟩ pm ft 3000 20 [] []).map (fun p => isTrue p.1) = some true := by kernel_rfl
theorem c20 {cx : Cx} (hP : cx.P = Tryz.prog) (hG : cx.G = arrs) : SimCall cx 20 [] [] fun r _ => r = VB true := by
  obtain ⟨P, w0, B, G, hB, hG'⟩ := cx
  simp only at hP hG
  subst hP
  subst hG
  have h := run20 w0 B hB hG'
  cases hr : runF ⟨Tryz.prog, w0, B, arrs, hB, hG'⟩ pm ft 3000 20 [] [] with
  | none => rw [hr] at h; cases h
  | some p =>
    rw [hr] at h
    simp only [Option.map_some, Option.some.injEq] at h
    exact (SimCall.run rfl (pm_ok (on_arrs rfl rfl)) ft_ok 3000 (show runF ⟨Tryz.prog, w0, B, arrs, hB, hG'⟩ pm ft 3000 20 [] [] = some (p.1, p.2) from hr)).mono fun r h' e => by rw [e.1]; exact isTrue_eq h
end Go.Tidy
namespace Go.Tidy
open Go Go.Eng Go.Proofs
theorem laid_name {im : Img} {bs : List (List Ins)} (hl : im.funcs.length = bs.length) {n : Nat} (h : ∀ f ∈ im.funcs, f.name.size < n) : ∀ f ∈ laidFs 0 im.funcs bs, f.name.size < n := by
  intro f hf
  have h1 : (f.name, f.obj) ∈ (laidFs 0 im.funcs bs).map fun f => (f.name, f.obj) := List.mem_map_of_mem hf
  rw [laidFs_names 0 _ _ hl] at h1
  obtain ⟨g, hg, he⟩ := List.mem_map.1 h1
  have := h g hg
  simp only [Prod.mk.injEq] at he
  rw [← he.1]
  exact this
theorem TidyOut.img {H : AH} {im : Img} {bs : List (List Ins)} {a va b vb c vc : Nat} (ho : TidyOf im ⟨bs.flatten, laidFs 0 im.funcs bs, im.tables, im.entry⟩ bs) (hv : VOk (tabsB 0) im)
    (h4 : ∀ f ∈ im.funcs, f.name.size < 4611686018427387904) (h5 : ∀ t ∈ im.tables, t.name.size < 4611686018427387904)
    (r1 : Rows Ins.row 5 H (.sl a va 0 bs.flatten.length 5) bs.flatten) (r2 : Rows Fn.row 4 H (.sl b vb 0 (laidFs 0 im.funcs bs).length 4) (laidFs 0 im.funcs bs)) (r3 : Rows Tab.row 5 H (.sl c vc 0 im.tables.length 5) im.tables) :
    ImgR H (.sl a va 0 bs.flatten.length 5) (.sl b vb 0 (laidFs 0 im.funcs bs).length 4) (.sl c vc 0 im.tables.length 5) ⟨bs.flatten, laidFs 0 im.funcs bs, im.tables, im.entry⟩ := by
  have hk := ho.ok hv
  have h1 := len_sum bs.flatten
  have h2 := hk.img.len
  have h3 := hk.img.nf
  have h6 := hk.img.nt
  simp only at h2 h3 h6
  exact ⟨r1.sl, r2.sl, r3.sl, by simp only; omega, by simp only; omega, by simp only; omega, laid_name ho.len h4, h5⟩
set_option maxRecDepth 100000 in
set_option maxHeartbeats 4000000 in
theorem c7 {cx : Cx} (hP : cx.P = Tryz.prog) (hG : cx.G = arrs) {h : AH} {tv fv bv : AV} {im : Img} (ht : Rows Ins.row 5 h tv im.text) (hf : Rows Fn.row 4 h fv im.funcs) (hb : Rows Tab.row 5 h bv im.tables)
    (h1 : im.text.length < 1099511627776) (h2 : im.funcs.length < 1099511627776) (h3 : im.tables.length < 1099511627776) (h4 : ∀ f ∈ im.funcs, f.name.size < 4611686018427387904) (h5 : ∀ t ∈ im.tables, t.name.size < 4611686018427387904) :
    SimCall cx 7 [.agg [tv, fv, bv, VI im.entry]] h fun r _ => r = VB true := by
  have hO := on_arrs hP hG
  have c1 := ht.sl.cell
  have c2 := hf.sl.cell
  have c3 := hb.sl.cell
  have h20 := fun h => SimCall.apart (cx := cx) (args := []) (by intro x hx; cases hx) (Q := fun r => r = VB true) (by rintro r rfl; exact plain_v _) (c20 hP hG) h
  refine SimCall.by hP res7 ?_
  unfold x7 r7
  repeat' first
    | ((with_reducible show wx _ (XCode.cond _ _ _) _ _); refine wx_if rfl (fun _ => ?_) (fun _ => ?_))
    | ((with_reducible show SemL _ _ _ _); refine SemL.of ?_)
    | ((with_reducible show SemD _ _ _ _ _); refine SemD.of ?_)
    | ((with_reducible show SimCall _ 20 _ _ _); refine (h20 _).mono ?_; rintro r h' ⟨rfl, rfl⟩)
    | ((with_reducible show dK _ 20 _ _ _); refine dK_of _ (h20 _) ?_)
    | simp (maxSteps := 1000000) only [go_sem, c1, c2, c3]
    | ((with_reducible show wl _ (XI.mk _ (some _) (XBody.op _) :: _) _ _); first | refine wl_optT rfl (fun e2 => by ((try simp only [Bool.and_eq_true] at e2); first | (simp (maxSteps := 1000000) only [e2, go_sem, c1, c2, c3]; first | done | rfl))) ?_ | refine wl_optF rfl (fun e2 => by ((try simp only [Bool.and_eq_true] at e2); first | (simp (maxSteps := 1000000) only [e2, go_sem, c1, c2, c3]; first | done | rfl))) ?_ | refine wl_opt2T rfl (fun e1 e2 => by ((try simp only [Bool.and_eq_true] at e1); first | (simp (maxSteps := 1000000) only [e1, e2, go_sem, c1, c2, c3]; first | done | rfl))) ?_ | refine wl_opt2F rfl (fun e1 e2 => by ((try simp only [Bool.and_eq_true] at e1); first | (simp (maxSteps := 1000000) only [e1, e2, go_sem, c1, c2, c3]; first | done | rfl))) ?_)
    | ((with_reducible show wl _ (XI.mk _ (some _) (XBody.call (XO.f 20) _) :: _) _ _); first | refine wl_optcT rfl rfl (fun e2 => by simp (maxSteps := 1000000) only [e2, go_sem, c1, c2, c3]; exact (h20 _)) ?_ | refine wl_optcF rfl rfl (fun e2 => by simp (maxSteps := 1000000) only [e2, go_sem, c1, c2, c3]; exact (h20 _)) ?_ | refine wl_optc2T rfl rfl (fun e1 e2 => by simp (maxSteps := 1000000) only [e1, e2, go_sem, c1, c2, c3]; exact (h20 _)) ?_ | refine wl_optc2F rfl rfl (fun e1 e2 => by simp (maxSteps := 1000000) only [e1, e2, go_sem, c1, c2, c3]; exact (h20 _)) ?_)
    | ((with_reducible show wds _ _ (DI.i (XI.mk _ (some _) (XBody.op _)) :: _) _ _); first | refine wds_optT rfl (fun e2 => by ((try simp only [Bool.and_eq_true] at e2); first | (simp (maxSteps := 1000000) only [e2, go_sem, c1, c2, c3]; first | done | rfl))) ?_ | refine wds_optF rfl (fun e2 => by ((try simp only [Bool.and_eq_true] at e2); first | (simp (maxSteps := 1000000) only [e2, go_sem, c1, c2, c3]; first | done | rfl))) ?_ | refine wds_opt2T rfl (fun e1 e2 => by ((try simp only [Bool.and_eq_true] at e1); first | (simp (maxSteps := 1000000) only [e1, e2, go_sem, c1, c2, c3]; first | done | rfl))) ?_ | refine wds_opt2F rfl (fun e1 e2 => by ((try simp only [Bool.and_eq_true] at e1); first | (simp (maxSteps := 1000000) only [e1, e2, go_sem, c1, c2, c3]; first | done | rfl))) ?_)
    | ((with_reducible show wds _ _ (DI.i (XI.mk _ (some _) (XBody.call (XO.f 20) _)) :: _) _ _); first | refine wds_optcT rfl rfl (fun e2 => by simp (maxSteps := 1000000) only [e2, go_sem, c1, c2, c3]; exact (h20 _)) ?_ | refine wds_optcF rfl rfl (fun e2 => by simp (maxSteps := 1000000) only [e2, go_sem, c1, c2, c3]; exact (h20 _)) ?_ | refine wds_optc2T rfl rfl (fun e1 e2 => by simp (maxSteps := 1000000) only [e1, e2, go_sem, c1, c2, c3]; exact (h20 _)) ?_ | refine wds_optc2F rfl rfl (fun e1 e2 => by simp (maxSteps := 1000000) only [e1, e2, go_sem, c1, c2, c3]; exact (h20 _)) ?_)
    | ((with_reducible show wl _ (XI.mk _ (some _) _ :: _) _ _); first | ((refine wl_ifT rfl (fun e => ?_) (fun e => ?_)) <;> first | rw [e] | skip) | ((refine wl_ifF rfl (fun e => ?_) (fun e => ?_)) <;> first | rw [e] | skip))
    | ((with_reducible show wds _ _ (DI.i (XI.mk _ (some _) _) :: _) _ _); first | ((refine wds_ifT rfl (fun e => ?_) (fun e => ?_)) <;> first | rw [e] | skip) | ((refine wds_ifF rfl (fun e => ?_) (fun e => ?_)) <;> first | rw [e] | skip))
  refine (c28 hO (ht.more _) (hf.more _) (hb.more _) h1 h2 h3 h4 h5).mono ?_
  rintro r h' ⟨g, a, va, b, vb, c, vc, rfl, rfl, ht2, hf2, hb2, hr2⟩
  simp only [List.append_assoc, List.cons_append, List.nil_append] at ht2 hf2 hb2 hr2
  repeat' first
    | ((with_reducible show wx _ (XCode.cond _ _ _) _ _); refine wx_if rfl (fun _ => ?_) (fun _ => ?_))
    | ((with_reducible show SemL _ _ _ _); refine SemL.of ?_)
    | ((with_reducible show SemD _ _ _ _ _); refine SemD.of ?_)
    | simp (maxSteps := 1000000) only [go_sem, c1, c2, c3]
    | ((with_reducible show wl _ (XI.mk _ (some _) (XBody.op _) :: _) _ _); first | refine wl_optT rfl (fun e2 => by ((try simp only [Bool.and_eq_true] at e2); first | (simp (maxSteps := 1000000) only [e2, go_sem, c1, c2, c3]; first | done | rfl))) ?_ | refine wl_optF rfl (fun e2 => by ((try simp only [Bool.and_eq_true] at e2); first | (simp (maxSteps := 1000000) only [e2, go_sem, c1, c2, c3]; first | done | rfl))) ?_ | refine wl_opt2T rfl (fun e1 e2 => by ((try simp only [Bool.and_eq_true] at e1); first | (simp (maxSteps := 1000000) only [e1, e2, go_sem, c1, c2, c3]; first | done | rfl))) ?_ | refine wl_opt2F rfl (fun e1 e2 => by ((try simp only [Bool.and_eq_true] at e1); first | (simp (maxSteps := 1000000) only [e1, e2, go_sem, c1, c2, c3]; first | done | rfl))) ?_)
    | ((with_reducible show wds _ _ (DI.i (XI.mk _ (some _) (XBody.op _)) :: _) _ _); first | refine wds_optT rfl (fun e2 => by ((try simp only [Bool.and_eq_true] at e2); first | (simp (maxSteps := 1000000) only [e2, go_sem, c1, c2, c3]; first | done | rfl))) ?_ | refine wds_optF rfl (fun e2 => by ((try simp only [Bool.and_eq_true] at e2); first | (simp (maxSteps := 1000000) only [e2, go_sem, c1, c2, c3]; first | done | rfl))) ?_ | refine wds_opt2T rfl (fun e1 e2 => by ((try simp only [Bool.and_eq_true] at e1); first | (simp (maxSteps := 1000000) only [e1, e2, go_sem, c1, c2, c3]; first | done | rfl))) ?_ | refine wds_opt2F rfl (fun e1 e2 => by ((try simp only [Bool.and_eq_true] at e1); first | (simp (maxSteps := 1000000) only [e1, e2, go_sem, c1, c2, c3]; first | done | rfl))) ?_)
    | ((with_reducible show wl _ (XI.mk _ (some _) _ :: _) _ _); first | ((refine wl_ifT rfl (fun e => ?_) (fun e => ?_)) <;> first | rw [e] | skip) | ((refine wl_ifF rfl (fun e => ?_) (fun e => ?_)) <;> first | rw [e] | skip))
    | ((with_reducible show wds _ _ (DI.i (XI.mk _ (some _) _) :: _) _ _); first | ((refine wds_ifT rfl (fun e => ?_) (fun e => ?_)) <;> first | rw [e] | skip) | ((refine wds_ifF rfl (fun e => ?_) (fun e => ?_)) <;> first | rw [e] | skip))
  refine (c23 hO hr2 hb2).mono ?_
  rintro r h' (⟨hn, e, g2, he, rfl, rfl⟩ | ⟨hv, bs, g2, a2, va2, b2, vb2, d2, vd2, htd, rfl, rfl, ht3, hf3, hb3⟩)
  · have he' : decide (e = 0) = false := decide_eq_false he
    repeat' first
      | ((with_reducible show wx _ (XCode.cond _ _ _) _ _); refine wx_if rfl (fun _ => ?_) (fun _ => ?_))
      | ((with_reducible show SemL _ _ _ _); refine SemL.of ?_)
      | ((with_reducible show SemD _ _ _ _ _); refine SemD.of ?_)
      | ((with_reducible show SimCall _ 16 _ _ _); refine (c16 hO _ _).mono ?_; rintro r h' ⟨rfl, rfl⟩)
      | ((with_reducible show dK _ 16 _ _ _); refine dK_of _ (c16 hO _ _) ?_)
      | simp (maxSteps := 1000000) only [go_sem, c1, c2, c3, he']
      | ((with_reducible show wl _ (XI.mk _ (some _) (XBody.op _) :: _) _ _); first | refine wl_optT rfl (fun e2 => by ((try simp only [Bool.and_eq_true] at e2); first | (simp (maxSteps := 1000000) only [e2, go_sem, c1, c2, c3, he']; first | done | rfl))) ?_ | refine wl_optF rfl (fun e2 => by ((try simp only [Bool.and_eq_true] at e2); first | (simp (maxSteps := 1000000) only [e2, go_sem, c1, c2, c3, he']; first | done | rfl))) ?_ | refine wl_opt2T rfl (fun e1 e2 => by ((try simp only [Bool.and_eq_true] at e1); first | (simp (maxSteps := 1000000) only [e1, e2, go_sem, c1, c2, c3, he']; first | done | rfl))) ?_ | refine wl_opt2F rfl (fun e1 e2 => by ((try simp only [Bool.and_eq_true] at e1); first | (simp (maxSteps := 1000000) only [e1, e2, go_sem, c1, c2, c3, he']; first | done | rfl))) ?_)
      | ((with_reducible show wl _ (XI.mk _ (some _) (XBody.call (XO.f 16) _) :: _) _ _); first | refine wl_optcT rfl rfl (fun e2 => by simp (maxSteps := 1000000) only [e2, go_sem, c1, c2, c3, he']; exact (c16 hO _ _)) ?_ | refine wl_optcF rfl rfl (fun e2 => by simp (maxSteps := 1000000) only [e2, go_sem, c1, c2, c3, he']; exact (c16 hO _ _)) ?_ | refine wl_optc2T rfl rfl (fun e1 e2 => by simp (maxSteps := 1000000) only [e1, e2, go_sem, c1, c2, c3, he']; exact (c16 hO _ _)) ?_ | refine wl_optc2F rfl rfl (fun e1 e2 => by simp (maxSteps := 1000000) only [e1, e2, go_sem, c1, c2, c3, he']; exact (c16 hO _ _)) ?_)
      | ((with_reducible show wds _ _ (DI.i (XI.mk _ (some _) (XBody.op _)) :: _) _ _); first | refine wds_optT rfl (fun e2 => by ((try simp only [Bool.and_eq_true] at e2); first | (simp (maxSteps := 1000000) only [e2, go_sem, c1, c2, c3, he']; first | done | rfl))) ?_ | refine wds_optF rfl (fun e2 => by ((try simp only [Bool.and_eq_true] at e2); first | (simp (maxSteps := 1000000) only [e2, go_sem, c1, c2, c3, he']; first | done | rfl))) ?_ | refine wds_opt2T rfl (fun e1 e2 => by ((try simp only [Bool.and_eq_true] at e1); first | (simp (maxSteps := 1000000) only [e1, e2, go_sem, c1, c2, c3, he']; first | done | rfl))) ?_ | refine wds_opt2F rfl (fun e1 e2 => by ((try simp only [Bool.and_eq_true] at e1); first | (simp (maxSteps := 1000000) only [e1, e2, go_sem, c1, c2, c3, he']; first | done | rfl))) ?_)
      | ((with_reducible show wds _ _ (DI.i (XI.mk _ (some _) (XBody.call (XO.f 16) _)) :: _) _ _); first | refine wds_optcT rfl rfl (fun e2 => by simp (maxSteps := 1000000) only [e2, go_sem, c1, c2, c3, he']; exact (c16 hO _ _)) ?_ | refine wds_optcF rfl rfl (fun e2 => by simp (maxSteps := 1000000) only [e2, go_sem, c1, c2, c3, he']; exact (c16 hO _ _)) ?_ | refine wds_optc2T rfl rfl (fun e1 e2 => by simp (maxSteps := 1000000) only [e1, e2, go_sem, c1, c2, c3, he']; exact (c16 hO _ _)) ?_ | refine wds_optc2F rfl rfl (fun e1 e2 => by simp (maxSteps := 1000000) only [e1, e2, go_sem, c1, c2, c3, he']; exact (c16 hO _ _)) ?_)
      | ((with_reducible show wl _ (XI.mk _ (some _) _ :: _) _ _); first | ((refine wl_ifT rfl (fun e => ?_) (fun e => ?_)) <;> first | rw [e] | skip) | ((refine wl_ifF rfl (fun e => ?_) (fun e => ?_)) <;> first | rw [e] | skip))
      | ((with_reducible show wds _ _ (DI.i (XI.mk _ (some _) _) :: _) _ _); first | ((refine wds_ifT rfl (fun e => ?_) (fun e => ?_)) <;> first | rw [e] | skip) | ((refine wds_ifF rfl (fun e => ?_) (fun e => ?_)) <;> first | rw [e] | skip))
    all_goals rfl
  · have hr3 := TidyOut.img htd hv h4 h5 ht3 hf3 hb3
    have hk := htd.ok hv
    have hkk := htd.kept
    have hn4 := laid_name htd.len h4
    simp only [List.append_assoc, List.cons_append, List.nil_append] at ht3 hf3 hb3 hr3
    repeat' first
      | ((with_reducible show wx _ (XCode.cond _ _ _) _ _); refine wx_if rfl (fun _ => ?_) (fun _ => ?_))
      | ((with_reducible show SemL _ _ _ _); refine SemL.of ?_)
      | ((with_reducible show SemD _ _ _ _ _); refine SemD.of ?_)
      | ((with_reducible show SimCall _ 16 _ _ _); refine (c16 hO _ _).mono ?_; rintro r h' ⟨rfl, rfl⟩)
      | ((with_reducible show dK _ 16 _ _ _); refine dK_of _ (c16 hO _ _) ?_)
      | simp (maxSteps := 1000000) only [go_sem, c1, c2, c3]
      | ((with_reducible show wl _ (XI.mk _ (some _) (XBody.op _) :: _) _ _); first | refine wl_optT rfl (fun e2 => by ((try simp only [Bool.and_eq_true] at e2); first | (simp (maxSteps := 1000000) only [e2, go_sem, c1, c2, c3]; first | done | rfl))) ?_ | refine wl_optF rfl (fun e2 => by ((try simp only [Bool.and_eq_true] at e2); first | (simp (maxSteps := 1000000) only [e2, go_sem, c1, c2, c3]; first | done | rfl))) ?_ | refine wl_opt2T rfl (fun e1 e2 => by ((try simp only [Bool.and_eq_true] at e1); first | (simp (maxSteps := 1000000) only [e1, e2, go_sem, c1, c2, c3]; first | done | rfl))) ?_ | refine wl_opt2F rfl (fun e1 e2 => by ((try simp only [Bool.and_eq_true] at e1); first | (simp (maxSteps := 1000000) only [e1, e2, go_sem, c1, c2, c3]; first | done | rfl))) ?_)
      | ((with_reducible show wl _ (XI.mk _ (some _) (XBody.call (XO.f 16) _) :: _) _ _); first | refine wl_optcT rfl rfl (fun e2 => by simp (maxSteps := 1000000) only [e2, go_sem, c1, c2, c3]; exact (c16 hO _ _)) ?_ | refine wl_optcF rfl rfl (fun e2 => by simp (maxSteps := 1000000) only [e2, go_sem, c1, c2, c3]; exact (c16 hO _ _)) ?_ | refine wl_optc2T rfl rfl (fun e1 e2 => by simp (maxSteps := 1000000) only [e1, e2, go_sem, c1, c2, c3]; exact (c16 hO _ _)) ?_ | refine wl_optc2F rfl rfl (fun e1 e2 => by simp (maxSteps := 1000000) only [e1, e2, go_sem, c1, c2, c3]; exact (c16 hO _ _)) ?_)
      | ((with_reducible show wds _ _ (DI.i (XI.mk _ (some _) (XBody.op _)) :: _) _ _); first | refine wds_optT rfl (fun e2 => by ((try simp only [Bool.and_eq_true] at e2); first | (simp (maxSteps := 1000000) only [e2, go_sem, c1, c2, c3]; first | done | rfl))) ?_ | refine wds_optF rfl (fun e2 => by ((try simp only [Bool.and_eq_true] at e2); first | (simp (maxSteps := 1000000) only [e2, go_sem, c1, c2, c3]; first | done | rfl))) ?_ | refine wds_opt2T rfl (fun e1 e2 => by ((try simp only [Bool.and_eq_true] at e1); first | (simp (maxSteps := 1000000) only [e1, e2, go_sem, c1, c2, c3]; first | done | rfl))) ?_ | refine wds_opt2F rfl (fun e1 e2 => by ((try simp only [Bool.and_eq_true] at e1); first | (simp (maxSteps := 1000000) only [e1, e2, go_sem, c1, c2, c3]; first | done | rfl))) ?_)
      | ((with_reducible show wds _ _ (DI.i (XI.mk _ (some _) (XBody.call (XO.f 16) _)) :: _) _ _); first | refine wds_optcT rfl rfl (fun e2 => by simp (maxSteps := 1000000) only [e2, go_sem, c1, c2, c3]; exact (c16 hO _ _)) ?_ | refine wds_optcF rfl rfl (fun e2 => by simp (maxSteps := 1000000) only [e2, go_sem, c1, c2, c3]; exact (c16 hO _ _)) ?_ | refine wds_optc2T rfl rfl (fun e1 e2 => by simp (maxSteps := 1000000) only [e1, e2, go_sem, c1, c2, c3]; exact (c16 hO _ _)) ?_ | refine wds_optc2F rfl rfl (fun e1 e2 => by simp (maxSteps := 1000000) only [e1, e2, go_sem, c1, c2, c3]; exact (c16 hO _ _)) ?_)
      | ((with_reducible show wl _ (XI.mk _ (some _) _ :: _) _ _); first | ((refine wl_ifT rfl (fun e => ?_) (fun e => ?_)) <;> first | rw [e] | skip) | ((refine wl_ifF rfl (fun e => ?_) (fun e => ?_)) <;> first | rw [e] | skip))
      | ((with_reducible show wds _ _ (DI.i (XI.mk _ (some _) _) :: _) _ _); first | ((refine wds_ifT rfl (fun e => ?_) (fun e => ?_)) <;> first | rw [e] | skip) | ((refine wds_ifF rfl (fun e => ?_) (fun e => ?_)) <;> first | rw [e] | skip))
    refine (c28 hO (im := ⟨bs.flatten, laidFs 0 im.funcs bs, im.tables, im.entry⟩) (by simpa only [List.append_assoc, List.cons_append] using ht3.more _) (by simpa only [List.append_assoc, List.cons_append] using hf3.more _) (by simpa only [List.append_assoc, List.cons_append] using hb3.more _) hr3.len hr3.nf hr3.nt hr3.fname hr3.tname).mono ?_
    rintro r h' ⟨g3, a3, va3, b3, vb3, d3, vd3, rfl, rfl, ht4, hf4, hb4, hr4⟩
    simp only [List.append_assoc, List.cons_append, List.nil_append] at ht4 hf4 hb4 hr4
    repeat' first
      | ((with_reducible show wx _ (XCode.cond _ _ _) _ _); refine wx_if rfl (fun _ => ?_) (fun _ => ?_))
      | ((with_reducible show SemL _ _ _ _); refine SemL.of ?_)
      | ((with_reducible show SemD _ _ _ _ _); refine SemD.of ?_)
      | simp (maxSteps := 1000000) only [go_sem, c1, c2, c3]
      | ((with_reducible show wl _ (XI.mk _ (some _) (XBody.op _) :: _) _ _); first | refine wl_optT rfl (fun e2 => by ((try simp only [Bool.and_eq_true] at e2); first | (simp (maxSteps := 1000000) only [e2, go_sem, c1, c2, c3]; first | done | rfl))) ?_ | refine wl_optF rfl (fun e2 => by ((try simp only [Bool.and_eq_true] at e2); first | (simp (maxSteps := 1000000) only [e2, go_sem, c1, c2, c3]; first | done | rfl))) ?_ | refine wl_opt2T rfl (fun e1 e2 => by ((try simp only [Bool.and_eq_true] at e1); first | (simp (maxSteps := 1000000) only [e1, e2, go_sem, c1, c2, c3]; first | done | rfl))) ?_ | refine wl_opt2F rfl (fun e1 e2 => by ((try simp only [Bool.and_eq_true] at e1); first | (simp (maxSteps := 1000000) only [e1, e2, go_sem, c1, c2, c3]; first | done | rfl))) ?_)
      | ((with_reducible show wds _ _ (DI.i (XI.mk _ (some _) (XBody.op _)) :: _) _ _); first | refine wds_optT rfl (fun e2 => by ((try simp only [Bool.and_eq_true] at e2); first | (simp (maxSteps := 1000000) only [e2, go_sem, c1, c2, c3]; first | done | rfl))) ?_ | refine wds_optF rfl (fun e2 => by ((try simp only [Bool.and_eq_true] at e2); first | (simp (maxSteps := 1000000) only [e2, go_sem, c1, c2, c3]; first | done | rfl))) ?_ | refine wds_opt2T rfl (fun e1 e2 => by ((try simp only [Bool.and_eq_true] at e1); first | (simp (maxSteps := 1000000) only [e1, e2, go_sem, c1, c2, c3]; first | done | rfl))) ?_ | refine wds_opt2F rfl (fun e1 e2 => by ((try simp only [Bool.and_eq_true] at e1); first | (simp (maxSteps := 1000000) only [e1, e2, go_sem, c1, c2, c3]; first | done | rfl))) ?_)
      | ((with_reducible show wl _ (XI.mk _ (some _) _ :: _) _ _); first | ((refine wl_ifT rfl (fun e => ?_) (fun e => ?_)) <;> first | rw [e] | skip) | ((refine wl_ifF rfl (fun e => ?_) (fun e => ?_)) <;> first | rw [e] | skip))
      | ((with_reducible show wds _ _ (DI.i (XI.mk _ (some _) _) :: _) _ _); first | ((refine wds_ifT rfl (fun e => ?_) (fun e => ?_)) <;> first | rw [e] | skip) | ((refine wds_ifF rfl (fun e => ?_) (fun e => ?_)) <;> first | rw [e] | skip))
    refine (c34 hO (im := ⟨bs.flatten, laidFs 0 im.funcs bs, im.tables, im.entry⟩) hr4).mono ?_
    rintro r h' ⟨rfl, q1, q2, e0, rfl, he0⟩
    have he := he0.2 hk
    subst he
    repeat' first
      | ((with_reducible show wx _ (XCode.cond _ _ _) _ _); refine wx_if rfl (fun _ => ?_) (fun _ => ?_))
      | ((with_reducible show SemL _ _ _ _); refine SemL.of ?_)
      | ((with_reducible show SemD _ _ _ _ _); refine SemD.of ?_)
      | simp (maxSteps := 1000000) only [go_sem, c1, c2, c3]
      | ((with_reducible show wl _ (XI.mk _ (some _) (XBody.op _) :: _) _ _); first | refine wl_optT rfl (fun e2 => by ((try simp only [Bool.and_eq_true] at e2); first | (simp (maxSteps := 1000000) only [e2, go_sem, c1, c2, c3]; first | done | rfl))) ?_ | refine wl_optF rfl (fun e2 => by ((try simp only [Bool.and_eq_true] at e2); first | (simp (maxSteps := 1000000) only [e2, go_sem, c1, c2, c3]; first | done | rfl))) ?_ | refine wl_opt2T rfl (fun e1 e2 => by ((try simp only [Bool.and_eq_true] at e1); first | (simp (maxSteps := 1000000) only [e1, e2, go_sem, c1, c2, c3]; first | done | rfl))) ?_ | refine wl_opt2F rfl (fun e1 e2 => by ((try simp only [Bool.and_eq_true] at e1); first | (simp (maxSteps := 1000000) only [e1, e2, go_sem, c1, c2, c3]; first | done | rfl))) ?_)
      | ((with_reducible show wds _ _ (DI.i (XI.mk _ (some _) (XBody.op _)) :: _) _ _); first | refine wds_optT rfl (fun e2 => by ((try simp only [Bool.and_eq_true] at e2); first | (simp (maxSteps := 1000000) only [e2, go_sem, c1, c2, c3]; first | done | rfl))) ?_ | refine wds_optF rfl (fun e2 => by ((try simp only [Bool.and_eq_true] at e2); first | (simp (maxSteps := 1000000) only [e2, go_sem, c1, c2, c3]; first | done | rfl))) ?_ | refine wds_opt2T rfl (fun e1 e2 => by ((try simp only [Bool.and_eq_true] at e1); first | (simp (maxSteps := 1000000) only [e1, e2, go_sem, c1, c2, c3]; first | done | rfl))) ?_ | refine wds_opt2F rfl (fun e1 e2 => by ((try simp only [Bool.and_eq_true] at e1); first | (simp (maxSteps := 1000000) only [e1, e2, go_sem, c1, c2, c3]; first | done | rfl))) ?_)
      | ((with_reducible show wl _ (XI.mk _ (some _) _ :: _) _ _); first | ((refine wl_ifT rfl (fun e => ?_) (fun e => ?_)) <;> first | rw [e] | skip) | ((refine wl_ifF rfl (fun e => ?_) (fun e => ?_)) <;> first | rw [e] | skip))
      | ((with_reducible show wds _ _ (DI.i (XI.mk _ (some _) _) :: _) _ _); first | ((refine wds_ifT rfl (fun e => ?_) (fun e => ?_)) <;> first | rw [e] | skip) | ((refine wds_ifF rfl (fun e => ?_) (fun e => ?_)) <;> first | rw [e] | skip))
    refine (c28 hO (im := ⟨bs.flatten, laidFs 0 im.funcs bs, im.tables, im.entry⟩) (by simpa only [List.append_assoc, List.cons_append] using ht3.more _) (by simpa only [List.append_assoc, List.cons_append] using hf3.more _) (by simpa only [List.append_assoc, List.cons_append] using hb3.more _) hr3.len hr3.nf hr3.nt hr3.fname hr3.tname).mono ?_
    rintro r h' ⟨g5, a5, va5, b5, vb5, d5, vd5, rfl, rfl, ht5, hf5, hb5, hr5⟩
    simp only [List.append_assoc, List.cons_append, List.nil_append] at ht5 hf5 hb5 hr5
    repeat' first
      | ((with_reducible show wx _ (XCode.cond _ _ _) _ _); refine wx_if rfl (fun _ => ?_) (fun _ => ?_))
      | ((with_reducible show SemL _ _ _ _); refine SemL.of ?_)
      | ((with_reducible show SemD _ _ _ _ _); refine SemD.of ?_)
      | simp (maxSteps := 1000000) only [go_sem, c1, c2, c3]
      | ((with_reducible show wl _ (XI.mk _ (some _) (XBody.op _) :: _) _ _); first | refine wl_optT rfl (fun e2 => by ((try simp only [Bool.and_eq_true] at e2); first | (simp (maxSteps := 1000000) only [e2, go_sem, c1, c2, c3]; first | done | rfl))) ?_ | refine wl_optF rfl (fun e2 => by ((try simp only [Bool.and_eq_true] at e2); first | (simp (maxSteps := 1000000) only [e2, go_sem, c1, c2, c3]; first | done | rfl))) ?_ | refine wl_opt2T rfl (fun e1 e2 => by ((try simp only [Bool.and_eq_true] at e1); first | (simp (maxSteps := 1000000) only [e1, e2, go_sem, c1, c2, c3]; first | done | rfl))) ?_ | refine wl_opt2F rfl (fun e1 e2 => by ((try simp only [Bool.and_eq_true] at e1); first | (simp (maxSteps := 1000000) only [e1, e2, go_sem, c1, c2, c3]; first | done | rfl))) ?_)
      | ((with_reducible show wds _ _ (DI.i (XI.mk _ (some _) (XBody.op _)) :: _) _ _); first | refine wds_optT rfl (fun e2 => by ((try simp only [Bool.and_eq_true] at e2); first | (simp (maxSteps := 1000000) only [e2, go_sem, c1, c2, c3]; first | done | rfl))) ?_ | refine wds_optF rfl (fun e2 => by ((try simp only [Bool.and_eq_true] at e2); first | (simp (maxSteps := 1000000) only [e2, go_sem, c1, c2, c3]; first | done | rfl))) ?_ | refine wds_opt2T rfl (fun e1 e2 => by ((try simp only [Bool.and_eq_true] at e1); first | (simp (maxSteps := 1000000) only [e1, e2, go_sem, c1, c2, c3]; first | done | rfl))) ?_ | refine wds_opt2F rfl (fun e1 e2 => by ((try simp only [Bool.and_eq_true] at e1); first | (simp (maxSteps := 1000000) only [e1, e2, go_sem, c1, c2, c3]; first | done | rfl))) ?_)
      | ((with_reducible show wl _ (XI.mk _ (some _) _ :: _) _ _); first | ((refine wl_ifT rfl (fun e => ?_) (fun e => ?_)) <;> first | rw [e] | skip) | ((refine wl_ifF rfl (fun e => ?_) (fun e => ?_)) <;> first | rw [e] | skip))
      | ((with_reducible show wds _ _ (DI.i (XI.mk _ (some _) _) :: _) _ _); first | ((refine wds_ifT rfl (fun e => ?_) (fun e => ?_)) <;> first | rw [e] | skip) | ((refine wds_ifF rfl (fun e => ?_) (fun e => ?_)) <;> first | rw [e] | skip))
    refine (c23 hO (im := ⟨bs.flatten, laidFs 0 im.funcs bs, im.tables, im.entry⟩) hr5 hb5).mono ?_
    rintro r h' (⟨hn, _⟩ | ⟨_, bs2, g6, a6, va6, b6, vb6, d6, vd6, htd2, rfl, rfl, ht6, hf6, hb6⟩)
    · exact absurd hk hn
    · have hr6 := TidyOut.img htd2 hk hr3.fname hr3.tname ht6 hf6 hb6
      have hk2 := htd2.ok hk
      simp only [List.append_assoc, List.cons_append, List.nil_append] at ht6 hf6 hb6 hr6
      have hfb := funcsB_mem _ _ 0 (by omega) hk.img.funcs
      repeat' first
        | ((with_reducible show wx _ (XCode.cond _ _ _) _ _); refine wx_if rfl (fun _ => ?_) (fun _ => ?_))
        | ((with_reducible show SemL _ _ _ _); refine SemL.of ?_)
        | ((with_reducible show SemD _ _ _ _ _); refine SemD.of ?_)
        | ((with_reducible show SimCall _ 16 _ _ _); refine (c16 hO _ _).mono ?_; rintro r h' ⟨rfl, rfl⟩)
        | ((with_reducible show dK _ 16 _ _ _); refine dK_of _ (c16 hO _ _) ?_)
        | ((with_reducible show SimCall _ 26 _ _ _); refine (c26 hO (by simpa only [List.append_assoc, List.cons_append] using hr3.more _) (by simpa only [List.append_assoc, List.cons_append] using hr6.more _) htd2.kept hfb hk2.img.funcs).mono ?_; rintro r h' ⟨rfl, rfl⟩)
        | ((with_reducible show dK _ 26 _ _ _); refine dK_of _ (c26 hO (by simpa only [List.append_assoc, List.cons_append] using hr3.more _) (by simpa only [List.append_assoc, List.cons_append] using hr6.more _) htd2.kept hfb hk2.img.funcs) ?_)
        | simp (maxSteps := 1000000) only [go_sem, c1, c2, c3]
        | ((with_reducible show wl _ (XI.mk _ (some _) (XBody.op _) :: _) _ _); first | refine wl_optT rfl (fun e2 => by ((try simp only [Bool.and_eq_true] at e2); first | (simp (maxSteps := 1000000) only [e2, go_sem, c1, c2, c3]; first | done | rfl))) ?_ | refine wl_optF rfl (fun e2 => by ((try simp only [Bool.and_eq_true] at e2); first | (simp (maxSteps := 1000000) only [e2, go_sem, c1, c2, c3]; first | done | rfl))) ?_ | refine wl_opt2T rfl (fun e1 e2 => by ((try simp only [Bool.and_eq_true] at e1); first | (simp (maxSteps := 1000000) only [e1, e2, go_sem, c1, c2, c3]; first | done | rfl))) ?_ | refine wl_opt2F rfl (fun e1 e2 => by ((try simp only [Bool.and_eq_true] at e1); first | (simp (maxSteps := 1000000) only [e1, e2, go_sem, c1, c2, c3]; first | done | rfl))) ?_)
        | ((with_reducible show wl _ (XI.mk _ (some _) (XBody.call (XO.f 16) _) :: _) _ _); first | refine wl_optcT rfl rfl (fun e2 => by simp (maxSteps := 1000000) only [e2, go_sem, c1, c2, c3]; exact (c16 hO _ _)) ?_ | refine wl_optcF rfl rfl (fun e2 => by simp (maxSteps := 1000000) only [e2, go_sem, c1, c2, c3]; exact (c16 hO _ _)) ?_ | refine wl_optc2T rfl rfl (fun e1 e2 => by simp (maxSteps := 1000000) only [e1, e2, go_sem, c1, c2, c3]; exact (c16 hO _ _)) ?_ | refine wl_optc2F rfl rfl (fun e1 e2 => by simp (maxSteps := 1000000) only [e1, e2, go_sem, c1, c2, c3]; exact (c16 hO _ _)) ?_)
        | ((with_reducible show wl _ (XI.mk _ (some _) (XBody.call (XO.f 26) _) :: _) _ _); first | refine wl_optcT rfl rfl (fun e2 => by simp (maxSteps := 1000000) only [e2, go_sem, c1, c2, c3]; exact (c26 hO (by simpa only [List.append_assoc, List.cons_append] using hr3.more _) (by simpa only [List.append_assoc, List.cons_append] using hr6.more _) htd2.kept hfb hk2.img.funcs)) ?_ | refine wl_optcF rfl rfl (fun e2 => by simp (maxSteps := 1000000) only [e2, go_sem, c1, c2, c3]; exact (c26 hO (by simpa only [List.append_assoc, List.cons_append] using hr3.more _) (by simpa only [List.append_assoc, List.cons_append] using hr6.more _) htd2.kept hfb hk2.img.funcs)) ?_ | refine wl_optc2T rfl rfl (fun e1 e2 => by simp (maxSteps := 1000000) only [e1, e2, go_sem, c1, c2, c3]; exact (c26 hO (by simpa only [List.append_assoc, List.cons_append] using hr3.more _) (by simpa only [List.append_assoc, List.cons_append] using hr6.more _) htd2.kept hfb hk2.img.funcs)) ?_ | refine wl_optc2F rfl rfl (fun e1 e2 => by simp (maxSteps := 1000000) only [e1, e2, go_sem, c1, c2, c3]; exact (c26 hO (by simpa only [List.append_assoc, List.cons_append] using hr3.more _) (by simpa only [List.append_assoc, List.cons_append] using hr6.more _) htd2.kept hfb hk2.img.funcs)) ?_)
        | ((with_reducible show wds _ _ (DI.i (XI.mk _ (some _) (XBody.op _)) :: _) _ _); first | refine wds_optT rfl (fun e2 => by ((try simp only [Bool.and_eq_true] at e2); first | (simp (maxSteps := 1000000) only [e2, go_sem, c1, c2, c3]; first | done | rfl))) ?_ | refine wds_optF rfl (fun e2 => by ((try simp only [Bool.and_eq_true] at e2); first | (simp (maxSteps := 1000000) only [e2, go_sem, c1, c2, c3]; first | done | rfl))) ?_ | refine wds_opt2T rfl (fun e1 e2 => by ((try simp only [Bool.and_eq_true] at e1); first | (simp (maxSteps := 1000000) only [e1, e2, go_sem, c1, c2, c3]; first | done | rfl))) ?_ | refine wds_opt2F rfl (fun e1 e2 => by ((try simp only [Bool.and_eq_true] at e1); first | (simp (maxSteps := 1000000) only [e1, e2, go_sem, c1, c2, c3]; first | done | rfl))) ?_)
        | ((with_reducible show wds _ _ (DI.i (XI.mk _ (some _) (XBody.call (XO.f 16) _)) :: _) _ _); first | refine wds_optcT rfl rfl (fun e2 => by simp (maxSteps := 1000000) only [e2, go_sem, c1, c2, c3]; exact (c16 hO _ _)) ?_ | refine wds_optcF rfl rfl (fun e2 => by simp (maxSteps := 1000000) only [e2, go_sem, c1, c2, c3]; exact (c16 hO _ _)) ?_ | refine wds_optc2T rfl rfl (fun e1 e2 => by simp (maxSteps := 1000000) only [e1, e2, go_sem, c1, c2, c3]; exact (c16 hO _ _)) ?_ | refine wds_optc2F rfl rfl (fun e1 e2 => by simp (maxSteps := 1000000) only [e1, e2, go_sem, c1, c2, c3]; exact (c16 hO _ _)) ?_)
        | ((with_reducible show wds _ _ (DI.i (XI.mk _ (some _) (XBody.call (XO.f 26) _)) :: _) _ _); first | refine wds_optcT rfl rfl (fun e2 => by simp (maxSteps := 1000000) only [e2, go_sem, c1, c2, c3]; exact (c26 hO (by simpa only [List.append_assoc, List.cons_append] using hr3.more _) (by simpa only [List.append_assoc, List.cons_append] using hr6.more _) htd2.kept hfb hk2.img.funcs)) ?_ | refine wds_optcF rfl rfl (fun e2 => by simp (maxSteps := 1000000) only [e2, go_sem, c1, c2, c3]; exact (c26 hO (by simpa only [List.append_assoc, List.cons_append] using hr3.more _) (by simpa only [List.append_assoc, List.cons_append] using hr6.more _) htd2.kept hfb hk2.img.funcs)) ?_ | refine wds_optc2T rfl rfl (fun e1 e2 => by simp (maxSteps := 1000000) only [e1, e2, go_sem, c1, c2, c3]; exact (c26 hO (by simpa only [List.append_assoc, List.cons_append] using hr3.more _) (by simpa only [List.append_assoc, List.cons_append] using hr6.more _) htd2.kept hfb hk2.img.funcs)) ?_ | refine wds_optc2F rfl rfl (fun e1 e2 => by simp (maxSteps := 1000000) only [e1, e2, go_sem, c1, c2, c3]; exact (c26 hO (by simpa only [List.append_assoc, List.cons_append] using hr3.more _) (by simpa only [List.append_assoc, List.cons_append] using hr6.more _) htd2.kept hfb hk2.img.funcs)) ?_)
        | ((with_reducible show wl _ (XI.mk _ (some _) _ :: _) _ _); first | ((refine wl_ifT rfl (fun e => ?_) (fun e => ?_)) <;> first | rw [e] | skip) | ((refine wl_ifF rfl (fun e => ?_) (fun e => ?_)) <;> first | rw [e] | skip))
        | ((with_reducible show wds _ _ (DI.i (XI.mk _ (some _) _) :: _) _ _); first | ((refine wds_ifT rfl (fun e => ?_) (fun e => ?_)) <;> first | rw [e] | skip) | ((refine wds_ifF rfl (fun e => ?_) (fun e => ?_)) <;> first | rw [e] | skip))
end Go.Tidy

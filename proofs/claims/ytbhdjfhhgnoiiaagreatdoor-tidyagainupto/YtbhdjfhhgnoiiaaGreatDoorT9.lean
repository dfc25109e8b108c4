/- Part 9 of a proof: an abstract memory for the translated code, and what the functions that the law reaches do over it. -/
import Derived.Test.YtbhdjfhhgnoiiaaGreatDoorT8
set_option linter.unusedSimpArgs false
set_option linter.unusedVariables false
namespace Go.Tidy
open Go Go.Eng Go.Proofs
variable {cx : Cx}
def jjL (is : List Ins) : List Stp → Nat
  | [] => 0
  | s :: r => (if isJ s.ins && isJ (is.getD s.to.toNat ⟨0, 0, 0, 0, 0⟩) then 1 else 0) + jjL is r
def jj (b : List Stp) : Nat := jjL (b.map (·.ins)) b
theorem jjL_set {is : List Ins} : ∀ {l : List Stp} {k : Nat} {s s' : Stp}, l[k]? = some s → (isJ s.ins && isJ (is.getD s.to.toNat ⟨0, 0, 0, 0, 0⟩)) = true → (isJ s'.ins && isJ (is.getD s'.to.toNat ⟨0, 0, 0, 0, 0⟩)) = false → jjL is (l.set k s') + 1 = jjL is l
  | [], k, s, s', h, _, _ => by simp at h
  | x :: r, 0, s, s', h, h1, h2 => by
    simp at h
    subst h
    simp only [List.set_cons_zero, jjL, h1, h2]
    simp
    omega
  | x :: r, k + 1, s, s', h, h1, h2 => by
    have := jjL_set (l := r) (k := k) (by simpa using h) h1 h2
    simp only [List.set_cons_succ, jjL]
    omega
theorem ins_set {b : List Stp} {k : Nat} {s : Stp} (hs : b[k]? = some s) (t : Int) : (b.set k ⟨s.ins, t⟩).map (·.ins) = b.map (·.ins) := by
  refine List.ext_getElem? fun m => ?_
  rw [List.getElem?_map, List.getElem?_map]
  have hk := (List.getElem?_eq_some_iff.1 hs).1
  by_cases hm : m = k
  · subst hm
    rw [List.getElem?_set_self hk, hs]; rfl
  · rw [List.getElem?_set_ne (fun q => hm q.symm)]
theorem wsB_of_ins {b b' : List Stp} (h : b'.map (·.ins) = b.map (·.ins)) : wsB b' = wsB b := by
  have e : ∀ c : List Stp, wsB c = (c.map (·.ins)).map wd := by intro c; unfold wsB; rw [List.map_map]; rfl
  rw [e, e, h]
theorem keeps_thread {b : List Stp} {k t : Nat} {s : Stp} (hs : b[k]? = some s) (hf : Fits (b.set k ⟨s.ins, (t : Int)⟩)) : Keeps b (b.set k ⟨s.ins, (t : Int)⟩) := by
  have hi := ins_set hs t
  refine ⟨hf, fun x hx => ?_, by rw [wsB_of_ins hi]; exact Nat.le_refl _⟩
  have hx2 : x.ins ∈ b.map (·.ins) := by rw [← hi]; exact List.mem_map_of_mem hx
  obtain ⟨s0, h1, h2⟩ := List.mem_map.1 hx2
  exact ⟨s0, h1, h2.symm⟩
theorem thread_step {b : List Stp} (hf : Fits b) {k n : Nat} {s sn : Stp} (hs : b[k]? = some s) (hj : isJ s.ins = true) (hn : b[n]? = some sn) (hnj : isJ sn.ins = false) (hne : ¬ (n : Int) = s.to)
    (hlast : ∀ s2, b[s.to.toNat]? = some s2 → isJ s2.ins = true) (hd : ¬ s.ins.op = 6 → -32768 ≤ dist (wsB b) k n ∧ dist (wsB b) k n < 32768) :
    Keeps b (b.set k ⟨s.ins, (n : Int)⟩) ∧ jj (b.set k ⟨s.ins, (n : Int)⟩) < jj b := by
  have hnl := (List.getElem?_eq_some_iff.1 hn).1
  have hld := jump_leads (hf.may k s hs) (by simpa [isJ] using hj)
  obtain ⟨h1, h2, _⟩ := hf.to k s hs hld
  refine ⟨keeps_thread hs (hf.thread hs hj hnl hd), ?_⟩
  have hi := ins_set hs (n : Int)
  unfold jj
  rw [hi]
  have hto := List.getElem?_eq_getElem (show s.to.toNat < b.length by omega)
  have hjt := hlast _ hto
  have e1 : (b.map (·.ins)).getD s.to.toNat ⟨0, 0, 0, 0, 0⟩ = (b[s.to.toNat]'(by omega)).ins := by
    rw [List.getD_eq_getElem?_getD, List.getElem?_map, hto]; rfl
  have e2 : (b.map (·.ins)).getD n ⟨0, 0, 0, 0, 0⟩ = sn.ins := by
    rw [List.getD_eq_getElem?_getD, List.getElem?_map, hn]; rfl
  have := jjL_set (is := b.map (·.ins)) (s' := ⟨s.ins, (n : Int)⟩) hs (by rw [hj, e1, hjt]; rfl) (by
    simp only [Int.toNat_natCast]
    rw [e2, hnj]
    simp)
  omega
theorem rows_toF {b : List Stp} {k : Nat} {s : Stp} (hs : b[k]? = some s) : ∀ t : Int, (b.flatMap Stp.row).take (k * 6 + 5) ++ VI t :: (b.flatMap Stp.row).drop (k * 6 + 5 + 1) = (b.set k ⟨s.ins, t⟩).flatMap Stp.row := rows_to hs
set_option maxRecDepth 100000 in
set_option maxHeartbeats 4000000 in
theorem c182 (hO : On cx) {h : AH} {b0 : List Stp} {g1 g2 : AH} {ver : Nat} (hf0 : Fits b0) (hl : b0.length < 1099511627776) :
    SimCall cx 182 [.sl (h.length + g1.length) ver 0 b0.length 6] (h ++ (g1 ++ AO.cells ver (b0.flatMap Stp.row) :: g2)) fun r h' => ∃ b G c, h' = h ++ (g1 ++ AO.cells ver (b.flatMap Stp.row) :: (g2 ++ G)) ∧ r = .tup [.sl (h.length + g1.length) ver 0 b.length 6, VB c] ∧ b.length = b0.length ∧ Keeps b0 b ∧ jj b ≤ jj b0 ∧ (c = true → jj b < jj b0) := by
  have hsl : ∀ (b : List Stp) (x : AH), SlT Stp.row 6 (h ++ (g1 ++ AO.cells ver (b.flatMap Stp.row) :: x)) (.sl (h.length + g1.length) ver 0 b.length 6) b := fun b x =>
    SlT.whole (f := Stp.row) (xs := b) (l := b.flatMap Stp.row) (fun g' => by simp only [go_sem]) Stp.len rfl
  have h177 := c177 hO (hsl b0 g2) hl
  refine SimCall.by hO.P res182 ?_
  unfold x182 r182
  repeat' first
    | ((with_reducible show SimCall _ 177 _ _ _); refine (h177).mono ?_; rintro r h' ⟨rfl, rfl⟩)
    | simp (maxSteps := 1000000) only [go_sem]
  have hpll : (placesN (wsB b0) b0.length).length = b0.length + 1 := beginsN_len _ _
  refine SimLoop.inv [0, 3, 0, 5, 0, 0] (fun m s => ∃ (i : Nat) (b : List Stp) (c : Bool), m = b0.length - i ∧ i ≤ b0.length ∧ b.length = b0.length ∧ b.map (·.ins) = b0.map (·.ins) ∧ Keeps b0 b ∧ jj b ≤ jj b0 ∧ (c = true → jj b < jj b0) ∧
    s = ⟨[.sl (h.length + g1.length) ver 0 b0.length 6, .un, .un, .un, .sl (h.length + (g1.length + (g2.length + 1))) 0 0 (b0.length + 1) 1, VB c, .un, .un, .un, .un, .un, .sl (h.length + g1.length) ver 0 b0.length 6, VI b0.length, VI i, .un, .un, .un, .un, .un, .un, .un, .un, .un, .un, .un, .un, .un, .un, .un, .un, .un, .un, .un, .un, .un, .un, .un, .un, .un, .un, .un, .un, .un, .un, .un, .un, .un, .un, .un, .un, .un, .un, .un, .un, .un, .un, .un, .un, .un, .un, .un, .un, .un, .un, .un, .un, .un, .un, .un, .un],
      h ++ (g1 ++ .cells ver (b.flatMap Stp.row) :: (g2 ++ [.cells 0 ((placesN (wsB b0) b0.length).map VI)]))⟩) ?_ b0.length ?_
  rotate_left
  · exact ⟨0, b0, false, rfl, Nat.zero_le _, rfl, rfl, Keeps.refl hf0, Nat.le_refl _, (fun q => by cases q), by simp only [go_sem]; rfl⟩
  rintro m s ⟨i, b, c, rfl, hi, hbl, hins, hkp, hjl, hcc, rfl⟩
  have hf := hkp.fits
  have hws : wsB b = wsB b0 := wsB_of_ins hins
  by_cases hlt : i < b0.length
  · have hlt' : ((i : Int) < b0.length) := by omega
    have hw := wrap_succ hlt (by omega)
    have hib : i < b.length := by omega
    have hbi := List.getElem?_eq_getElem hib
    have hslb := hsl b (g2 ++ [.cells 0 ((placesN (wsB b0) b0.length).map VI)])
    rw [hbl] at hslb
    have hto := rows_toF hbi
    have hpl : ∀ (t : Nat), t ≤ b0.length → ((placesN (wsB b0) b0.length).map VI)[t]? = some (VI (psum (wsB b0) t : Nat)) := by
      intro t ht
      rw [List.getElem?_map, places_get ht]; rfl
    have hrl := cells_len (f := Stp.row) (sz := 6) Stp.len b
    have hfit : i * 6 + 5 + 1 ≤ (b.flatMap Stp.row).length := by omega
    have hpi := hpl i (by omega)
    have hbp := psumB_bound b0 i
    have h0i : (0 : Int) ≤ i := by omega
    have hi1 : (i : Int) < ((b0.length + 1 : Nat) : Int) := by omega
    have h243 := fun (hj : isJ b[i].ins = true) => c243 hO hslb hf (by omega) hbi hj
    have hstep := fun (hj : isJ b[i].ins = true) (n : Nat) (sn : Stp) => thread_step (n := n) (sn := sn) hf hbi hj
    generalize b[i] = s at hbi hto h243 hstep
    obtain ⟨⟨op, dst, src, off, imm⟩, to⟩ := s
    simp only at hto hstep
    have hfit5 : i * 6 + 5 ≤ (b.flatMap Stp.row).length := by omega
    have hat := cells_at (f := Stp.row) (sz := 6) Stp.len hbi
    have hrow5 : ((b.flatMap Stp.row).drop (i * 6)).take 5 = [VI op, VI dst, VI src, VI off, VI imm] := by
      have : ((b.flatMap Stp.row).drop (i * 6)).take 5 = (((b.flatMap Stp.row).drop (i * 6)).take 6).take 5 := by rw [List.take_take]; rfl
      rw [this, hat]
      rfl
    have hc0 : (b.flatMap Stp.row)[i * 6]? = some (VI op) := cells_one (f := Stp.row) (sz := 6) Stp.len hbi (j := 0) (by decide)
    have hc5 : (b.flatMap Stp.row)[i * 6 + 5]? = some (VI to) := cells_one (f := Stp.row) (sz := 6) Stp.len hbi (j := 5) (by decide)
    by_cases hj : isJ ⟨op, dst, src, off, imm⟩ = true
    · skip
      repeat' first
        | ((with_reducible show SimCall _ 242 _ _ _); refine (c242' hO ⟨op, dst, src, off, imm⟩ _).mono ?_; rintro r h' ⟨rfl, rfl⟩)
        | simp (maxSteps := 1000000) only [go_sem, hlt', hw, h0i, hfit5, hrow5, hj, Int.toNat_natCast, Nat.zero_add]
      refine (h243 hj).mono ?_
      rintro r h' ⟨rfl, t, rfl, hcase⟩
      rcases hcase with htn | ⟨n, sn, rfl, hn, hnj, hfirst⟩
      · skip
        repeat' first
          | ((with_reducible show SemL _ _ _ _); refine SemL.of ?_)
          | simp (maxSteps := 1000000) only [go_sem, hlt', hw, h0i, hc0, hc5, htn, Bool.true_or, Int.toNat_natCast, Nat.zero_add]
        exact ⟨b0.length - (i + 1), by omega, i + 1, b, c, rfl, by omega, hbl, hins, hkp, hjl, hcc, rfl⟩
      · have hnl := (List.getElem?_eq_some_iff.1 hn).1
        have hn0 : ¬ (n : Int) < 0 := by omega
        have hnn : (0 : Int) ≤ n := by omega
        have hn1 : (n : Int) < ((b0.length + 1 : Nat) : Int) := by omega
        have hpn := hpl n (by omega)
        have hbn := psumB_bound b0 n
        have hw1 : IntKind.i64.wrap (((psum (wsB b0) n : Nat) : Int) - ((psum (wsB b0) i : Nat) : Int)) = ((psum (wsB b0) n : Nat) : Int) - ((psum (wsB b0) i : Nat) : Int) := wrap_id (by omega) (by omega)
        have hw2 : IntKind.i64.wrap (((psum (wsB b0) n : Nat) : Int) - ((psum (wsB b0) i : Nat) : Int) - 1) = dist (wsB b0) i n := by rw [wrap_id (by omega) (by omega)]; rfl
        have htn := hto (n : Int)
        repeat' first
          | ((with_reducible show wx _ (XCode.cond _ _ _) _ _); refine wx_if rfl (fun _ => ?_) (fun _ => ?_))
          | ((with_reducible show SemL _ _ _ _); refine SemL.of ?_)
          | simp (maxSteps := 1000000) only [go_sem, hlt', hw, hc0, hc5, hn0, hnn, hn1, h0i, hi1, hpi, hpn, hw1, hw2, Bool.false_or, hfit, htn, Int.toNat_natCast, Nat.mul_one, Nat.zero_add]
          | ((with_reducible show wl _ (XI.mk _ (some _) (XBody.op _) :: _) _ _); first | refine wl_optF rfl (fun e2 => by ((try simp only [Bool.and_eq_true] at e2); first | (simp (maxSteps := 1000000) only [e2, go_sem, hlt', hw, hc0, hc5, hn0, hnn, hn1, h0i, hi1, hpi, hpn, hw1, hw2, Bool.false_or, hfit, htn, Int.toNat_natCast, Nat.mul_one, Nat.zero_add]; first | done | rfl))) ?_ | refine wl_opt2T rfl (fun e1 e2 => by ((try simp only [Bool.and_eq_true] at e1); first | (simp (maxSteps := 1000000) only [e1, e2, go_sem, hlt', hw, hc0, hc5, hn0, hnn, hn1, h0i, hi1, hpi, hpn, hw1, hw2, Bool.false_or, hfit, htn, Int.toNat_natCast, Nat.mul_one, Nat.zero_add]; first | done | rfl))) ?_)
        · exact ⟨b0.length - (i + 1), by omega, i + 1, b, c, rfl, by omega, hbl, hins, hkp, hjl, hcc, rfl⟩
        · rename_i e1 e2
          simp at e1 e2
          have hdd : ¬ op = 6 → -32768 ≤ dist (wsB b) i n ∧ dist (wsB b) i n < 32768 := by
            intro h6
            rw [hws]
            rcases e2 with q | q
            · exact absurd q h6
            · exact q
          obtain ⟨k1, k2⟩ := hstep hj n sn hn hnj e1 (fun s2 hs2 => by
            cases q : isJ s2.ins with
            | true => rfl
            | false => exact absurd (hfirst s2 hs2 q) e1) hdd
          refine ⟨b0.length - (i + 1), by omega, i + 1, _, true, rfl, by omega, by rw [List.length_set]; exact hbl, by rw [ins_set hbi]; exact hins, hkp.trans k1, by omega, fun _ => by omega, rfl⟩
        · exact ⟨b0.length - (i + 1), by omega, i + 1, b, c, rfl, by omega, hbl, hins, hkp, hjl, hcc, rfl⟩
    · have hj2 : isJ ⟨op, dst, src, off, imm⟩ = false := by simpa using hj
      repeat' first
        | ((with_reducible show SimCall _ 242 _ _ _); refine (c242' hO ⟨op, dst, src, off, imm⟩ _).mono ?_; rintro r h' ⟨rfl, rfl⟩)
        | simp (maxSteps := 1000000) only [go_sem, hlt', hw, h0i, hfit5, hrow5, hj2, Int.toNat_natCast, Nat.zero_add]
      exact ⟨b0.length - (i + 1), by omega, i + 1, b, c, rfl, by omega, hbl, hins, hkp, hjl, hcc, rfl⟩
  · have hlt' : ¬ ((i : Int) < b0.length) := by omega
    repeat' first
      | simp (maxSteps := 1000000) only [go_sem, hlt']
    exact ⟨b, _, c, rfl, by rw [hbl], hbl, hkp, hjl, hcc⟩
end Go.Tidy
namespace Go.Tidy
open Go Go.Eng Go.Proofs
variable {cx : Cx}
theorem jjL_le (is : List Ins) : ∀ l : List Stp, jjL is l ≤ l.length
  | [] => Nat.le_refl _
  | s :: r => by
    have := jjL_le is r
    simp only [jjL, List.length_cons]
    split <;> omega
def far (b : List Stp) : Nat := b.length * (b.length + 1) + jj b
theorem far_len {b b' : List Stp} (h : b'.length < b.length) : far b' < far b := by
  unfold far
  have h1 : jj b' ≤ b'.length := jjL_le _ _
  have h2 : (b'.length + 1) * (b'.length + 1) ≤ b.length * (b.length + 1) := Nat.mul_le_mul (by omega) (by omega)
  have h3 : (b'.length + 1) * (b'.length + 1) = b'.length * (b'.length + 1) + (b'.length + 1) := Nat.succ_mul _ _
  omega
theorem far_jj {b b' : List Stp} (hl : b'.length = b.length) (h : jj b' < jj b) : far b' < far b := by
  unfold far
  rw [hl]
  omega
theorem rd_elsewhere {h g1 g2 G : AH} {o o' : AO} {id ver : Nat} {cs : List AV} (hid : id ≠ h.length + g1.length) (hr : AH.rd (h ++ (g1 ++ o :: g2)) id ver = some cs) : AH.rd (h ++ (g1 ++ o' :: (g2 ++ G))) id ver = some cs := by
  have hlt := rd_lt hr
  have : (h ++ (g1 ++ o' :: (g2 ++ G)))[id]? = (h ++ (g1 ++ o :: g2))[id]? := by
    rw [← List.append_assoc, ← List.append_assoc]
    by_cases hc : id < (h ++ g1).length
    · rw [List.getElem?_append_left hc, List.getElem?_append_left hc]
    · rw [List.getElem?_append_right (by omega), List.getElem?_append_right (by omega)]
      have hl : (h ++ g1).length = h.length + g1.length := List.length_append
      obtain ⟨j, hj⟩ : ∃ j, id - (h ++ g1).length = j + 1 := ⟨id - (h ++ g1).length - 1, by omega⟩
      rw [hj, List.getElem?_cons_succ, List.getElem?_cons_succ]
      simp only [List.length_append, List.length_cons] at hlt hj
      rw [List.getElem?_append_left (by omega)]
  unfold AH.rd at hr ⊢
  rw [this]
  exact hr
def Chg (h : AH) (g1 g2 : AH) (ver : Nat) (b : List Stp) (r : AV) (h' : AH) : Prop :=
  ∃ b' g1' ver' g2' c, h' = h ++ (g1' ++ AO.cells ver' (b'.flatMap Stp.row) :: g2') ∧ r = .tup [.sl (h.length + g1'.length) ver' 0 b'.length 6, VB c] ∧ Keeps b b' ∧ (c = true → far b' < far b) ∧ far b' ≤ far b ∧ b'.length ≤ b.length ∧
    ∀ id cs, id ≠ h.length + g1.length → AH.rd (h ++ (g1 ++ AO.cells ver (b.flatMap Stp.row) :: g2)) id 0 = some cs → AH.rd h' id 0 = some cs ∧ id ≠ h.length + g1'.length
theorem chg_of {h g1 g2 : AH} {ver : Nat} {b : List Stp} (hf : Fits b) {r : AV} {h' : AH} (hc : Changed (h ++ (g1 ++ AO.cells ver (b.flatMap Stp.row) :: g2)) (.sl (h.length + g1.length) ver 0 b.length 6) b (Keeps b) r h') : Chg h g1 g2 ver b r h' := by
  obtain ⟨G, rfl, h1⟩ := hc
  rcases h1 with rfl | ⟨b', a1, a2, v2, rfl, rfl, h2, h3⟩
  · refine ⟨b, g1, ver, g2 ++ G, false, by simp, rfl, Keeps.refl hf, (fun q => by cases q), Nat.le_refl _, Nat.le_refl _, fun id cs hid hr => ⟨?_, hid⟩⟩
    rw [rd_old (rd_lt hr)]; exact hr
  · refine ⟨b', g1 ++ AO.cells ver (b.flatMap Stp.row) :: (g2 ++ a1), v2, a2, true, by simp, ?_, h3, fun _ => far_len h2, Nat.le_of_lt (far_len h2), by omega, fun id cs hid hr => ⟨?_, ?_⟩⟩
    · simp only [List.length_append, List.length_cons]
      congr 3
      omega
    · rw [rd_old (rd_lt hr)]; exact hr
    · have := rd_lt hr
      simp only [List.length_append, List.length_cons] at this ⊢
      omega
theorem laid_call {b : List Stp} (hf : Fits b) (hs : (wsB b).sum < 2147483647) {i : Ins} (hi : i ∈ laidL b) (h3 : jumps i = 3) : ∃ s ∈ b, i = s.ins := by
  obtain ⟨k, hk⟩ := List.mem_iff_getElem?.1 hi
  unfold laidL at hk
  rw [List.getElem?_mapIdx, Option.map_eq_some_iff] at hk
  obtain ⟨s, h1, rfl⟩ := hk
  refine ⟨s, List.mem_of_getElem? h1, ?_⟩
  by_cases hl : leads s.ins = true
  · exfalso
    obtain ⟨h0, _, h5⟩ := hf.to k s h1 hl
    have hv : if s.ins.op = 6 then -2147483648 ≤ dist (wsB b) k s.to.toNat ∧ dist (wsB b) k s.to.toNat < 2147483648 else -32768 ≤ dist (wsB b) k s.to.toNat ∧ dist (wsB b) k s.to.toNat < 32768 := by
      split
      · have a1 := psum_all (wsB b) (Nat.le_refl _)
        have a2 : psum (wsB b) k ≤ (wsB b).sum := by rw [← psum_all (wsB b) (t := max k (wsB b).length) (by omega)]; exact psum_mono _ (by omega)
        have a3 : psum (wsB b) s.to.toNat ≤ (wsB b).sum := by rw [← psum_all (wsB b) (t := max s.to.toNat (wsB b).length) (by omega)]; exact psum_mono _ (by omega)
        unfold dist
        omega
      · rename_i h6; exact h5 h6
    have := (leads_aim hl hv).1
    unfold laidI at h3
    rw [if_pos h0, this] at h3
    unfold leads at hl
    simp [h3] at hl
  · have h0 := hf.no k s h1 (by simpa using hl)
    unfold laidI
    rw [if_neg (by omega)]
def chgC : List AV := [.fn 180 [], .fn 181 [], .fn 182 []]
set_option maxRecDepth 100000 in
set_option maxHeartbeats 4000000 in
theorem c70 (hO : On cx) {h : AH} {v : AV} {nf nt : Int} {is : List Ins} (hv : SlIns h v is) (hl : is.length < 1099511627775) (hb : BodyOk nf nt is) (hs : (wsI is).sum < 2147483647) :
    SimCall cx 70 [v] h fun r h' => ∃ js, Made nf nt is js ∧ r = .sl h.length 0 0 js.length 5 ∧ h' = h ++ [.cells 0 (js.flatMap Ins.row)] := by
  refine (SimCall.gc1 hole_id (Q := fun n sz cs => ∃ js, Made nf nt is js ∧ n = js.length ∧ sz = 5 ∧ cs = js.flatMap Ins.row) ?_).mono (by rintro r h' ⟨n, sz, cs, ⟨js, h1, rfl, rfl, rfl⟩, rfl, rfl⟩; exact ⟨js, h1, rfl, rfl⟩)
  refine SimCall.by hO.P res70 ?_
  unfold x70 r70
  repeat' first
    | simp (maxSteps := 1000000) only [go_sem]
  refine (c125 hO hv hl (fun i hi => (hb.rule i hi).may)).mono ?_
  rintro r h' ⟨b0, htk, rfl, rfl⟩
  obtain ⟨hf0, hws0, hr0⟩ := takenUp_fits hb htk.len htk.each
  have hl0 : b0.length < 1099511627776 := by have := htk.len; omega
  repeat' first
    | simp (maxSteps := 1000000) only [go_sem]
  refine SimLoop.inv [3] (fun m s => ∃ (b : List Stp) (g1 g2 : AH) (ver : Nat), m = far b ∧ Keeps b0 b ∧ b.length ≤ b0.length ∧
    s = ⟨[.un, .un, .un, .sl (h.length + g1.length) ver 0 b.length 6, .un, .un, .un, .un, .un, .un, .un, .un, .un, .un, .un, .un, .un, .un, .un, .un, .un, .un, .un, .un, .un], h ++ (g1 ++ .cells ver (b.flatMap Stp.row) :: g2)⟩) ?_ (far b0) ?_
  rotate_left
  · exact ⟨b0, [], [], 0, rfl, Keeps.refl hf0, Nat.le_refl _, by simp only [go_sem]⟩
  rintro m s ⟨b, g1, g2, ver, rfl, hk, hbl, rfl⟩
  have h3 : ((3 : Nat) : Int) = 3 := rfl
  repeat' first
    | ((with_reducible show SimCall _ 126 _ _ _); refine (c126 hO _).mono ?_; rintro r h' ⟨rfl, rfl⟩)
    | simp (maxSteps := 1000000) only [go_sem]
  refine SimLoop.inv [3, 5, 0, 0] (fun m s => ∃ (i : Nat) (b' : List Stp) (g1 g2 : AH) (ver fid : Nat), m = 3 - i ∧ i ≤ 3 ∧ Keeps b b' ∧ far b' ≤ far b ∧ b'.length ≤ b.length ∧ fid ≠ h.length + g1.length ∧ AH.rd (h ++ (g1 ++ .cells ver (b'.flatMap Stp.row) :: g2)) fid 0 = some chgC ∧
    s = ⟨[.un, .un, .un, .sl (h.length + g1.length) ver 0 b'.length 6, .un, .un, .un, .un, .un, .sl fid 0 0 3 1, VI ((3 : Nat) : Int), VI i, .un, .un, .un, .un, .un, .un, .un, .un, .un, .un, .un, .un, .un], h ++ (g1 ++ .cells ver (b'.flatMap Stp.row) :: g2)⟩) ?_ 3 ?_
  rotate_left
  · refine ⟨0, b, g1, g2 ++ [.cells 0 chgC], ver, h.length + (g1.length + (g2.length + 1)), rfl, by omega, Keeps.refl hk.fits, Nat.le_refl _, Nat.le_refl _, by omega, by simp only [go_sem], by simp only [go_sem]; rfl⟩
  rintro m s ⟨i, b', g1', g2', ver', fid, rfl, hi, hk', hfar, hbl', hfid, hrd, rfl⟩
  have hf' := hk'.fits
  have hlb : b'.length < 1099511627776 := by omega
  have hsl : SlT Stp.row 6 (h ++ (g1' ++ .cells ver' (b'.flatMap Stp.row) :: g2')) (.sl (h.length + g1'.length) ver' 0 b'.length 6) b' :=
    SlT.whole (f := Stp.row) (xs := b') (l := b'.flatMap Stp.row) (fun g' => by simp only [go_sem]) Stp.len rfl
  have k180 : SimCall cx 180 [.sl (h.length + g1'.length) ver' 0 b'.length 6] (h ++ (g1' ++ .cells ver' (b'.flatMap Stp.row) :: g2')) (Chg h g1' g2' ver' b') := (c180 hO hsl hf' hlb).mono fun r h' hc => chg_of hf' hc
  have k181 : SimCall cx 181 [.sl (h.length + g1'.length) ver' 0 b'.length 6] (h ++ (g1' ++ .cells ver' (b'.flatMap Stp.row) :: g2')) (Chg h g1' g2' ver' b') := (c181 hO hsl hf' hlb).mono fun r h' hc => chg_of hf' hc
  have k182 : SimCall cx 182 [.sl (h.length + g1'.length) ver' 0 b'.length 6] (h ++ (g1' ++ .cells ver' (b'.flatMap Stp.row) :: g2')) (Chg h g1' g2' ver' b') := by
    refine (c182 hO hf' hlb).mono ?_
    rintro r h' ⟨b2, G, c, rfl, rfl, e1, e2, e3, e4⟩
    refine ⟨b2, g1', ver', g2' ++ G, c, rfl, rfl, e2, fun q => far_jj e1 (e4 q), ?_, by omega, fun id cs hid hr => ⟨rd_elsewhere hid hr, hid⟩⟩
    unfold far
    rw [e1]
    omega
  have fin : ∀ r h', Chg h g1' g2' ver' b' r h' → ∃ (b2 : List Stp) (a1 a2 : AH) (v2 : Nat) (c : Bool), h' = h ++ (a1 ++ AO.cells v2 (b2.flatMap Stp.row) :: a2) ∧ r = .tup [.sl (h.length + a1.length) v2 0 b2.length 6, VB c] ∧ Keeps b b2 ∧ (c = true → far b2 < far b) ∧ far b2 ≤ far b ∧ b2.length ≤ b.length ∧ fid ≠ h.length + a1.length ∧ AH.rd h' fid 0 = some chgC := by
    rintro r h' ⟨b2, a1, v2, a2, c, e1, e2, e3, e4, e5, e6, e7⟩
    obtain ⟨q1, q2⟩ := e7 fid chgC hfid hrd
    exact ⟨b2, a1, a2, v2, c, e1, e2, hk'.trans e3, fun q => Nat.lt_of_lt_of_le (e4 q) hfar, by omega, by omega, q2, q1⟩
  have h0i : (0 : Int) ≤ i := by omega
  by_cases hlt : i < 3
  · have hlt' : (i : Int) < ((3 : Nat) : Int) := by omega
    have hw := wrap_succ hlt (by omega)
    have hcall : ∀ F : FuncId, chgC[i]? = some (.fn F []) → SimCall cx F [.sl (h.length + g1'.length) ver' 0 b'.length 6] (h ++ (g1' ++ .cells ver' (b'.flatMap Stp.row) :: g2')) (Chg h g1' g2' ver' b') := by
      intro F hF
      match i, hlt, hF with
      | 0, _, hF => simp [chgC] at hF; subst hF; exact k180
      | 1, _, hF => simp [chgC] at hF; subst hF; exact k181
      | 2, _, hF => simp [chgC] at hF; subst hF; exact k182
    obtain ⟨F, hF⟩ : ∃ F, chgC[i]? = some (.fn F []) := by
      match i, hlt with
      | 0, _ => exact ⟨_, rfl⟩
      | 1, _ => exact ⟨_, rfl⟩
      | 2, _ => exact ⟨_, rfl⟩
    repeat' first
      | simp (maxSteps := 1000000) only [go_sem, hlt', h0i, hrd, hF, Int.toNat_natCast, Nat.mul_one, Nat.zero_add]
    refine (hcall F hF).mono ?_
    intro r h' hc
    obtain ⟨b2, a1, a2, v2, c, rfl, rfl, e3, e4, e5, e6, e7, e8⟩ := fin r h' hc
    repeat' first
      | ((with_reducible show wx _ (XCode.cond _ _ _) _ _); refine wx_if rfl (fun _ => ?_) (fun _ => ?_))
      | simp (maxSteps := 1000000) only [go_sem, hw]
    · rename_i e
      exact ⟨far b2, e4 e, b2, a1, a2, v2, rfl, hk.trans e3, by omega, rfl⟩
    · exact ⟨3 - (i + 1), by omega, i + 1, b2, a1, a2, v2, fid, rfl, by omega, e3, e5, e6, e7, e8, rfl⟩
  · have hlt' : ¬ (i : Int) < ((3 : Nat) : Int) := by omega
    have hkb := hk.trans hk'
    have hne := hkb.fits.ne
    have h127 := c127 hO hsl hne (by omega) hkb.fits.toAll
    repeat' first
      | ((with_reducible show SimCall _ 127 _ _ _); refine (h127).mono ?_; rintro r h' ⟨rfl, rfl⟩)
      | simp (maxSteps := 1000000) only [go_sem, hlt']
    have hsum : (wsB b').sum ≤ (wsI is).sum := by have := hkb.slots; rw [hws0] at this; exact this
    refine ⟨_, rfl, _, _, _, _, _, rfl, by omega, by simp only [go_sem], ?_, laidL b', ⟨laid_ok hkb.fits (fun s hs' => ?_) (by omega), by rw [wsI_laid]; exact hsum, ?_⟩, by simp [laidL], rfl, rfl⟩
    · intro y hy
      obtain ⟨s, _, hy⟩ := List.mem_flatMap.1 hy
      simp only [Ins.row, List.mem_cons, List.not_mem_nil, or_false] at hy
      rcases hy with rfl | rfl | rfl | rfl | rfl <;> exact .v _
    · obtain ⟨s0, h0, e0⟩ := hkb.ins s hs'
      rw [e0]
      exact hr0 s0 h0
    · intro c hc
      unfold callsOf at hc ⊢
      obtain ⟨i, hi, rfl⟩ := List.mem_map.1 hc
      obtain ⟨hi, h3⟩ := List.mem_filter.1 hi
      obtain ⟨s, hs', rfl⟩ := laid_call hkb.fits (by omega) hi (of_decide_eq_true h3)
      obtain ⟨s0, h0, e0⟩ := hkb.ins s hs'
      obtain ⟨k, hk⟩ := List.mem_iff_getElem?.1 h0
      refine List.mem_map.2 ⟨s.ins, List.mem_filter.2 ⟨?_, h3⟩, rfl⟩
      rw [e0]
      exact List.mem_of_getElem? (htk.each k s0 hk).1
end Go.Tidy

/- Part 3 of a proof: an abstract memory for the translated code, and what the functions that the law reaches do over it. -/
import Derived.Test.YtbhdjfhhgnoiiaaGreatDoorT2
set_option linter.unusedSimpArgs false
set_option linter.unusedVariables false
namespace Go.Eng
open Go.RowKit
def frcN {α : Type} (n : Nat) (k : Nat → α) : α := Nat.casesOn n (k 0) fun m => k (Nat.succ m)
def frcI {α : Type} (n : Int) (k : Int → α) : α := Int.casesOn n (fun m => frcN m fun m => k (.ofNat m)) fun m => frcN m fun m => k (.negSucc m)
def frcB {α : Type} (b : Bool) (k : Bool → α) : α := Bool.casesOn b (k false) (k true)
def frcV {α : Type} (v : Value) (k : Value → α) : α := match v with
  | .int d n => frcI n fun n => k (.int d n)
  | .bool b => frcB b fun b => k (.bool b)
  | v => k v
def frcA {α : Type} (x : AV) (k : AV → α) : α := match x with
  | .v v => frcV v fun v => k (.v v)
  | .ptr a b c => frcN a fun a => frcN b fun b => frcN c fun c => k (.ptr a b c)
  | .sl a b c d e => frcN a fun a => frcN b fun b => frcN c fun c => frcN d fun d => k (.sl a b c d e)
  | x => k x
noncomputable def frcL {α : Type} (l : List AV) : (List AV → α) → α := List.rec (fun k => k []) (fun x _ ih k => frcA x fun x => ih fun r => k (x :: r)) l
noncomputable def setK {α : Type} (l : List AV) : Nat → AV → (List AV → α) → α := List.rec (fun _ _ k => k []) (fun y r ih n x k => Nat.casesOn n (k (x :: r)) fun m => ih m x fun r' => k (y :: r')) l
noncomputable def frcO {α : Type} (o : AO) (k : AO → α) : α := match o with
  | .cells v cs => frcN v fun v => frcL cs fun cs => k (.cells v cs)
  | o => k o
noncomputable def frcH {α : Type} (l : AH) : Nat → (AH → α) → α := List.rec (fun _ k => k []) (fun y _ ih n k => Nat.casesOn n (frcO y fun y => ih n fun r' => k (y :: r')) fun m => ih m fun r' => k (y :: r')) l
theorem frcN_eq {α : Type} (n : Nat) (k : Nat → α) : frcN n k = k n := by cases n <;> rfl
theorem frcI_eq {α : Type} (n : Int) (k : Int → α) : frcI n k = k n := by
  cases n with
  | ofNat m => exact frcN_eq m fun m => k (.ofNat m)
  | negSucc m => exact frcN_eq m fun m => k (.negSucc m)
theorem frcB_eq {α : Type} (n : Bool) (k : Bool → α) : frcB n k = k n := by cases n <;> rfl
theorem frcV_eq {α : Type} (v : Value) (k : Value → α) : frcV v k = k v := by
  unfold frcV
  split
  · exact frcI_eq _ _
  · exact frcB_eq _ _
  · rfl
theorem frcA_eq {α : Type} (v : AV) (k : AV → α) : frcA v k = k v := by
  unfold frcA
  split
  · exact frcV_eq _ _
  · simp only [frcN_eq]
  · simp only [frcN_eq]
  · rfl
theorem frcL_eq {α : Type} : ∀ (l : List AV) (k : List AV → α), frcL l k = k l
  | [], k => rfl
  | x :: r, k => by
    have h : frcL (x :: r) k = frcA x fun x => frcL r fun r => k (x :: r) := rfl
    rw [h, frcA_eq, frcL_eq r]
theorem setK_eq {α : Type} : ∀ (l : List AV) (n : Nat) (x : AV) (k : List AV → α), setK l n x k = k (l.set n x)
  | [], n, x, k => by cases n <;> rfl
  | y :: r, 0, x, k => rfl
  | y :: r, n + 1, x, k => by
    have h : setK (y :: r) (n + 1) x k = setK r n x fun r' => k (y :: r') := rfl
    rw [h, setK_eq r]
    rfl
theorem frcO_eq {α : Type} (v : AO) (k : AO → α) : frcO v k = k v := by
  unfold frcO
  split
  · rw [frcN_eq, frcL_eq]
  · rfl
theorem frcH_eq {α : Type} : ∀ (l : AH) (n : Nat) (k : AH → α), frcH l n k = k l
  | [], n, k => rfl
  | y :: r, 0, k => by
    have h : frcH (y :: r) 0 k = frcO y fun y => frcH r 0 fun r' => k (y :: r') := rfl
    rw [h, frcO_eq, frcH_eq r]
  | y :: r, n + 1, k => by
    have h : frcH (y :: r) (n + 1) k = frcH r n fun r' => k (y :: r') := rfl
    rw [h, frcH_eq r]
def pure' : XBody → Bool
  | .op x => match x with
    | .mov _ | .pick _ _ _ | .ld1 _ | .lda _ _ | .bin _ _ _ | .fad _ _ | .fld _ _ _ | .iad _ _ _ | .cvi _ _ | .ext _ _ | .lenl _ | .lens _ | .ixs _ _ | .un _ _ | .mkf _ _ | .sls _ _ _ _ | .slt _ _ _ | .sla _ _ _ _ _ | .iaa _ _ _ _ | .beq _ _ _ | .lenk _ | .mx _ _ _ | .sno _ _ | .lenm _ | .seq _ _ _ _ => true
    | _ => false
  | _ => false
def touch (cx : Cx) (s : XSt) : XBody → Nat
  | .op (.st _ a _) => match s.ev cx a with
    | .ptr id _ _ => id
    | _ => s.h.length
  | _ => s.h.length
noncomputable def frcS {α : Type} (cx : Cx) (b : XBody) (s : XSt) (d : Option Nat) (x : AV) (h : AH) (k : XSt → α) : α := match d with
  | some t => frcA x fun x => setK s.fr t x fun fr => if pure' b then k ⟨fr, h⟩ else frcH h (touch cx s b) fun h => k ⟨fr, h⟩
  | none => if pure' b then k ⟨s.fr, h⟩ else frcH h (touch cx s b) fun h => k ⟨s.fr, h⟩
theorem frcS_eq {α : Type} {cx : Cx} {b : XBody} {s : XSt} {d : Option Nat} {x : AV} {h : AH} {k : XSt → α} : frcS cx b s d x h k = k (s.put d x h) := by
  unfold frcS
  cases d <;> simp only [frcA_eq, setK_eq, frcH_eq, XSt.put] <;> split <;> rfl
abbrev FT := FuncId → Option (XCode × List XRes × Nat)
section
variable (cx : Cx) (call : FuncId → List AV → AH → Option (AV × AH))
def runI (i : XI) (s : XSt) : Option (AV × AH) :=
  match i.body with
  | .op x => xev cx s x
  | .call f args => match s.ev cx f with
    | .fn g caps => call g (args.map (s.ev cx) ++ caps) s.h
    | _ => none
noncomputable def runL : List XI → XSt → Option XSt
  | [], s => some s
  | i :: r, s => match i.guard with
    | none => (runI cx call i s).bind fun p => frcS cx i.body s i.dst p.1 p.2 fun s' => runL r s'
    | some (t, b) => match s.fr.getD t .un with
      | .v (.bool c) => if c = b then (runI cx call i s).bind fun p => frcS cx i.body s i.dst p.1 p.2 fun s' => runL r s' else runL r (s.put i.dst .und s.h)
      | .und => runL r (s.put i.dst .und s.h)
      | _ => none
def sameW : Value → Value → Bool
  | .nilFunc, .nilFunc => true
  | .map none, .map none => true
  | .bool a, .bool b => decide (a = b)
  | .int k a, .int k' b => decide (k = k') && decide (a = b)
  | .string a, .string b => decide (a = b)
  | .pointer none, .pointer none => true
  | .slice none 0 0, .slice none 0 0 => true
  | _, _ => false
def sameWs : List Value → List Value → Bool
  | [], [] => true
  | x :: r, y :: q => sameW x y && sameWs r q
  | _, _ => false
def sameV : Value → Value → Bool
  | .agg a, .agg b => sameWs a.toList b.toList
  | x, y => sameW x y
def sameB : AV → AV → Bool
  | .v x, .v y => sameV x y
  | .ptr a b c, .ptr a' b' c' => decide (a = a') && decide (b = b') && decide (c = c')
  | .sl a b c d e, .sl a' b' c' d' e' => decide (a = a') && decide (b = b') && decide (c = c') && decide (d = d') && decide (e = e')
  | .mp a, .mp a' => decide (a = a')
  | .un, .un => true
  | .und, .und => true
  | _, _ => false
def sameM : List AV → List AV → Bool
  | [], [] => true
  | x :: r, y :: q => sameB x y && sameM r q
  | _, _ => false
def sameA : AV → AV → Bool
  | .fn f c, .fn g d => decide (f = g) && sameM c d
  | .agg c, .agg d => sameM c d
  | .tup c, .tup d => sameM c d
  | x, y => sameB x y
def sameL : List AV → List AV → Bool
  | [], [] => true
  | x :: r, y :: q => sameA x y && sameL r q
  | _, _ => false
def sameE : List (Nat × Value × AV) → List (Nat × Value × AV) → Bool
  | [], [] => true
  | (a, x, y) :: r, (b, u, v) :: q => decide (a = b) && sameV x u && sameA y v && sameE r q
  | _, _ => false
def sameO : AO → AO → Bool
  | .cells v c, .cells v' c' => decide (v = v') && sameL c c'
  | .froz c, .froz c' => sameL c c'
  | .map c e, .map c' e' => decide (c = c') && sameE e e'
  | _, _ => false
def behind : AH → AH → Option AH
  | [], g => some g
  | o :: h, o' :: h' => if sameO o o' then behind h h' else none
  | _ :: _, [] => none
def runJ (i : XI) (s : XSt) : Option (AV × AH) :=
  match i.body with
  | .op x => xev cx s x
  | .call f args => match s.ev cx f with
    | .fn g caps => (call g (args.map (s.ev cx) ++ caps) s.h).bind fun p => (behind s.h p.2).map fun g' => (p.1, s.h ++ g')
    | _ => none
def tagB (pr : Option Pr) (x : XI) (s : XSt) : Bool :=
  match pr with
  | none => true
  | some pr => match x.body with
    | .op o => (match o.rdOf with
      | some y => match (s.ev cx y).at_ with
        | some id => decide (id < pr.lo) || decide (pr.hi ≤ id)
        | none => true
      | none => true) && match o with
      | .st _ a _ => !(DI.isPs pr.sl (.i x)) || match s.ev cx a with
        | .ptr id _ _ => decide (pr.lo ≤ id) && decide (id < pr.hi)
        | _ => false
      | _ => true
    | _ => true
noncomputable def runD (pr : Option Pr) : List DI → XSt → Option XSt
  | [], s => some s
  | .real d id _ :: r, s => runD pr r (s.put d (.ptr id 0 0) s.h)
  | .i x :: r, s => if tagB cx pr x s then match x.guard with
    | none => (runJ cx call x s).bind fun p => frcS cx x.body s x.dst p.1 p.2 fun s' => runD pr r s'
    | some (t, b) => match s.fr.getD t .un with
      | .v (.bool c) => if c = b then (runJ cx call x s).bind fun p => frcS cx x.body s x.dst p.1 p.2 fun s' => runD pr r s' else runD pr r (s.put x.dst .und s.h)
      | .und => runD pr r (s.put x.dst .und s.h)
      | _ => none
    else none
end
section
variable (cx : Cx) (pm : FuncId → List AV → Option AV) (ft : FT)
noncomputable def callX (ih : XCode → XSt → Option (XEx × XSt)) (g : FuncId) (args : List AV) (h : AH) : Option (AV × AH) :=
  match pm g args with
  | some v => some (v, h)
  | none => match ft g with
  | some (x, rs, m) => match ih x ⟨args ++ List.replicate (m - args.length) .und, h⟩ with
    | some (.x _, _) => none
    | some (_, s) => (xresL s rs).map fun xs => (oneOr xs, s.h)
    | none => none
  | none => none
noncomputable def stepX (ih : XCode → XSt → Option (XEx × XSt)) (x : XCode) (s : XSt) : Option (XEx × XSt) :=
  match x with
  | .skip => some (.n, s)
  | .reg l => (runL cx (callX pm ft ih) l s).map fun s => (.n, s)
  | .drw sl l => (runD cx (callX pm ft ih) (prOf sl l s.h.length) (hoist l s.h.length).1 ⟨s.fr, s.h ++ (hoist l s.h.length).2⟩).map fun s => (.n, s)
  | .seq a b => match ih a s with
    | some (.n, s') => ih b s'
    | r => r
  | .cond c a b => match s.ev cx c with
    | .v (.bool t) => if t then ih a s else ih b s
    | _ => none
  | .block id c => match ih c s with
    | some (.x i, s') => if i = id then some (.n, s') else some (.x i, s')
    | r => r
  | .loop c => match ih c s with
    | some (.n, s') => ih (.loop c) s'
    | r => r
  | .exit id => some (.x id, s)
  | .ret => some (.r, s)
noncomputable def runX (n : Nat) : XCode → XSt → Option (XEx × XSt) := Nat.rec (fun _ _ => none) (fun _ ih => stepX cx pm ft ih) n
noncomputable def runF (n : Nat) : FuncId → List AV → AH → Option (AV × AH) := callX pm ft (runX cx pm ft n)
end
section
variable {cx : Cx} {call : FuncId → List AV → AH → Option (AV × AH)}
def CallOk (cx : Cx) (call : FuncId → List AV → AH → Option (AV × AH)) : Prop := ∀ g args h r h', call g args h = some (r, h') → SimCall cx g args h fun r2 h2 => r2 = r ∧ h2 = h'
theorem runI_sound (hc : CallOk cx call) {i : XI} {s : XSt} {r : AV} {h : AH} {K : XSt → Prop} (he : runI cx call i s = some (r, h)) (hk : K (s.put i.dst r h)) : wi cx i s K := by
  unfold runI at he
  unfold wi
  cases hb : i.body with
  | op x => rw [hb] at he; exact ⟨r, h, he, hk⟩
  | call f args =>
    rw [hb] at he
    simp only at he ⊢
    split at he
    · rename_i g caps hg
      exact ⟨g, caps, hg, (hc _ _ _ _ _ he).mono fun r2 h2 ⟨e1, e2⟩ => by rw [e1, e2]; exact hk⟩
    · cases he
theorem runL_sound (hc : CallOk cx call) : ∀ (l : List XI) (s s' : XSt) (K : XSt → Prop), runL cx call l s = some s' → K s' → wl cx l s K
  | [], s, s', K, he, hk => by simp [runL] at he; subst he; exact hk
  | i :: r, s, s', K, he, hk => by
    have hrun : ((runI cx call i s).bind fun p => frcS cx i.body s i.dst p.1 p.2 fun s' => runL cx call r s') = some s' → wi cx i s fun s' => wl cx r s' K := by
      intro he
      simp only [Option.bind_eq_some_iff] at he
      obtain ⟨⟨x, h⟩, h1, h2⟩ := he
      rw [frcS_eq] at h2
      exact runI_sound hc h1 (runL_sound hc r _ s' K h2 hk)
    simp only [runL] at he
    simp only [wl]
    cases hg : i.guard with
    | none => rw [hg] at he; exact hrun he
    | some p =>
      obtain ⟨t, b⟩ := p
      rw [hg] at he
      simp only at he ⊢
      split at he
      · rename_i c hcc
        rw [hcc]
        split at he
        · rename_i hcb
          exact ⟨fun _ => hrun he, fun e => by subst hcb; cases c <;> simp at e⟩
        · rename_i hcb
          exact ⟨fun e => absurd e hcb, fun _ => runL_sound hc r _ s' K he hk⟩
      · rename_i hcc
        rw [hcc]
        exact runL_sound hc r _ s' K he hk
      · cases he
theorem sameW_eq {x y : Value} (h : sameW x y = true) : x = y := by
  unfold sameW at h
  split at h <;> simp_all
theorem sameWs_eq : ∀ {x y : List Value}, sameWs x y = true → x = y
  | [], [], _ => rfl
  | x :: r, y :: q, h => by
    simp only [sameWs, Bool.and_eq_true] at h
    rw [sameW_eq h.1, sameWs_eq h.2]
  | [], _ :: _, h => by simp [sameWs] at h
  | _ :: _, [], h => by simp [sameWs] at h
theorem sameV_eq {x y : Value} (h : sameV x y = true) : x = y := by
  unfold sameV at h
  split at h
  · rw [Array.toList_inj.1 (sameWs_eq h)]
  · exact sameW_eq h
theorem sameB_eq {x y : AV} (h : sameB x y = true) : x = y := by
  unfold sameB at h
  split at h <;> simp_all
  exact sameV_eq h
theorem sameM_eq : ∀ {x y : List AV}, sameM x y = true → x = y
  | [], [], _ => rfl
  | x :: r, y :: q, h => by
    simp only [sameM, Bool.and_eq_true] at h
    rw [sameB_eq h.1, sameM_eq h.2]
  | [], _ :: _, h => by simp [sameM] at h
  | _ :: _, [], h => by simp [sameM] at h
theorem sameA_eq {x y : AV} (h : sameA x y = true) : x = y := by
  unfold sameA at h
  split at h
  · simp only [Bool.and_eq_true, decide_eq_true_eq] at h
    rw [h.1, sameM_eq h.2]
  · rw [sameM_eq h]
  · rw [sameM_eq h]
  · exact sameB_eq h
theorem sameL_eq : ∀ {x y : List AV}, sameL x y = true → x = y
  | [], [], _ => rfl
  | x :: r, y :: q, h => by
    simp only [sameL, Bool.and_eq_true] at h
    rw [sameA_eq h.1, sameL_eq h.2]
  | [], _ :: _, h => by simp [sameL] at h
  | _ :: _, [], h => by simp [sameL] at h
theorem sameE_eq : ∀ {x y : List (Nat × Value × AV)}, sameE x y = true → x = y
  | [], [], _ => rfl
  | (a, x, y) :: r, (b, u, v) :: q, h => by
    simp only [sameE, Bool.and_eq_true, decide_eq_true_eq] at h
    rw [h.1.1.1, sameV_eq h.1.1.2, sameA_eq h.1.2, sameE_eq h.2]
  | [], _ :: _, h => by simp [sameE] at h
  | _ :: _, [], h => by simp [sameE] at h
theorem sameO_eq {x y : AO} (h : sameO x y = true) : x = y := by
  unfold sameO at h
  split at h
  · simp only [Bool.and_eq_true, decide_eq_true_eq] at h
    rw [h.1, sameL_eq h.2]
  · rw [sameL_eq h]
  · simp only [Bool.and_eq_true, decide_eq_true_eq] at h
    rw [h.1, sameE_eq h.2]
  · cases h
theorem behind_eq : ∀ {h h' g : AH}, behind h h' = some g → h' = h ++ g
  | [], g', g, he => by simp [behind] at he; simp [he]
  | o :: h, o' :: h', g, he => by
    simp only [behind] at he
    split at he
    · rename_i hs
      rw [behind_eq he, sameO_eq hs]
      rfl
    · cases he
  | _ :: _, [], g, he => by simp [behind] at he
theorem runJ_sound (hc : CallOk cx call) {i : XI} {s : XSt} {r : AV} {h : AH} {K : XSt → Prop} (he : runJ cx call i s = some (r, h)) (hk : K (s.put i.dst r h)) : wdi cx i s K := by
  unfold runJ at he
  unfold wdi
  cases hb : i.body with
  | op x => rw [hb] at he; exact ⟨r, h, he, hk⟩
  | call f args =>
    rw [hb] at he
    simp only at he ⊢
    split at he
    · rename_i g caps hg
      simp only [Option.bind_eq_some_iff, Option.map_eq_some_iff] at he
      obtain ⟨⟨r1, h1⟩, e1, g', e2, e3⟩ := he
      cases e3
      refine ⟨g, caps, hg, _, g', ?_, hk⟩
      have h2 := behind_eq e2
      simp only at h2
      subst h2
      exact hc _ _ _ _ _ e1
    · cases he
theorem tagB_sound {pr : Option Pr} {x : XI} {s : XSt} (h : tagB cx pr x s = true) : tagP cx pr x s := by
  cases pr with
  | none => trivial
  | some pr =>
    obtain ⟨dst, guard, body⟩ := x
    cases body with
    | call => trivial
    | op o =>
      simp only [tagB, Bool.and_eq_true] at h
      simp only [tagP]
      refine ⟨?_, ?_⟩
      · have h1 := h.1
        cases hy : o.rdOf with
        | none => trivial
        | some y =>
          rw [hy] at h1
          simp only at h1 ⊢
          cases hid : (s.ev cx y).at_ with
          | none => trivial
          | some id =>
            rw [hid] at h1
            simpa using h1
      · have h2 := h.2
        cases o with
        | st n a z =>
          simp only at h2 ⊢
          intro hp
          rw [hp] at h2
          simp only [Bool.not_true, Bool.false_or] at h2
          cases ha : s.ev cx a with
          | ptr id ver off => rw [ha] at h2; simpa using h2
          | _ => rw [ha] at h2; cases h2
        | _ => trivial
theorem runD_sound (hc : CallOk cx call) {pr : Option Pr} : ∀ (l : List DI) (s s' : XSt) (K : XSt → Prop), runD cx call pr l s = some s' → K s' → wds cx pr l s K
  | [], s, s', K, he, hk => by simp [runD] at he; subst he; exact hk
  | .real d id z :: r, s, s', K, he, hk => runD_sound hc r _ s' K he hk
  | .i i :: r, s, s', K, he, hk => by
    have hrun : ((runJ cx call i s).bind fun p => frcS cx i.body s i.dst p.1 p.2 fun s' => runD cx call pr r s') = some s' → wdi cx i s fun s' => wds cx pr r s' K := by
      intro he
      simp only [Option.bind_eq_some_iff] at he
      obtain ⟨⟨x, h⟩, h1, h2⟩ := he
      rw [frcS_eq] at h2
      exact runJ_sound hc h1 (runD_sound hc r _ s' K h2 hk)
    simp only [runD] at he
    split at he
    · rename_i htag
      simp only [wds]
      refine ⟨tagB_sound htag, ?_⟩
      cases hg : i.guard with
      | none => rw [hg] at he; exact hrun he
      | some p =>
        obtain ⟨t, b⟩ := p
        rw [hg] at he
        simp only at he ⊢
        split at he
        · rename_i c hcc
          rw [hcc]
          split at he
          · rename_i hcb
            exact ⟨fun _ => hrun he, fun e => by subst hcb; cases c <;> simp at e⟩
          · rename_i hcb
            exact ⟨fun e => absurd e hcb, fun _ => runD_sound hc r _ s' K he hk⟩
        · rename_i hcc
          rw [hcc]
          exact runD_sound hc r _ s' K he hk
        · cases he
    · cases he
def XOk (cx : Cx) (ih : XCode → XSt → Option (XEx × XSt)) : Prop := ∀ x s e s' (K : XEx → XSt → Prop), ih x s = some (e, s') → K e s' → wx cx x s K
variable {ft : FT} {pm : FuncId → List AV → Option AV}
def PrimOk (cx : Cx) (pm : FuncId → List AV → Option AV) : Prop := ∀ g args v, pm g args = some v → ∀ h, SimCall cx g args h fun r h' => h' = h ∧ r = v
theorem callX_sound {P : Program} (hP : cx.P = P) (hpm : PrimOk cx pm) (hft : ∀ g r, ft g = some r → resolveF P g = some r) {ih : XCode → XSt → Option (XEx × XSt)} (hi : XOk cx ih) : CallOk cx (callX pm ft ih) := by
  intro g args h r h' he
  unfold callX at he
  split at he
  · rename_i v hv
    simp only [Option.some.injEq, Prod.mk.injEq] at he
    obtain ⟨rfl, rfl⟩ := he
    exact (hpm g args _ hv _).mono fun r2 h2 ⟨e1, e2⟩ => ⟨e2, e1⟩
  split at he
  · rename_i x rs m hg
    have hr := hft g _ hg
    have key : ∀ e s, ih x ⟨args ++ List.replicate (m - args.length) .und, h⟩ = some (e, s) → (∀ id, e ≠ .x id) → ((xresL s rs).map fun xs => (oneOr xs, s.h)) = some (r, h') → SimCall cx g args h fun r2 h2 => r2 = r ∧ h2 = h' := by
      intro e s h1 h2 h3
      simp only [Option.map_eq_some_iff, Prod.mk.injEq] at h3
      obtain ⟨xs, h4, rfl, rfl⟩ := h3
      refine SimCall.of hP hr (hi _ _ _ _ _ h1 ?_)
      cases e with
      | x id => exact absurd rfl (h2 id)
      | n => exact ⟨xs, h4, rfl, rfl⟩
      | r => exact ⟨xs, h4, rfl, rfl⟩
    split at he
    · cases he
    · rename_i e s hn h1
      exact key e s h1 hn he
    · cases he
  · cases he
theorem stepX_sound {P : Program} (hP : cx.P = P) (hpm : PrimOk cx pm) (hft : ∀ g r, ft g = some r → resolveF P g = some r) {ih : XCode → XSt → Option (XEx × XSt)} (hi : XOk cx ih) : XOk cx (stepX cx pm ft ih) := by
  have hc := callX_sound hP hpm hft hi
  intro x s e s' K he hk
  cases x with
  | skip => simp [stepX] at he; obtain ⟨rfl, rfl⟩ := he; exact hk
  | exit id => simp [stepX] at he; obtain ⟨rfl, rfl⟩ := he; exact hk
  | ret => simp [stepX] at he; obtain ⟨rfl, rfl⟩ := he; exact hk
  | reg l =>
    simp only [stepX, Option.map_eq_some_iff, Prod.mk.injEq] at he
    obtain ⟨s2, h1, rfl, rfl⟩ := he
    have := runL_sound hc l s s2 (K .n) h1 hk
    simp only [wx]
    split
    · exact this
    · exact SemL.of this
  | drw sl l =>
    simp only [stepX, Option.map_eq_some_iff, Prod.mk.injEq] at he
    obtain ⟨s2, h1, rfl, rfl⟩ := he
    have : wdr cx sl l s (K .n) := runD_sound hc _ _ s2 (K .n) h1 hk
    simp only [wx]
    split
    · exact this
    · exact SemD.of this
  | seq a b =>
    simp only [stepX] at he
    simp only [wx]
    split at he
    · rename_i s2 h1
      exact hi _ _ _ _ _ h1 (hi _ _ _ _ _ he hk)
    · rename_i hn
      refine hi _ _ _ _ _ he ?_
      cases e with
      | n => exact absurd he (hn _)
      | x id => exact hk
      | r => exact hk
  | cond c a b =>
    simp only [stepX] at he
    simp only [wx]
    split at he
    · rename_i t ht
      refine ⟨t, ht, fun e1 => ?_, fun e1 => ?_⟩
      · rw [e1] at he; exact hi _ _ _ _ _ he hk
      · rw [e1] at he; exact hi _ _ _ _ _ he hk
    · cases he
  | block id c =>
    simp only [stepX] at he
    simp only [wx]
    split at he
    · rename_i i s2 h1
      refine hi _ _ _ _ _ h1 ?_
      simp only
      split at he
      · rename_i hid
        simp only [Option.some.injEq, Prod.mk.injEq] at he
        obtain ⟨rfl, rfl⟩ := he
        rw [if_pos hid]; exact hk
      · rename_i hid
        simp only [Option.some.injEq, Prod.mk.injEq] at he
        obtain ⟨rfl, rfl⟩ := he
        rw [if_neg hid]; exact hk
    · rename_i hn
      refine hi _ _ _ _ _ he ?_
      cases e with
      | x id => exact absurd he (hn _ _)
      | n => exact hk
      | r => exact hk
  | loop c =>
    simp only [stepX] at he
    simp only [wx]
    refine SimLoop.unroll ?_
    split at he
    · rename_i s2 h1
      exact hi _ _ _ _ _ h1 (hi (.loop c) _ _ _ _ he hk)
    · rename_i hn
      refine hi _ _ _ _ _ he ?_
      cases e with
      | n => exact absurd he (hn _)
      | x id => exact hk
      | r => exact hk
theorem runX_sound {P : Program} (hP : cx.P = P) (hpm : PrimOk cx pm) (hft : ∀ g r, ft g = some r → resolveF P g = some r) : ∀ n, XOk cx (runX cx pm ft n)
  | 0 => fun x s e s' K he hk => by simp [runX] at he
  | n + 1 => stepX_sound hP hpm hft (runX_sound hP hpm hft n)
theorem SimCall.run {P : Program} (hP : cx.P = P) (hpm : PrimOk cx pm) (hft : ∀ g r, ft g = some r → resolveF P g = some r) (n : Nat) {g : FuncId} {args : List AV} {h : AH} {r : AV} {h' : AH} (he : runF cx pm ft n g args h = some (r, h')) :
    SimCall cx g args h fun r2 h2 => r2 = r ∧ h2 = h' := callX_sound hP hpm hft (runX_sound hP hpm hft n) g args h r h' he
end
end Go.Eng
namespace Go.Eng
open Go.RowKit
def Hole (F : AV → AV) : Prop := ∀ (w0 : World) (B : Nat) (φ : Phi) x v, Rep w0 B φ (F x) v → ∃ u, Rep w0 B φ x u ∧ ∀ φ2 x2, Ext φ φ2 ∨ True → Rep w0 B φ2 x2 u → Rep w0 B φ2 (F x2) v
theorem hole_id : Hole fun x => x := fun w0 B φ x v h => ⟨v, h, fun _ _ _ h => h⟩
theorem hole_tup {y : AV} (hy : Plain y) : Hole fun x => .tup [x, y] := by
  intro w0 B φ x v h
  cases h with
  | tup _ vs hl hr =>
    have h0 : 0 < vs.size := by simp at hl; omega
    have h1 : 1 < vs.size := by simp at hl; omega
    refine ⟨vs[0], hr 0 x vs[0] rfl (Array.getElem?_eq_getElem h0), fun φ2 x2 _ h2 => .tup _ vs (by simpa using hl) ?_⟩
    intro k z u hz hu
    match k, hz with
    | 0, hz =>
      simp at hz
      subst hz
      rw [Array.getElem?_eq_getElem h0] at hu
      cases hu
      exact h2
    | 1, hz =>
      simp at hz
      subst hz
      exact hy.rep (hr 1 y u rfl hu)
theorem SimCall.gc1 {cx : Cx} {h : AH} {F : AV → AV} (hF : Hole F) {f : FuncId} {args : List AV} {Q : Nat → Nat → List AV → Prop}
    (hc : SimCall cx f args h fun r h' => ∃ g, h' = h ++ g ∧ ∃ id ver n sz cs, r = F (.sl id ver 0 n sz) ∧ h.length ≤ id ∧ AH.get h' id ver = some cs ∧ (∀ x ∈ cs, Plain x) ∧ Q n sz cs) :
    SimCall cx f args h fun r h' => ∃ n sz cs, Q n sz cs ∧ r = F (.sl h.length 0 0 n sz) ∧ h' = h ++ [.cells 0 cs] := by
  refine ⟨hc.1, fun φ w vs h1 h2 h3 => (hc.2 φ w vs h1 h2 h3).mono ?_⟩
  rintro e w' ⟨v, r, h', φ', he, hv, hw', hst, g, rfl, id, ver, n, sz, cs, rfl, hid, hget, hp, hq⟩
  obtain ⟨u, hu, hback⟩ := hF _ _ _ _ _ hv
  cases hu with
  | sl _ _ _ _ _ b N cap hφ a1 a2 a3 a4 =>
  have ho : (h ++ g)[id]? = some (.cells ver cs) := by
    unfold AH.get at hget
    split at hget
    · rename_i v' cs' hh
      split at hget
      · rename_i hv'
        simp only [Option.some.injEq] at hget
        rw [hh, hv', hget]
      · cases hget
    · cases hget
  have hnone : ∀ v, φ h.length v = none := fun v => h3.none_of (fun o ho => by have := (List.getElem?_eq_some_iff.1 ho).1; omega)
  have hext : Ext φ (newPhi φ h.length 0 b N) := newPhi_ext (hnone 0) b N
  have hold : ∀ (i v : Nat), i ≠ h.length → newPhi φ h.length 0 b N i v = φ i v := by
    intro i v hi
    unfold newPhi
    rw [if_neg (by omega)]
  have hnew : ∀ (v bb : Nat) m, newPhi φ h.length 0 b N h.length v = some (bb, m) → v = 0 ∧ bb = b ∧ m = N := by
    intro v bb m he
    unfold newPhi at he
    split at he
    · rename_i hc
      simp at he
      exact ⟨hc.2, he.1.symm, he.2.symm⟩
    · rw [hnone] at he; cases he
  have hself : newPhi φ h.length 0 b N h.length 0 = some (b, N) := by unfold newPhi; simp
  have hsplit : ∀ (i : Nat) o, (h ++ [AO.cells 0 cs])[i]? = some o → (i < h.length ∧ h[i]? = some o) ∨ (i = h.length ∧ o = .cells 0 cs) := by
    intro i o hi
    by_cases hlt : i < h.length
    · rw [List.getElem?_append_left hlt] at hi
      exact .inl ⟨hlt, hi⟩
    · rw [List.getElem?_append_right (by omega)] at hi
      have h0 : i - h.length = 0 := by
        have := (List.getElem?_eq_some_iff.1 hi).1
        simp at this
        omega
      rw [h0] at hi
      simp at hi
      exact .inr ⟨by omega, hi.symm⟩
  have hob := hw'.obj id _ b N ho hφ
  refine ⟨v, F (.sl h.length 0 0 n sz), h ++ [.cells 0 cs], newPhi φ h.length 0 b N, he, hback _ _ (.inr trivial) (.sl _ _ _ _ _ b N cap hself a1 a2 a3 a4), ?_, ?_, n, sz, cs, hq, rfl, rfl⟩
  · refine ⟨hw'.below, ?_, ?_, ?_, ?_⟩
    · intro i o bb nn hi hb
      rcases hsplit i o hi with ⟨hlt, hi'⟩ | ⟨rfl, rfl⟩
      · rw [hold _ _ (by omega)] at hb
        exact ((h3.obj i o bb nn hi' hb).back hst.ext (hw'.obj i o bb nn (by rw [List.getElem?_append_left hlt]; exact hi') (hst.ext _ _ _ hb))).mono hext rfl
      · obtain ⟨_, rfl, rfl⟩ := hnew _ _ _ hb
        obtain ⟨q1, ccs, T, q2, q3, q4, q5, q6⟩ := hob
        exact ⟨q1, ccs, T, q2, q3, q4, fun k x v hx hv => (hp x (List.mem_of_getElem? hx)).rep (q5 k x v hx hv), q6⟩
    · intro i j x y bb m m' hx hy hb hb'
      rcases hsplit i x hx with ⟨hlt, hx'⟩ | ⟨rfl, rfl⟩ <;> rcases hsplit j y hy with ⟨hlt2, hy'⟩ | ⟨rfl, rfl⟩
      · rw [hold _ _ (by omega)] at hb hb'
        exact h3.inj i j x y bb m m' hx' hy' hb hb'
      · rw [hold _ _ (by omega)] at hb
        obtain ⟨_, rfl, rfl⟩ := hnew _ _ _ hb'
        have := hw'.inj i id x _ bb m m' (by rw [List.getElem?_append_left hlt]; exact hx') ho (hst.ext _ _ _ hb) hφ
        omega
      · rw [hold _ _ (by omega)] at hb'
        obtain ⟨_, rfl, rfl⟩ := hnew _ _ _ hb
        have := hw'.inj j id y _ bb m' m (by rw [List.getElem?_append_left hlt2]; exact hy') ho (hst.ext _ _ _ hb') hφ
        omega
      · rfl
    · intro i v r hr
      by_cases hi : i = h.length
      · subst hi
        obtain ⟨rb, rn⟩ := r
        obtain ⟨rfl, _⟩ := hnew _ _ _ hr
        exact ⟨.cells 0 cs, by simp, Nat.le_refl _⟩
      · rw [hold _ _ hi] at hr
        obtain ⟨o, h5, h6⟩ := h3.dom i v r hr
        exact ⟨o, by rw [List.getElem?_append_left (List.getElem?_eq_some_iff.1 h5).1]; exact h5, h6⟩
    · intro i v bb m hb
      by_cases hi : i = h.length
      · subst hi
        obtain ⟨_, rfl, _⟩ := hnew _ _ _ hb
        exact hw'.hi _ _ _ _ hφ
      · rw [hold _ _ hi] at hb
        have := h3.hi _ _ _ _ hb
        have := hst.size
        omega
  · refine ⟨hext, hst.keep, ?_, hst.size, by simp, ?_⟩
    · intro i o bb m hi hb hlt
      rcases hsplit i o hi with ⟨hl, hi'⟩ | ⟨rfl, rfl⟩
      · rw [hold _ _ (by omega)] at hb
        exact ⟨i, o, m, hi', hb⟩
      · obtain ⟨_, rfl, rfl⟩ := hnew _ _ _ hb
        exact hst.cur id _ bb m ho hφ hlt
    · intro i hi hv v
      rw [hold i v (by omega)]
      exact hv v
end Go.Eng
namespace Go.Eng
open Go.RowKit
section
variable {cx : Cx} {s s' : XSt} {K2 : XEx → XSt → Prop} {K L : XSt → Prop} {e : XEx} {y : XCode} {id : Nat} {rs : List XRes} {Q : AV → AH → Prop} {l : List XI} {dl : List DI} {pr : Option Pr} {d : Option Nat} {r r' : AV} {h h' : AH}
@[congr] theorem seqK_congr (q : s = s') : seqK cx y K2 e s = seqK cx y K2 e s' := by rw [q]
@[congr] theorem blkK_congr (q : s = s') : blkK id K2 e s = blkK id K2 e s' := by rw [q]
@[congr] theorem loopK_congr (q : s = s') : loopK L K2 e s = loopK L K2 e s' := by rw [q]
@[congr] theorem endK_congr (q : s = s') : endK rs Q e s = endK rs Q e s' := by rw [q]
@[congr] theorem semK_congr (q : s = s') : semK cx l K s = semK cx l K s' := by rw [q]
@[congr] theorem opK_congr (q1 : s = s') (q2 : r = r') (q3 : h = h') : opK cx l s d K r h = opK cx l s' d K r' h' := by rw [q1, q2, q3]
@[congr] theorem dopK_congr (q1 : s = s') (q2 : r = r') (q3 : h = h') : dopK cx pr dl s d K r h = dopK cx pr dl s' d K r' h' := by rw [q1, q2, q3]
@[congr] theorem dcaK_congr (q1 : s = s') (q2 : r = r') (q3 : h = h') : dcaK cx pr dl s d K r h = dcaK cx pr dl s' d K r' h' := by rw [q1, q2, q3]
end
section
variable {cx : Cx} {s : XSt} {K : XSt → Prop} {l : List XI} {r : List DI} {d : Option Nat} {t : Nat} {b c : Bool} {body : XBody}
theorem wl_if (hs : s.fr.getD t .un = .v (.bool c)) (h1 : c = b → wl cx (⟨d, none, body⟩ :: l) s K) (h2 : c = !b → wl cx l (s.put d .und s.h) K) : wl cx (⟨d, some (t, b), body⟩ :: l) s K := by
  by_cases hc : c = b
  · rw [wl_run (by rw [hs, hc])]
    exact h1 hc
  · have hc' : c = !b := by cases c <;> cases b <;> simp_all
    rw [wl_pass (by rw [hs, hc'])]
    exact h2 hc'
theorem wl_ifT (hs : s.fr.getD t .un = .v (.bool c)) (h1 : c = true → wl cx (⟨d, none, body⟩ :: l) s K) (h2 : c = false → wl cx l (s.put d .und s.h) K) : wl cx (⟨d, some (t, true), body⟩ :: l) s K := wl_if hs h1 h2
theorem wl_ifF (hs : s.fr.getD t .un = .v (.bool c)) (h1 : c = true → wl cx l (s.put d .und s.h) K) (h2 : c = false → wl cx (⟨d, none, body⟩ :: l) s K) : wl cx (⟨d, some (t, false), body⟩ :: l) s K := wl_if hs h2 h1
@[go_sem] theorem wds_run (hs : s.fr.getD t .un = .v (.bool b)) : wds cx none (.i ⟨d, some (t, b), body⟩ :: r) s K = wds cx none (.i ⟨d, none, body⟩ :: r) s K := by
  simp only [wds, hs, tagP, true_and]
  refine propext ⟨fun h => h.1 trivial, fun h => ⟨fun _ => h, fun e => by cases b <;> simp at e⟩⟩
@[go_sem] theorem wds_pass (hs : s.fr.getD t .un = .v (.bool !b)) : wds cx none (.i ⟨d, some (t, b), body⟩ :: r) s K = wds cx none r (s.put d .und s.h) K := by
  simp only [wds, hs, tagP, true_and]
  cases b <;> simp
@[go_sem] theorem wds_und (hs : s.fr.getD t .un = .und) : wds cx none (.i ⟨d, some (t, b), body⟩ :: r) s K = wds cx none r (s.put d .und s.h) K := by
  simp only [wds, hs, tagP, true_and]
theorem wds_if (hs : s.fr.getD t .un = .v (.bool c)) (h1 : c = b → wds cx none (.i ⟨d, none, body⟩ :: r) s K) (h2 : c = !b → wds cx none r (s.put d .und s.h) K) : wds cx none (.i ⟨d, some (t, b), body⟩ :: r) s K := by
  by_cases hc : c = b
  · rw [wds_run (by rw [hs, hc])]
    exact h1 hc
  · have hc' : c = !b := by cases c <;> cases b <;> simp_all
    rw [wds_pass (by rw [hs, hc'])]
    exact h2 hc'
theorem wds_ifT (hs : s.fr.getD t .un = .v (.bool c)) (h1 : c = true → wds cx none (.i ⟨d, none, body⟩ :: r) s K) (h2 : c = false → wds cx none r (s.put d .und s.h) K) : wds cx none (.i ⟨d, some (t, true), body⟩ :: r) s K := wds_if hs h1 h2
theorem wds_ifF (hs : s.fr.getD t .un = .v (.bool c)) (h1 : c = true → wds cx none r (s.put d .und s.h) K) (h2 : c = false → wds cx none (.i ⟨d, none, body⟩ :: r) s K) : wds cx none (.i ⟨d, some (t, false), body⟩ :: r) s K := wds_if hs h2 h1
theorem dK_of {g : FuncId} {args : List AV} {h : AH} {Kd : AV → AH → Prop} (r : AV) (hc : SimCall cx g args h fun r2 h2 => h2 = h ∧ r2 = r) (hk : Kd r []) : dK cx g args h Kd :=
  ⟨r, [], hc.mono fun _ _ ⟨e1, e2⟩ => ⟨e2, by rw [e1, List.append_nil]⟩, hk⟩
theorem plain_v (x : Value) : Plain (.v x) := .v x
theorem plain_tup {l : List AV} (h : ∀ x ∈ l, Plain x) : Plain (.tup l) := .tup l h
theorem more_nil {h : AH} : ∃ g, h = h ++ g := ⟨[], (List.append_nil h).symm⟩
theorem more_one {h g : AH} : ∃ g', h ++ g = h ++ g' := ⟨g, rfl⟩
theorem SemL.pre1 {n : Nat} (hn : preN l = n + 1) (h : wl cx (l.take (n + 1)) s (semK cx (l.drop (n + 1)) K)) : SemL cx l s K := SemL.split (n + 1) h
end
end Go.Eng
namespace Go.Eng
open Go.RowKit
@[go_sem] theorem isAlloc_mov {d : Option Nat} {g : Option (Nat × Bool)} {a0} : isAlloc ⟨d, g, .op (.mov a0)⟩ = false := by cases g <;> rfl
@[go_sem] theorem isAlloc_pick {d : Option Nat} {g : Option (Nat × Bool)} {a0} {a1} {a2} : isAlloc ⟨d, g, .op (.pick a0 a1 a2)⟩ = false := by cases g <;> rfl
@[go_sem] theorem isAlloc_box {d : Option Nat} {g : Option (Nat × Bool)} {a0} : isAlloc ⟨d, g, .op (.box a0)⟩ = false := by cases g <;> rfl
@[go_sem] theorem isAlloc_build {d : Option Nat} {g : Option (Nat × Bool)} {a0} {a1} : isAlloc ⟨d, g, .op (.build a0 a1)⟩ = false := by cases g <;> rfl
@[go_sem] theorem isAlloc_bsl {d : Option Nat} {g : Option (Nat × Bool)} {a0} {a1} {a2} {a3} : isAlloc ⟨d, g, .op (.bsl a0 a1 a2 a3)⟩ = false := by cases g <;> rfl
@[go_sem] theorem isAlloc_ld1 {d : Option Nat} {g : Option (Nat × Bool)} {a0} : isAlloc ⟨d, g, .op (.ld1 a0)⟩ = false := by cases g <;> rfl
@[go_sem] theorem isAlloc_lda {d : Option Nat} {g : Option (Nat × Bool)} {a0} {a1} : isAlloc ⟨d, g, .op (.lda a0 a1)⟩ = false := by cases g <;> rfl
@[go_sem] theorem isAlloc_st {d : Option Nat} {g : Option (Nat × Bool)} {a0} {a1} {a2} : isAlloc ⟨d, g, .op (.st a0 a1 a2)⟩ = false := by cases g <;> rfl
@[go_sem] theorem isAlloc_nck {d : Option Nat} {g : Option (Nat × Bool)} {a0} : isAlloc ⟨d, g, .op (.nck a0)⟩ = false := by cases g <;> rfl
@[go_sem] theorem isAlloc_bin {d : Option Nat} {g : Option (Nat × Bool)} {a0} {a1} {a2} : isAlloc ⟨d, g, .op (.bin a0 a1 a2)⟩ = false := by cases g <;> rfl
@[go_sem] theorem isAlloc_beq {d : Option Nat} {g : Option (Nat × Bool)} {a0} {a1} {a2} : isAlloc ⟨d, g, .op (.beq a0 a1 a2)⟩ = false := by cases g <;> rfl
@[go_sem] theorem isAlloc_un {d : Option Nat} {g : Option (Nat × Bool)} {a0} {a1} : isAlloc ⟨d, g, .op (.un a0 a1)⟩ = false := by cases g <;> rfl
@[go_sem] theorem isAlloc_cvi {d : Option Nat} {g : Option (Nat × Bool)} {a0} {a1} : isAlloc ⟨d, g, .op (.cvi a0 a1)⟩ = false := by cases g <;> rfl
@[go_sem] theorem isAlloc_cvs {d : Option Nat} {g : Option (Nat × Bool)} {a0} : isAlloc ⟨d, g, .op (.cvs a0)⟩ = false := by cases g <;> rfl
@[go_sem] theorem isAlloc_mkf {d : Option Nat} {g : Option (Nat × Bool)} {a0} {a1} : isAlloc ⟨d, g, .op (.mkf a0 a1)⟩ = false := by cases g <;> rfl
@[go_sem] theorem isAlloc_sls {d : Option Nat} {g : Option (Nat × Bool)} {a0} {a1} {a2} {a3} : isAlloc ⟨d, g, .op (.sls a0 a1 a2 a3)⟩ = false := by cases g <;> rfl
@[go_sem] theorem isAlloc_slt {d : Option Nat} {g : Option (Nat × Bool)} {a0} {a1} {a2} : isAlloc ⟨d, g, .op (.slt a0 a1 a2)⟩ = false := by cases g <;> rfl
@[go_sem] theorem isAlloc_sla {d : Option Nat} {g : Option (Nat × Bool)} {a0} {a1} {a2} {a3} {a4} : isAlloc ⟨d, g, .op (.sla a0 a1 a2 a3 a4)⟩ = false := by cases g <;> rfl
@[go_sem] theorem isAlloc_fad {d : Option Nat} {g : Option (Nat × Bool)} {a0} {a1} : isAlloc ⟨d, g, .op (.fad a0 a1)⟩ = false := by cases g <;> rfl
@[go_sem] theorem isAlloc_fld {d : Option Nat} {g : Option (Nat × Bool)} {a0} {a1} {a2} : isAlloc ⟨d, g, .op (.fld a0 a1 a2)⟩ = false := by cases g <;> rfl
@[go_sem] theorem isAlloc_iad {d : Option Nat} {g : Option (Nat × Bool)} {a0} {a1} {a2} : isAlloc ⟨d, g, .op (.iad a0 a1 a2)⟩ = false := by cases g <;> rfl
@[go_sem] theorem isAlloc_iaa {d : Option Nat} {g : Option (Nat × Bool)} {a0} {a1} {a2} {a3} : isAlloc ⟨d, g, .op (.iaa a0 a1 a2 a3)⟩ = false := by cases g <;> rfl
@[go_sem] theorem isAlloc_ixs {d : Option Nat} {g : Option (Nat × Bool)} {a0} {a1} : isAlloc ⟨d, g, .op (.ixs a0 a1)⟩ = false := by cases g <;> rfl
@[go_sem] theorem isAlloc_ext {d : Option Nat} {g : Option (Nat × Bool)} {a0} {a1} : isAlloc ⟨d, g, .op (.ext a0 a1)⟩ = false := by cases g <;> rfl
@[go_sem] theorem isAlloc_lens {d : Option Nat} {g : Option (Nat × Bool)} {a0} : isAlloc ⟨d, g, .op (.lens a0)⟩ = false := by cases g <;> rfl
@[go_sem] theorem isAlloc_lenl {d : Option Nat} {g : Option (Nat × Bool)} {a0} : isAlloc ⟨d, g, .op (.lenl a0)⟩ = false := by cases g <;> rfl
@[go_sem] theorem isAlloc_lenk {d : Option Nat} {g : Option (Nat × Bool)} {a0} : isAlloc ⟨d, g, .op (.lenk a0)⟩ = false := by cases g <;> rfl
@[go_sem] theorem isAlloc_mx {d : Option Nat} {g : Option (Nat × Bool)} {a0} {a1} {a2} : isAlloc ⟨d, g, .op (.mx a0 a1 a2)⟩ = false := by cases g <;> rfl
@[go_sem] theorem isAlloc_app {d : Option Nat} {g : Option (Nat × Bool)} {a0} {a1} {a2} {a3} : isAlloc ⟨d, g, .op (.app a0 a1 a2 a3)⟩ = false := by cases g <;> rfl
@[go_sem] theorem isAlloc_mks {d : Option Nat} {g : Option (Nat × Bool)} {a0} {a1} {a2} {a3} {a4} : isAlloc ⟨d, g, .op (.mks a0 a1 a2 a3 a4)⟩ = false := by cases g <;> rfl
@[go_sem] theorem isAlloc_cpy {d : Option Nat} {g : Option (Nat × Bool)} {a0} {a1} {a2} : isAlloc ⟨d, g, .op (.cpy a0 a1 a2)⟩ = false := by cases g <;> rfl
@[go_sem] theorem isAlloc_seq {d : Option Nat} {g : Option (Nat × Bool)} {a0} {a1} {a2} {a3} : isAlloc ⟨d, g, .op (.seq a0 a1 a2 a3)⟩ = false := by cases g <;> rfl
@[go_sem] theorem isAlloc_sno {d : Option Nat} {g : Option (Nat × Bool)} {a0} {a1} : isAlloc ⟨d, g, .op (.sno a0 a1)⟩ = false := by cases g <;> rfl
@[go_sem] theorem isAlloc_bts {d : Option Nat} {g : Option (Nat × Bool)} {a0} : isAlloc ⟨d, g, .op (.bts a0)⟩ = false := by cases g <;> rfl
@[go_sem] theorem isAlloc_stb {d : Option Nat} {g : Option (Nat × Bool)} {a0} : isAlloc ⟨d, g, .op (.stb a0)⟩ = false := by cases g <;> rfl
@[go_sem] theorem isAlloc_mkm {d : Option Nat} {g : Option (Nat × Bool)} {a0} : isAlloc ⟨d, g, .op (.mkm a0)⟩ = false := by cases g <;> rfl
@[go_sem] theorem isAlloc_lku {d : Option Nat} {g : Option (Nat × Bool)} {a0} {a1} {a2} {a3} {a4} : isAlloc ⟨d, g, .op (.lku a0 a1 a2 a3 a4)⟩ = false := by cases g <;> rfl
@[go_sem] theorem isAlloc_mup {d : Option Nat} {g : Option (Nat × Bool)} {a0} {a1} {a2} {a3} : isAlloc ⟨d, g, .op (.mup a0 a1 a2 a3)⟩ = false := by cases g <;> rfl
@[go_sem] theorem isAlloc_men {d : Option Nat} {g : Option (Nat × Bool)} {a0} {a1} {a2} {a3} : isAlloc ⟨d, g, .op (.men a0 a1 a2 a3)⟩ = false := by cases g <;> rfl
@[go_sem] theorem isAlloc_mes {d : Option Nat} {g : Option (Nat × Bool)} {a0} {a1} {a2} : isAlloc ⟨d, g, .op (.mes a0 a1 a2)⟩ = false := by cases g <;> rfl
@[go_sem] theorem isAlloc_lenm {d : Option Nat} {g : Option (Nat × Bool)} {a0} : isAlloc ⟨d, g, .op (.lenm a0)⟩ = false := by cases g <;> rfl
@[go_sem] theorem isAlloc_del {d : Option Nat} {g : Option (Nat × Bool)} {a0} {a1} {a2} : isAlloc ⟨d, g, .op (.del a0 a1 a2)⟩ = false := by cases g <;> rfl
@[go_sem] theorem isAlloc_call {d : Option Nat} {g : Option (Nat × Bool)} {f : XO} {a : List XO} : isAlloc ⟨d, g, .call f a⟩ = false := by cases g <;> rfl
@[go_sem] theorem isAlloc_guard {d : Option Nat} {g : Nat × Bool} {b : XBody} : isAlloc ⟨d, some g, b⟩ = false := by
  cases b with
  | op x => cases x <;> rfl
  | call f a => rfl
section
variable {cx : Cx} {s : XSt} {K : XSt → Prop} {d : Option Nat} {t : Nat} {p c e : Bool} {x : XOp} {r : AV} {f : XO} {caps : List AV} {args : List XO} {g : FuncId}
@[go_sem] theorem pick_or : (if c = true then AV.v (.bool true) else if (!c) = true then AV.v (.bool e) else .und) = AV.v (.bool (c || e)) := by cases c <;> rfl
@[go_sem] theorem pick_and : (if c = true then (if c = true then AV.v (.bool e) else .und) else AV.v (.bool false)) = AV.v (.bool (c && e)) := by cases c <;> rfl
@[go_sem] theorem pick_orI {k : IntKind} {a b : Int} : (if c = true then AV.v (.int k a) else if (!c) = true then AV.v (.int k b) else .und) = AV.v (.int k (if c then a else b)) := by cases c <;> rfl
section
variable {l : List XI}
theorem wl_optT (hs : s.fr.getD t .un = .v (.bool c)) (hr : c = true → xev cx s x = some (r, s.h)) (hk : wl cx l (s.put d (if (c) = true then r else .und) s.h) K) : wl cx (⟨d, (some (t, true)), .op x⟩ :: l) s K := by
  cases c with
  | false =>
    rw [wl_pass (by simpa using hs)]
    simpa using hk
  | true =>
    rw [wl_run hs]
    exact ⟨r, s.h, hr rfl, by simpa using hk⟩
theorem wl_optcT (hs : s.fr.getD t .un = .v (.bool c)) (hf : s.ev cx f = .fn g caps) (hr : c = true → SimCall cx g (args.map (s.ev cx) ++ caps) s.h fun r2 h2 => h2 = s.h ∧ r2 = r) (hk : wl cx l (s.put d (if (c) = true then r else .und) s.h) K) : wl cx (⟨d, (some (t, true)), .call f args⟩ :: l) s K := by
  cases c with
  | false =>
    rw [wl_pass (by simpa using hs)]
    simpa using hk
  | true =>
    rw [wl_run hs]
    exact ⟨g, caps, hf, (hr rfl).mono fun r2 h2 ⟨q1, q2⟩ => by rw [q1, q2]; simpa using hk⟩
theorem wl_optF (hs : s.fr.getD t .un = .v (.bool c)) (hr : c = false → xev cx s x = some (r, s.h)) (hk : wl cx l (s.put d (if (!c) = true then r else .und) s.h) K) : wl cx (⟨d, (some (t, false)), .op x⟩ :: l) s K := by
  cases c with
  | false =>
    rw [wl_run hs]
    exact ⟨r, s.h, hr rfl, by simpa using hk⟩
  | true =>
    rw [wl_pass (by simpa using hs)]
    simpa using hk
theorem wl_optcF (hs : s.fr.getD t .un = .v (.bool c)) (hf : s.ev cx f = .fn g caps) (hr : c = false → SimCall cx g (args.map (s.ev cx) ++ caps) s.h fun r2 h2 => h2 = s.h ∧ r2 = r) (hk : wl cx l (s.put d (if (!c) = true then r else .und) s.h) K) : wl cx (⟨d, (some (t, false)), .call f args⟩ :: l) s K := by
  cases c with
  | false =>
    rw [wl_run hs]
    exact ⟨g, caps, hf, (hr rfl).mono fun r2 h2 ⟨q1, q2⟩ => by rw [q1, q2]; simpa using hk⟩
  | true =>
    rw [wl_pass (by simpa using hs)]
    simpa using hk
theorem wl_opt2T (hs : s.fr.getD t .un = if p = true then .v (.bool c) else .und) (hr : p = true → c = true → xev cx s x = some (r, s.h)) (hk : wl cx l (s.put d (if (p && c) = true then r else .und) s.h) K) : wl cx (⟨d, (some (t, true)), .op x⟩ :: l) s K := by
  cases p with
  | false =>
    rw [wl_und (by simpa using hs)]
    simpa using hk
  | true =>
    simp only [if_true] at hs
    cases c with
    | false =>
      rw [wl_pass (by simpa using hs)]
      simpa using hk
    | true =>
      rw [wl_run hs]
      exact ⟨r, s.h, hr rfl rfl, by simpa using hk⟩
theorem wl_optc2T (hs : s.fr.getD t .un = if p = true then .v (.bool c) else .und) (hf : s.ev cx f = .fn g caps) (hr : p = true → c = true → SimCall cx g (args.map (s.ev cx) ++ caps) s.h fun r2 h2 => h2 = s.h ∧ r2 = r) (hk : wl cx l (s.put d (if (p && c) = true then r else .und) s.h) K) : wl cx (⟨d, (some (t, true)), .call f args⟩ :: l) s K := by
  cases p with
  | false =>
    rw [wl_und (by simpa using hs)]
    simpa using hk
  | true =>
    simp only [if_true] at hs
    cases c with
    | false =>
      rw [wl_pass (by simpa using hs)]
      simpa using hk
    | true =>
      rw [wl_run hs]
      exact ⟨g, caps, hf, (hr rfl rfl).mono fun r2 h2 ⟨q1, q2⟩ => by rw [q1, q2]; simpa using hk⟩
theorem wl_opt2F (hs : s.fr.getD t .un = if p = true then .v (.bool c) else .und) (hr : p = true → c = false → xev cx s x = some (r, s.h)) (hk : wl cx l (s.put d (if (p && !c) = true then r else .und) s.h) K) : wl cx (⟨d, (some (t, false)), .op x⟩ :: l) s K := by
  cases p with
  | false =>
    rw [wl_und (by simpa using hs)]
    simpa using hk
  | true =>
    simp only [if_true] at hs
    cases c with
    | false =>
      rw [wl_run hs]
      exact ⟨r, s.h, hr rfl rfl, by simpa using hk⟩
    | true =>
      rw [wl_pass (by simpa using hs)]
      simpa using hk
theorem wl_optc2F (hs : s.fr.getD t .un = if p = true then .v (.bool c) else .und) (hf : s.ev cx f = .fn g caps) (hr : p = true → c = false → SimCall cx g (args.map (s.ev cx) ++ caps) s.h fun r2 h2 => h2 = s.h ∧ r2 = r) (hk : wl cx l (s.put d (if (p && !c) = true then r else .und) s.h) K) : wl cx (⟨d, (some (t, false)), .call f args⟩ :: l) s K := by
  cases p with
  | false =>
    rw [wl_und (by simpa using hs)]
    simpa using hk
  | true =>
    simp only [if_true] at hs
    cases c with
    | false =>
      rw [wl_run hs]
      exact ⟨g, caps, hf, (hr rfl rfl).mono fun r2 h2 ⟨q1, q2⟩ => by rw [q1, q2]; simpa using hk⟩
    | true =>
      rw [wl_pass (by simpa using hs)]
      simpa using hk
end
section
variable {l : List DI}
theorem wds_optT (hs : s.fr.getD t .un = .v (.bool c)) (hr : c = true → xev cx s x = some (r, s.h)) (hk : wds cx none l (s.put d (if (c) = true then r else .und) s.h) K) : wds cx none (.i ⟨d, (some (t, true)), .op x⟩ :: l) s K := by
  cases c with
  | false =>
    rw [wds_pass (by simpa using hs)]
    simpa using hk
  | true =>
    rw [wds_run hs]
    exact ⟨trivial, r, s.h, hr rfl, by simpa using hk⟩
theorem wds_optcT (hs : s.fr.getD t .un = .v (.bool c)) (hf : s.ev cx f = .fn g caps) (hr : c = true → SimCall cx g (args.map (s.ev cx) ++ caps) s.h fun r2 h2 => h2 = s.h ∧ r2 = r) (hk : wds cx none l (s.put d (if (c) = true then r else .und) s.h) K) : wds cx none (.i ⟨d, (some (t, true)), .call f args⟩ :: l) s K := by
  cases c with
  | false =>
    rw [wds_pass (by simpa using hs)]
    simpa using hk
  | true =>
    rw [wds_run hs]
    exact ⟨trivial, g, caps, hf, r, [], (hr rfl).mono fun r2 h2 ⟨q1, q2⟩ => ⟨q2, by rw [q1, List.append_nil]⟩, by simpa using hk⟩
theorem wds_optF (hs : s.fr.getD t .un = .v (.bool c)) (hr : c = false → xev cx s x = some (r, s.h)) (hk : wds cx none l (s.put d (if (!c) = true then r else .und) s.h) K) : wds cx none (.i ⟨d, (some (t, false)), .op x⟩ :: l) s K := by
  cases c with
  | false =>
    rw [wds_run hs]
    exact ⟨trivial, r, s.h, hr rfl, by simpa using hk⟩
  | true =>
    rw [wds_pass (by simpa using hs)]
    simpa using hk
theorem wds_optcF (hs : s.fr.getD t .un = .v (.bool c)) (hf : s.ev cx f = .fn g caps) (hr : c = false → SimCall cx g (args.map (s.ev cx) ++ caps) s.h fun r2 h2 => h2 = s.h ∧ r2 = r) (hk : wds cx none l (s.put d (if (!c) = true then r else .und) s.h) K) : wds cx none (.i ⟨d, (some (t, false)), .call f args⟩ :: l) s K := by
  cases c with
  | false =>
    rw [wds_run hs]
    exact ⟨trivial, g, caps, hf, r, [], (hr rfl).mono fun r2 h2 ⟨q1, q2⟩ => ⟨q2, by rw [q1, List.append_nil]⟩, by simpa using hk⟩
  | true =>
    rw [wds_pass (by simpa using hs)]
    simpa using hk
theorem wds_opt2T (hs : s.fr.getD t .un = if p = true then .v (.bool c) else .und) (hr : p = true → c = true → xev cx s x = some (r, s.h)) (hk : wds cx none l (s.put d (if (p && c) = true then r else .und) s.h) K) : wds cx none (.i ⟨d, (some (t, true)), .op x⟩ :: l) s K := by
  cases p with
  | false =>
    rw [wds_und (by simpa using hs)]
    simpa using hk
  | true =>
    simp only [if_true] at hs
    cases c with
    | false =>
      rw [wds_pass (by simpa using hs)]
      simpa using hk
    | true =>
      rw [wds_run hs]
      exact ⟨trivial, r, s.h, hr rfl rfl, by simpa using hk⟩
theorem wds_optc2T (hs : s.fr.getD t .un = if p = true then .v (.bool c) else .und) (hf : s.ev cx f = .fn g caps) (hr : p = true → c = true → SimCall cx g (args.map (s.ev cx) ++ caps) s.h fun r2 h2 => h2 = s.h ∧ r2 = r) (hk : wds cx none l (s.put d (if (p && c) = true then r else .und) s.h) K) : wds cx none (.i ⟨d, (some (t, true)), .call f args⟩ :: l) s K := by
  cases p with
  | false =>
    rw [wds_und (by simpa using hs)]
    simpa using hk
  | true =>
    simp only [if_true] at hs
    cases c with
    | false =>
      rw [wds_pass (by simpa using hs)]
      simpa using hk
    | true =>
      rw [wds_run hs]
      exact ⟨trivial, g, caps, hf, r, [], (hr rfl rfl).mono fun r2 h2 ⟨q1, q2⟩ => ⟨q2, by rw [q1, List.append_nil]⟩, by simpa using hk⟩
theorem wds_opt2F (hs : s.fr.getD t .un = if p = true then .v (.bool c) else .und) (hr : p = true → c = false → xev cx s x = some (r, s.h)) (hk : wds cx none l (s.put d (if (p && !c) = true then r else .und) s.h) K) : wds cx none (.i ⟨d, (some (t, false)), .op x⟩ :: l) s K := by
  cases p with
  | false =>
    rw [wds_und (by simpa using hs)]
    simpa using hk
  | true =>
    simp only [if_true] at hs
    cases c with
    | false =>
      rw [wds_run hs]
      exact ⟨trivial, r, s.h, hr rfl rfl, by simpa using hk⟩
    | true =>
      rw [wds_pass (by simpa using hs)]
      simpa using hk
theorem wds_optc2F (hs : s.fr.getD t .un = if p = true then .v (.bool c) else .und) (hf : s.ev cx f = .fn g caps) (hr : p = true → c = false → SimCall cx g (args.map (s.ev cx) ++ caps) s.h fun r2 h2 => h2 = s.h ∧ r2 = r) (hk : wds cx none l (s.put d (if (p && !c) = true then r else .und) s.h) K) : wds cx none (.i ⟨d, (some (t, false)), .call f args⟩ :: l) s K := by
  cases p with
  | false =>
    rw [wds_und (by simpa using hs)]
    simpa using hk
  | true =>
    simp only [if_true] at hs
    cases c with
    | false =>
      rw [wds_run hs]
      exact ⟨trivial, g, caps, hf, r, [], (hr rfl rfl).mono fun r2 h2 ⟨q1, q2⟩ => ⟨q2, by rw [q1, List.append_nil]⟩, by simpa using hk⟩
    | true =>
      rw [wds_pass (by simpa using hs)]
      simpa using hk
end
end
end Go.Eng
namespace Go.Eng
open Go.RowKit
section
variable {cx : Cx}
theorem SimLoop.go {x : XCode} {s : XSt} {K : XEx → XSt → Prop} (h : wx cx x s (loopK (fun s' => SimLoop cx x s' K) K)) : SimLoop cx x s K := by
  refine SimLoop.unroll (wx_mono x ?_ h)
  intro e s' h1
  cases e <;> exact h1
end
attribute [go_sem] Nat.reduceAdd Nat.reduceMul Nat.reduceSub Nat.reduceEqDiff Nat.reduceLeDiff Nat.reduceLT Int.reduceNeg Int.reduceEq Int.reduceLE Int.reduceLT Int.reduceAdd
attribute [go_sem] Nat.zero_ne_one Nat.one_ne_zero and_self decide_true decide_false
attribute [go_sem ↓] reduceIte
end Go.Eng

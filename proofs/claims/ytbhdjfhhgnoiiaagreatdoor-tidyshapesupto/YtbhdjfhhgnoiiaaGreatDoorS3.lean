/- Part 3 of a proof: an abstract memory for the translated code, and what the functions that the law reaches do over it. -/
import Derived.Test.YtbhdjfhhgnoiiaaGreatDoorS2
set_option linter.unusedSimpArgs false
set_option linter.unusedVariables false
namespace Go.Eng
open Go.RowKit
@[go_sem] theorem isAlloc_mov {d:Option Nat} {g:Option (Nat × Bool)} {a0}:isAlloc ⟨d,g,.op (.mov a0)⟩ = false:=by cases g <;> rfl
@[go_sem] theorem isAlloc_pick {d:Option Nat} {g:Option (Nat × Bool)} {a0} {a1} {a2}:isAlloc ⟨d,g,.op (.pick a0 a1 a2)⟩ = false:=by cases g <;> rfl
@[go_sem] theorem isAlloc_box {d:Option Nat} {g:Option (Nat × Bool)} {a0}:isAlloc ⟨d,g,.op (.box a0)⟩ = false:=by cases g <;> rfl
@[go_sem] theorem isAlloc_build {d:Option Nat} {g:Option (Nat × Bool)} {a0} {a1}:isAlloc ⟨d,g,.op (.build a0 a1)⟩ = false:=by cases g <;> rfl
@[go_sem] theorem isAlloc_bsl {d:Option Nat} {g:Option (Nat × Bool)} {a0} {a1} {a2} {a3}:isAlloc ⟨d,g,.op (.bsl a0 a1 a2 a3)⟩ = false:=by cases g <;> rfl
@[go_sem] theorem isAlloc_ld1 {d:Option Nat} {g:Option (Nat × Bool)} {a0}:isAlloc ⟨d,g,.op (.ld1 a0)⟩ = false:=by cases g <;> rfl
@[go_sem] theorem isAlloc_lda {d:Option Nat} {g:Option (Nat × Bool)} {a0} {a1}:isAlloc ⟨d,g,.op (.lda a0 a1)⟩ = false:=by cases g <;> rfl
@[go_sem] theorem isAlloc_st {d:Option Nat} {g:Option (Nat × Bool)} {a0} {a1} {a2}:isAlloc ⟨d,g,.op (.st a0 a1 a2)⟩ = false:=by cases g <;> rfl
@[go_sem] theorem isAlloc_nck {d:Option Nat} {g:Option (Nat × Bool)} {a0}:isAlloc ⟨d,g,.op (.nck a0)⟩ = false:=by cases g <;> rfl
@[go_sem] theorem isAlloc_bin {d:Option Nat} {g:Option (Nat × Bool)} {a0} {a1} {a2}:isAlloc ⟨d,g,.op (.bin a0 a1 a2)⟩ = false:=by cases g <;> rfl
@[go_sem] theorem isAlloc_beq {d:Option Nat} {g:Option (Nat × Bool)} {a0} {a1} {a2}:isAlloc ⟨d,g,.op (.beq a0 a1 a2)⟩ = false:=by cases g <;> rfl
@[go_sem] theorem isAlloc_un {d:Option Nat} {g:Option (Nat × Bool)} {a0} {a1}:isAlloc ⟨d,g,.op (.un a0 a1)⟩ = false:=by cases g <;> rfl
@[go_sem] theorem isAlloc_cvi {d:Option Nat} {g:Option (Nat × Bool)} {a0} {a1}:isAlloc ⟨d,g,.op (.cvi a0 a1)⟩ = false:=by cases g <;> rfl
@[go_sem] theorem isAlloc_cvs {d:Option Nat} {g:Option (Nat × Bool)} {a0}:isAlloc ⟨d,g,.op (.cvs a0)⟩ = false:=by cases g <;> rfl
@[go_sem] theorem isAlloc_mkf {d:Option Nat} {g:Option (Nat × Bool)} {a0} {a1}:isAlloc ⟨d,g,.op (.mkf a0 a1)⟩ = false:=by cases g <;> rfl
@[go_sem] theorem isAlloc_sls {d:Option Nat} {g:Option (Nat × Bool)} {a0} {a1} {a2} {a3}:isAlloc ⟨d,g,.op (.sls a0 a1 a2 a3)⟩ = false:=by cases g <;> rfl
@[go_sem] theorem isAlloc_slt {d:Option Nat} {g:Option (Nat × Bool)} {a0} {a1} {a2}:isAlloc ⟨d,g,.op (.slt a0 a1 a2)⟩ = false:=by cases g <;> rfl
@[go_sem] theorem isAlloc_sla {d:Option Nat} {g:Option (Nat × Bool)} {a0} {a1} {a2} {a3} {a4}:isAlloc ⟨d,g,.op (.sla a0 a1 a2 a3 a4)⟩ = false:=by cases g <;> rfl
@[go_sem] theorem isAlloc_fad {d:Option Nat} {g:Option (Nat × Bool)} {a0} {a1}:isAlloc ⟨d,g,.op (.fad a0 a1)⟩ = false:=by cases g <;> rfl
@[go_sem] theorem isAlloc_fld {d:Option Nat} {g:Option (Nat × Bool)} {a0} {a1} {a2}:isAlloc ⟨d,g,.op (.fld a0 a1 a2)⟩ = false:=by cases g <;> rfl
@[go_sem] theorem isAlloc_iad {d:Option Nat} {g:Option (Nat × Bool)} {a0} {a1} {a2}:isAlloc ⟨d,g,.op (.iad a0 a1 a2)⟩ = false:=by cases g <;> rfl
@[go_sem] theorem isAlloc_iaa {d:Option Nat} {g:Option (Nat × Bool)} {a0} {a1} {a2} {a3}:isAlloc ⟨d,g,.op (.iaa a0 a1 a2 a3)⟩ = false:=by cases g <;> rfl
@[go_sem] theorem isAlloc_ixs {d:Option Nat} {g:Option (Nat × Bool)} {a0} {a1}:isAlloc ⟨d,g,.op (.ixs a0 a1)⟩ = false:=by cases g <;> rfl
@[go_sem] theorem isAlloc_ext {d:Option Nat} {g:Option (Nat × Bool)} {a0} {a1}:isAlloc ⟨d,g,.op (.ext a0 a1)⟩ = false:=by cases g <;> rfl
@[go_sem] theorem isAlloc_lens {d:Option Nat} {g:Option (Nat × Bool)} {a0}:isAlloc ⟨d,g,.op (.lens a0)⟩ = false:=by cases g <;> rfl
@[go_sem] theorem isAlloc_lenl {d:Option Nat} {g:Option (Nat × Bool)} {a0}:isAlloc ⟨d,g,.op (.lenl a0)⟩ = false:=by cases g <;> rfl
@[go_sem] theorem isAlloc_lenk {d:Option Nat} {g:Option (Nat × Bool)} {a0}:isAlloc ⟨d,g,.op (.lenk a0)⟩ = false:=by cases g <;> rfl
@[go_sem] theorem isAlloc_mx {d:Option Nat} {g:Option (Nat × Bool)} {a0} {a1} {a2}:isAlloc ⟨d,g,.op (.mx a0 a1 a2)⟩ = false:=by cases g <;> rfl
@[go_sem] theorem isAlloc_app {d:Option Nat} {g:Option (Nat × Bool)} {a0} {a1} {a2} {a3}:isAlloc ⟨d,g,.op (.app a0 a1 a2 a3)⟩ = false:=by cases g <;> rfl
@[go_sem] theorem isAlloc_mks {d:Option Nat} {g:Option (Nat × Bool)} {a0} {a1} {a2} {a3} {a4}:isAlloc ⟨d,g,.op (.mks a0 a1 a2 a3 a4)⟩ = false:=by cases g <;> rfl
@[go_sem] theorem isAlloc_cpy {d:Option Nat} {g:Option (Nat × Bool)} {a0} {a1} {a2}:isAlloc ⟨d,g,.op (.cpy a0 a1 a2)⟩ = false:=by cases g <;> rfl
@[go_sem] theorem isAlloc_seq {d:Option Nat} {g:Option (Nat × Bool)} {a0} {a1} {a2} {a3}:isAlloc ⟨d,g,.op (.seq a0 a1 a2 a3)⟩ = false:=by cases g <;> rfl
@[go_sem] theorem isAlloc_sno {d:Option Nat} {g:Option (Nat × Bool)} {a0} {a1}:isAlloc ⟨d,g,.op (.sno a0 a1)⟩ = false:=by cases g <;> rfl
@[go_sem] theorem isAlloc_bts {d:Option Nat} {g:Option (Nat × Bool)} {a0}:isAlloc ⟨d,g,.op (.bts a0)⟩ = false:=by cases g <;> rfl
@[go_sem] theorem isAlloc_stb {d:Option Nat} {g:Option (Nat × Bool)} {a0}:isAlloc ⟨d,g,.op (.stb a0)⟩ = false:=by cases g <;> rfl
@[go_sem] theorem isAlloc_mkm {d:Option Nat} {g:Option (Nat × Bool)} {a0}:isAlloc ⟨d,g,.op (.mkm a0)⟩ = false:=by cases g <;> rfl
@[go_sem] theorem isAlloc_lku {d:Option Nat} {g:Option (Nat × Bool)} {a0} {a1} {a2} {a3} {a4}:isAlloc ⟨d,g,.op (.lku a0 a1 a2 a3 a4)⟩ = false:=by cases g <;> rfl
@[go_sem] theorem isAlloc_mup {d:Option Nat} {g:Option (Nat × Bool)} {a0} {a1} {a2} {a3}:isAlloc ⟨d,g,.op (.mup a0 a1 a2 a3)⟩ = false:=by cases g <;> rfl
@[go_sem] theorem isAlloc_men {d:Option Nat} {g:Option (Nat × Bool)} {a0} {a1} {a2} {a3}:isAlloc ⟨d,g,.op (.men a0 a1 a2 a3)⟩ = false:=by cases g <;> rfl
@[go_sem] theorem isAlloc_mes {d:Option Nat} {g:Option (Nat × Bool)} {a0} {a1} {a2}:isAlloc ⟨d,g,.op (.mes a0 a1 a2)⟩ = false:=by cases g <;> rfl
@[go_sem] theorem isAlloc_lenm {d:Option Nat} {g:Option (Nat × Bool)} {a0}:isAlloc ⟨d,g,.op (.lenm a0)⟩ = false:=by cases g <;> rfl
@[go_sem] theorem isAlloc_del {d:Option Nat} {g:Option (Nat × Bool)} {a0} {a1} {a2}:isAlloc ⟨d,g,.op (.del a0 a1 a2)⟩ = false:=by cases g <;> rfl
@[go_sem] theorem isAlloc_call {d:Option Nat} {g:Option (Nat × Bool)} {f:XO} {a:List XO}:isAlloc ⟨d,g,.call f a⟩ = false:=by cases g <;> rfl
@[go_sem] theorem isAlloc_guard {d:Option Nat} {g:Nat × Bool} {b:XBody}:isAlloc ⟨d,some g,b⟩ = false:=by
 cases b with
 | op x=>cases x <;> rfl
 | call f a=>rfl
section
variable {cx:Cx} {s:XSt} {K:XSt → Prop} {d:Option Nat} {t:Nat} {p c e:Bool} {x:XOp} {r:AV} {f:XO} {caps:List AV} {args:List XO} {g:FuncId}
@[go_sem] theorem pick_or:(if c = true then AV.v (.bool true) else if (!c) = true then AV.v (.bool e) else .und) = AV.v (.bool (c || e)):=by cases c <;> rfl
@[go_sem] theorem pick_and:(if c = true then (if c = true then AV.v (.bool e) else .und) else AV.v (.bool false)) = AV.v (.bool (c && e)):=by cases c <;> rfl
@[go_sem] theorem pick_orI {k:IntKind} {a b:Int}:(if c = true then AV.v (.int k a) else if (!c) = true then AV.v (.int k b) else .und) = AV.v (.int k (if c then a else b)):=by cases c <;> rfl
section
variable {l:List XI}
theorem wl_optT (hs:s.fr.getD t .un = .v (.bool c)) (hr:c = true → xev cx s x = some (r,s.h)) (hk:wl cx l (s.put d (if (c) = true then r else .und) s.h) K):wl cx (⟨d,(some (t,true)),.op x⟩ :: l) s K:=by
 cases c with
 | false=>
   rw [wl_pass (by simpa using hs)]
   simpa using hk
 | true=>
   rw [wl_run hs]
   exact ⟨r,s.h,xevH_of (hr rfl),by simpa using hk⟩
theorem wl_optcT (hs:s.fr.getD t .un = .v (.bool c)) (hf:s.ev cx f = .fn g caps) (hr:c = true → SimCall cx g (args.map (s.ev cx) ++ caps) s.h fun r2 h2=>h2 = s.h ∧ r2 = r) (hk:wl cx l (s.put d (if (c) = true then r else .und) s.h) K):wl cx (⟨d,(some (t,true)),.call f args⟩ :: l) s K:=by
 cases c with
 | false=>
   rw [wl_pass (by simpa using hs)]
   simpa using hk
 | true=>
   rw [wl_run hs]
   exact ⟨g,caps,hf,(hr rfl).mono fun r2 h2 ⟨q1,q2⟩=>by rw [q1,q2];simpa using hk⟩
theorem wl_optF (hs:s.fr.getD t .un = .v (.bool c)) (hr:c = false → xev cx s x = some (r,s.h)) (hk:wl cx l (s.put d (if (!c) = true then r else .und) s.h) K):wl cx (⟨d,(some (t,false)),.op x⟩ :: l) s K:=by
 cases c with
 | false=>
   rw [wl_run hs]
   exact ⟨r,s.h,xevH_of (hr rfl),by simpa using hk⟩
 | true=>
   rw [wl_pass (by simpa using hs)]
   simpa using hk
theorem wl_optcF (hs:s.fr.getD t .un = .v (.bool c)) (hf:s.ev cx f = .fn g caps) (hr:c = false → SimCall cx g (args.map (s.ev cx) ++ caps) s.h fun r2 h2=>h2 = s.h ∧ r2 = r) (hk:wl cx l (s.put d (if (!c) = true then r else .und) s.h) K):wl cx (⟨d,(some (t,false)),.call f args⟩ :: l) s K:=by
 cases c with
 | false=>
   rw [wl_run hs]
   exact ⟨g,caps,hf,(hr rfl).mono fun r2 h2 ⟨q1,q2⟩=>by rw [q1,q2];simpa using hk⟩
 | true=>
   rw [wl_pass (by simpa using hs)]
   simpa using hk
theorem wl_opt2T (hs:s.fr.getD t .un = if p = true then .v (.bool c) else .und) (hr:p = true → c = true → xev cx s x = some (r,s.h)) (hk:wl cx l (s.put d (if (p && c) = true then r else .und) s.h) K):wl cx (⟨d,(some (t,true)),.op x⟩ :: l) s K:=by
 cases p with
 | false=>
   rw [wl_und (by simpa using hs)]
   simpa using hk
 | true=>
   simp only [if_true] at hs
   cases c with
   | false=>
     rw [wl_pass (by simpa using hs)]
     simpa using hk
   | true=>
     rw [wl_run hs]
     exact ⟨r,s.h,xevH_of (hr rfl rfl),by simpa using hk⟩
theorem wl_optc2T (hs:s.fr.getD t .un = if p = true then .v (.bool c) else .und) (hf:s.ev cx f = .fn g caps) (hr:p = true → c = true → SimCall cx g (args.map (s.ev cx) ++ caps) s.h fun r2 h2=>h2 = s.h ∧ r2 = r) (hk:wl cx l (s.put d (if (p && c) = true then r else .und) s.h) K):wl cx (⟨d,(some (t,true)),.call f args⟩ :: l) s K:=by
 cases p with
 | false=>
   rw [wl_und (by simpa using hs)]
   simpa using hk
 | true=>
   simp only [if_true] at hs
   cases c with
   | false=>
     rw [wl_pass (by simpa using hs)]
     simpa using hk
   | true=>
     rw [wl_run hs]
     exact ⟨g,caps,hf,(hr rfl rfl).mono fun r2 h2 ⟨q1,q2⟩=>by rw [q1,q2];simpa using hk⟩
theorem wl_opt2F (hs:s.fr.getD t .un = if p = true then .v (.bool c) else .und) (hr:p = true → c = false → xev cx s x = some (r,s.h)) (hk:wl cx l (s.put d (if (p && !c) = true then r else .und) s.h) K):wl cx (⟨d,(some (t,false)),.op x⟩ :: l) s K:=by
 cases p with
 | false=>
   rw [wl_und (by simpa using hs)]
   simpa using hk
 | true=>
   simp only [if_true] at hs
   cases c with
   | false=>
     rw [wl_run hs]
     exact ⟨r,s.h,xevH_of (hr rfl rfl),by simpa using hk⟩
   | true=>
     rw [wl_pass (by simpa using hs)]
     simpa using hk
theorem wl_optc2F (hs:s.fr.getD t .un = if p = true then .v (.bool c) else .und) (hf:s.ev cx f = .fn g caps) (hr:p = true → c = false → SimCall cx g (args.map (s.ev cx) ++ caps) s.h fun r2 h2=>h2 = s.h ∧ r2 = r) (hk:wl cx l (s.put d (if (p && !c) = true then r else .und) s.h) K):wl cx (⟨d,(some (t,false)),.call f args⟩ :: l) s K:=by
 cases p with
 | false=>
   rw [wl_und (by simpa using hs)]
   simpa using hk
 | true=>
   simp only [if_true] at hs
   cases c with
   | false=>
     rw [wl_run hs]
     exact ⟨g,caps,hf,(hr rfl rfl).mono fun r2 h2 ⟨q1,q2⟩=>by rw [q1,q2];simpa using hk⟩
   | true=>
     rw [wl_pass (by simpa using hs)]
     simpa using hk
end
section
variable {l:List DI}
theorem wds_optT (hs:s.fr.getD t .un = .v (.bool c)) (hr:c = true → xev cx s x = some (r,s.h)) (hk:wds cx none l (s.put d (if (c) = true then r else .und) s.h) K):wds cx none (.i ⟨d,(some (t,true)),.op x⟩ :: l) s K:=by
 cases c with
 | false=>
   rw [wds_pass (by simpa using hs)]
   simpa using hk
 | true=>
   rw [wds_run hs]
   exact ⟨trivial,r,s.h,hr rfl,by simpa using hk⟩
theorem wds_optcT (hs:s.fr.getD t .un = .v (.bool c)) (hf:s.ev cx f = .fn g caps) (hr:c = true → SimCall cx g (args.map (s.ev cx) ++ caps) s.h fun r2 h2=>h2 = s.h ∧ r2 = r) (hk:wds cx none l (s.put d (if (c) = true then r else .und) s.h) K):wds cx none (.i ⟨d,(some (t,true)),.call f args⟩ :: l) s K:=by
 cases c with
 | false=>
   rw [wds_pass (by simpa using hs)]
   simpa using hk
 | true=>
   rw [wds_run hs]
   exact ⟨trivial,g,caps,hf,r,[],(hr rfl).mono fun r2 h2 ⟨q1,q2⟩=>⟨q2,by rw [q1,List.append_nil]⟩,by simpa using hk⟩
theorem wds_optF (hs:s.fr.getD t .un = .v (.bool c)) (hr:c = false → xev cx s x = some (r,s.h)) (hk:wds cx none l (s.put d (if (!c) = true then r else .und) s.h) K):wds cx none (.i ⟨d,(some (t,false)),.op x⟩ :: l) s K:=by
 cases c with
 | false=>
   rw [wds_run hs]
   exact ⟨trivial,r,s.h,hr rfl,by simpa using hk⟩
 | true=>
   rw [wds_pass (by simpa using hs)]
   simpa using hk
theorem wds_opt2T (hs:s.fr.getD t .un = if p = true then .v (.bool c) else .und) (hr:p = true → c = true → xev cx s x = some (r,s.h)) (hk:wds cx none l (s.put d (if (p && c) = true then r else .und) s.h) K):wds cx none (.i ⟨d,(some (t,true)),.op x⟩ :: l) s K:=by
 cases p with
 | false=>
   rw [wds_und (by simpa using hs)]
   simpa using hk
 | true=>
   simp only [if_true] at hs
   cases c with
   | false=>
     rw [wds_pass (by simpa using hs)]
     simpa using hk
   | true=>
     rw [wds_run hs]
     exact ⟨trivial,r,s.h,hr rfl rfl,by simpa using hk⟩
end
end
end Go.Eng
namespace Go.Eng
open Go.RowKit
section
variable {cx:Cx}
theorem SimLoop.go {x:XCode} {s:XSt} {K:XEx → XSt → Prop} (h:wx cx x s (loopK (fun s'=>SimLoop cx x s' K) K)):SimLoop cx x s K:=by
 refine SimLoop.unroll (wx_mono x ?_ h)
 intro e s' h1
 cases e <;> exact h1
end
attribute [go_sem] Nat.reduceAdd Nat.reduceMul Nat.reduceSub Nat.reduceEqDiff Nat.reduceLeDiff Nat.reduceLT Int.reduceNeg Int.reduceEq Int.reduceLE Int.reduceLT Int.reduceAdd
attribute [go_sem] Nat.zero_ne_one Nat.one_ne_zero and_self decide_true decide_false
attribute [go_sem ↓] reduceIte
end Go.Eng

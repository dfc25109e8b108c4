/-
  TidyShapes (its second form: what comes in is of bulk at most 1048576): what Check refuses is refused with its error; else tidy.Image gives an image that Check takes, with the same functions, tables and entry; what is handed in is as it was; what was handed out is nobody else's. Condition: the package arrays of isa hold what the program's text lays in them (the card ties this).
-/
import Derived.Test.YtbhdjfhhgnoiiaaGreatDoorCards
import Derived.Test.YtbhdjfhhgnoiiaaGreatDoorTie
import Derived.LaidMore
import Derived.Stop.LaidErr
import Derived.Test.YtbhdjfhhgnoiiaaGreatDoorS11
set_option linter.unusedSimpArgs false
set_option linter.unusedVariables false
namespace Go.Proofs.YtbhdjfhhgnoiiaaGreatDoor
open Go Go.RowKit
set_option maxRecDepth 100000
theorem bothB {a b:Bool} (h:a = true) (k:b = true):(a && b) = true:=by rw [h,k];rfl
theorem shInPlace:(Rows.tidyShapesUptoRow.inPlace == Tryz.prog.inPlace 5) = true:=by kernel_rfl
theorem shUnfollowed:(Rows.tidyShapesUptoRow.unfollowed == Tryz.prog.unfollowed 5) = true:=by kernel_rfl
theorem shRecurses:(Rows.tidyShapesUptoRow.recurses == Tryz.prog.recurses 5) = true:=by kernel_rfl
theorem shNamed:(Rows.tidyShapesUptoRow.named == Tryz.prog.varsNamed 5) = true:=by kernel_rfl
theorem shClosed:joinedFacts Tryz.prog 5 Tryz.f5 (Rows.OpenSpec.upto Rows.tidyShapesSpec).bare Rows.tidyShapesUptoRow = true:=by
 unfold joinedFacts
 repeat' (with_reducible refine bothB ?_ ?_)
 all_goals first
  | with_reducible exact shInPlace
  | with_reducible exact shUnfollowed
  | with_reducible exact shRecurses
  | with_reducible exact shNamed
  | kernel_rfl
end Go.Proofs.YtbhdjfhhgnoiiaaGreatDoor
namespace Go.Proofs.YtbhdjfhhgnoiiaaGreatDoor
open Go Go.Eng Go.Tidy Go.RowKit
set_option maxRecDepth 100000
theorem own:ownKnob Tryz.prog.godebug = none:=by kernel_rfl
theorem laidOut:laidOutB Tryz.prog = true:=by kernel_rfl
theorem cells3:Tryz.prog.cellsOf 3 = 1:=by kernel_rfl
theorem arrays {W:World} {φ:Phi} (h:laidMet Tryz.prog Rows.tidyShapesRow.laid W) (g:Nat) (cs:List AV) (hg:arrs g = some cs):Rep W W.heap.size φ (.rp cs) (.pointer (some ⟨g,0,none⟩)):=by
 have h1:laidMet Tryz.prog [("spindle/isa.arithmetic",Lib.tabData .i64 pArr3),("spindle/isa.compares",Lib.tabData .i64 pArr4),("spindle/isa.loads",Lib.tabData .i64 pArr1),("spindle/isa.stores",Lib.tabData .i64 pArr2),("spindle/isa.atomics",Lib.tabData .i64 pArr0)] W:=h
 have h2:=laidMet.tail h1
 have h3:=laidMet.tail h2
 have h4:=laidMet.tail h3
 have h5:=laidMet.tail h4
 have n0:Tryz.prog.globalNamed "spindle/isa.atomics" = some 0:=by kernel_rfl
 have n1:Tryz.prog.globalNamed "spindle/isa.loads" = some 1:=by kernel_rfl
 have n2:Tryz.prog.globalNamed "spindle/isa.stores" = some 2:=by kernel_rfl
 have n3:Tryz.prog.globalNamed "spindle/isa.arithmetic" = some 3:=by kernel_rfl
 have n4:Tryz.prog.globalNamed "spindle/isa.compares" = some 4:=by kernel_rfl
 have key:∀ {g:Nat} {name:String} {zs:List Int},Tryz.prog.globalNamed name = some g → 0 < zs.length → Lib.TabIs Tryz.prog W name .i64 zs → Rep W W.heap.size φ (.rp (zs.map VI)) (.pointer (some ⟨g,0,none⟩)):=by
  intro g name zs hn hz ht
  exact tab_rep (k:=.i64) (zs:=zs) (cell_plain (ht.cell hn 0 hz)).2 fun i hi=>ht.cell hn i hi
 unfold arrs at hg
 split at hg
 ·cases hg
  exact key n0 (by decide) (Lib.tabIs_of_head n0 (show (Tryz.prog.globals[0]?).map (·.type) = some 263 by kernel_rfl) Tryz.underlying263 Tryz.underlying3 cells3 (by kernel_rfl) h5)
 ·cases hg
  exact key n1 (by decide) (Lib.tabIs_of_head n1 (show (Tryz.prog.globals[1]?).map (·.type) = some 264 by kernel_rfl) Tryz.underlying264 Tryz.underlying3 cells3 (by kernel_rfl) h3)
 ·cases hg
  exact key n2 (by decide) (Lib.tabIs_of_head n2 (show (Tryz.prog.globals[2]?).map (·.type) = some 265 by kernel_rfl) Tryz.underlying265 Tryz.underlying3 cells3 (by kernel_rfl) h4)
 ·cases hg
  exact key n3 (by decide) (Lib.tabIs_of_head n3 (show (Tryz.prog.globals[3]?).map (·.type) = some 266 by kernel_rfl) Tryz.underlying266 Tryz.underlying3 cells3 (by kernel_rfl) h1)
 ·cases hg
  exact key n4 (by decide) (Lib.tabIs_of_head n4 (show (Tryz.prog.globals[4]?).map (·.type) = some 267 by kernel_rfl) Tryz.underlying267 Tryz.underlying3 cells3 (by kernel_rfl) h2)
 ·cases hg
noncomputable def ground (W:World) (h:laidMet Tryz.prog Rows.tidyShapesRow.laid W):Cx:=⟨Tryz.prog,W,W.heap.size,arrs,Nat.le_refl _,fun _ g cs hg=>arrays h g cs hg⟩
theorem contract (H:Type) (enc:TypeId × Value → H) (W:World) (base:Nat) (args:Array Value) (ds gs:List (DataW H)) (before:List MemPlace)
 (hval:∀ (j:Nat) t v,Tryz.f5.params[j]? = some t → args[j]? = some v → Value.okWide Tryz.prog W .any base t v)
 (hW:DataW.Whole enc Tryz.prog Tryz.f5.params.toList Rows.tidyShapesSpec.vars false W args.toList ds gs before) (hk:Rows.uptoSmall H (ds ++ gs) = true) (hL:laidMet Tryz.prog Rows.tidyShapesRow.laid W) :
 Calls Tryz.prog 5 args W fun e W'=>∃ v,e = .returned v ∧ Rows.tidyShapesSpec.post enc Tryz.prog Tryz.f5 false true false false W args v W':=by
 have hp:Tryz.f5.params.toList = [58]:=by rw [Tryz.params5]
 have hWc:=hW
 obtain ⟨p,q,hA,hV,hpq,hz,hn⟩:=hW
 rw [hp] at hA
 obtain ⟨v,vs1,d,ds1,a,c,hargs,rfl,hpac,h1,h2⟩:=ChangeShapes.trodAll_cons hA
 obtain ⟨rfl,rfl,rfl⟩:=ChangeShapes.trodAll_nil h2
 match gs,hV with
 | [],hV=>
 have hok:argOk Tryz.prog 4 58 = true:=by kernel_rfl
 obtain ⟨m,h3⟩:=h1
 have hfit:=trod_fits 4 58 m _ d a hok h3
 have hbulk:Rows.uptoBulk d ≤ 1048576:=by
  have:=of_decide_eq_true hk
  simp only [List.append_nil,Rows.uptoBulkAll] at this
  omega
 obtain ⟨tv,fv,bv,hav,r1,r2,r3,b1,b2,b3,b4,b5,f,hbv⟩:=fits_img hfit hbulk
 refine law_post (cx:=ground W hL) (n:=4) (b:=base) (tb:=4) (h0:=[]) rfl hWc rfl rfl laidOut ?_ ?_ (by kernel_rfl) Tryz.underlying4 hval ?_
 ·intro t ht
  have ht:t ∈ Tryz.f5.params.toList:=ht
  rw [hp] at ht
  obtain rfl:=List.mem_singleton.1 ht
  exact ⟨by kernel_rfl,of_decide_eq_true (by kernel_rfl)⟩
 ·intro t ht
  have ht:t ∈ Tryz.f5.params.toList:=ht
  rw [hp] at ht
  obtain rfl:=List.mem_singleton.1 ht
  exact hok
 ·have e1:avArgs (ground W hL).P 4 Tryz.f5.params.toList [d] = [.agg [tv,fv,bv,VI (dImg d).entry]]:=by
   rw [hp]
   show [avOf Tryz.prog 4 58 d] = _
   unfold avOf
   rw [Tryz.underlying58,hav]
  rw [e1]
  generalize dImg d = im at *
  by_cases h0:im.tables = []
  ·rw [h0] at hbv
   simp only [List.length_nil] at hbv
   subst hbv
   refine SimCall.empty fun A cap=>?_
   exact c5 rfl rfl r1 r2 (by rw [h0];exact ⟨.nl A cap,fun g=>rfl⟩) (by omega) (by omega) (by omega) (fun f hf=>by have:=b4 f hf;omega) (fun t ht=>by have:=b5 t ht;omega) rfl
  ·have hp:0 < im.tables.length:=List.length_pos_iff.2 h0
   have hno:xNo bv = some false:=by rw [hbv];exact if_pos hp
   exact c5 rfl rfl r1 r2 r3 (by omega) (by omega) (by omega) (fun f hf=>by have:=b4 f hf;omega) (fun t ht=>by have:=b5 t ht;omega) hno
def argsW:Array Value:=#[.agg #[.slice none 0 0,.slice none 0 0,.slice none 0 0,.int .i64 0]]
theorem reads (os:Os) {H:Type} (enc:TypeId × Value → H):∃ places,DataW.whole enc Tryz.prog ((World.doorLaid Tryz.prog 400 os).forCall (fun _ _=>0) ⟨#[],argsW,[]⟩).memory Tryz.f5.params.toList Rows.tidyShapesSpec.vars false argsW.toList 8 = some ([.agg [.nil,.nil,.nil,.lit (.int .i64 0)]],[],places):=
 ⟨[],by kernel_rfl⟩
theorem laid_met (os:Os):laidMet Tryz.prog Rows.tidyShapesUptoRow.laid ((World.doorLaid Tryz.prog 400 os).forCall (fun _ _=>0) ⟨#[],argsW,[]⟩).memory:=
 laidMet_of_run' 8 (by kernel_rfl) (by kernel_rfl)
theorem lifted (os:Os) (started:os.Started) (H:Type) (enc:TypeId × Value → H) (F:Stop.Interp) :
 ReturnsInHanded {} Tryz.checked os 5 .any ((Rows.OpenSpec.upto Rows.tidyShapesSpec).preRow enc Tryz.prog Tryz.f5 Rows.tidyShapesUptoRow.domain false Rows.tidyShapesUptoRow.laid) (((Rows.OpenSpec.upto Rows.tidyShapesSpec).at F).post enc Tryz.prog Tryz.f5 false true false false):=by
 obtain ⟨places,hx⟩:=reads os enc
 refine returnsInHanded_of_row (C:=Tryz.checked) (s:=Rows.OpenSpec.upto Rows.tidyShapesSpec) own started (by kernel_rfl) Tryz.func5
  (witness_row_at (enc:=enc) (C:=Tryz.checked) false (World.doorLaid Tryz.prog 400 os) argsW rfl (by kernel_rfl) (by kernel_rfl) (by kernel_rfl)
   (OpenSpec.preRow_of_cond 8 hx (by kernel_rfl) (fun k hk=>by cases hk;kernel_rfl) (by kernel_rfl) (laid_met os))) ?_
 intro W base args ds gs before hval hW _ hcond _ hL _ _
 exact contract H enc W base args ds gs before hval hW (hcond _ rfl) hL
theorem saidUpto:Rows.TidyShapesUptoSaid:=
 OpenClaim.holds_of_cond 5 Tryz.f5 rfl rfl rfl rfl rfl rfl rfl ⟨rfl,rfl,rfl,rfl,rfl⟩ rfl rfl rfl rfl rfl (by kernel_rfl) Tryz.func5 shClosed
  (of_decide_eq_true (by kernel_rfl)) (by unfold Func.isWrapper;first | (rw [if_pos (by decide +kernel)];kernel_rfl) | (rw [if_neg (by decide +kernel)];exact ⟨rfl,rfl⟩))
  (fun os started H enc _ F=>by rw [OpenClaim.pre_eq_preRow];exact lifted os started H enc F)
theorem plainly (f:FuncId) (fn:Func) (hf:Tryz.pinned.checked.prog.funcNamed "spindle/spindlelaw24.TidyShapes" = some f) (hfn:Tryz.pinned.checked.prog.funcs[f]? = some fn) :
 false = Tryz.pinned.checked.prog.looks [] ∧ ∀ (j:Nat) t,fn.params[j]? = some t → Tryz.pinned.checked.prog.wantsStandIn t = false:=by
 obtain rfl:f = 5:=Option.some.inj ((show Tryz.prog.funcNamed "spindle/spindlelaw24.TidyShapes" = some 5 by kernel_rfl).symm.trans hf) |>.symm
 obtain rfl:fn = Tryz.f5:=(Option.some.inj (Tryz.func5.symm.trans hfn)).symm
 refine ⟨by kernel_rfl,fun j t ht=>?_⟩
 rw [Tryz.params5] at ht
 obtain rfl:t = 58:=by simpa using Array.mem_of_getElem? ht
 exact (show Tryz.prog.wantsStandIn 58 = false by kernel_rfl)
theorem tidyShapes_upto:Rows.TidyShapesUptoCardSaid:=
 Claim7.holds_tied_plain_at .later [] _ _ _ _ saidUpto (fun _ h=>by cases h) (by kernel_rfl) (fun _ h=>by cases h) tidyShapesUpto_row_tie rfl ⟨rfl,rfl⟩ (by kernel_rfl) rfl plainly (by kernel_rfl)
#print axioms tidyShapes_upto
end Go.Proofs.YtbhdjfhhgnoiiaaGreatDoor

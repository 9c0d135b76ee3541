/- the top's law TopRows: for every input it returns true, and its input reads as before; the two tables of unicode/utf8 as the program's text lays them: the row, and the tied card -/
import Derived.Test.YtjpojeapdgjbhaaGreatDoorJ41
import Derived.Test.YtjpojeapdgjbhaaGreatDoorJ40
import Derived.Test.YtjpojeapdgjbhaaGreatDoorTie
import Derived.LaidMore
import Derived.Test.YtjpojeapdgjbhaaGreatDoorCards
set_option maxRecDepth 100000
set_option maxHeartbeats 1000000
namespace Go.Proofs.YtjpojeapdgjbhaaGreatDoor
open Go.ChangeShapes Go.WideShapes Go.RowKit
noncomputable def wit (os:Os):World:=(World.doorLaid Tryz.prog 24 os).layVars Tryz.prog [("unicode/utf8.first",Rows.laid_unicode_utf8_first)]
theorem wit_met (os:Os) (args:Array Value):laidMetH Tryz.prog Rows.topRowsRow.laid ((wit os).forCall (fun _ _=>0) ⟨#[],args,[]⟩).memory:=
 laidMetH_of_parts3 (fuel:=8) (laidMet_of_run' 8 (by kernel_rfl) (by kernel_rfl)) (by kernel_rfl) (by kernel_rfl)
theorem topRows_lifted (os:Os) (started:os.Started) (H:Type) (enc:TypeId×Value→H):
  ReturnsInHanded {} Tryz.checked os 3 .any (fun w args=>(Rows.topRowsSpec.pre enc Tryz.prog Tryz.f3 [] false w args∧laidMetH Tryz.prog Rows.topRowsRow.laid w)∧sizedMet enc Tryz.prog Tryz.f3 (OpenSpec.ofChange Rows.topRowsSpec) false w args)
   (Rows.topRowsSpec.post enc Tryz.prog Tryz.f3 false true false false):=by
 refine returnsInHanded_of_change_and (C:=Tryz.checked) (X:=fun w _=>laidMetH Tryz.prog Rows.topRowsRow.laid w) (fun _ _ _ hh h=>h.of_heap hh) own started (by kernel_rfl) Tryz.func3
  (ChangeSpec.witness_shaped (enc:=enc) (C:=Tryz.checked) (os:=os) (X:=fun w _=>laidMetH Tryz.prog Rows.topRowsRow.laid w) false (wit os) #[.agg #[.slice none 0 0,.slice none 0 0],.string ⟨#[]⟩] 8 ((World.layVars_os _ _ _).trans rfl)
   (World.shaped_of_ZipB (by kernel_rfl) (by kernel_rfl)) (by kernel_rfl) (by kernel_rfl) (by kernel_rfl)
   (wit_met os _)) ?_
 intro W base args ds gs before hval0 hW _ _ _ _;have hval:∀ (j:Nat) t v,Tryz.f3.params[j]? =some t→args[j]? =some v→Value.okWide Tryz.prog W .any base t v:=hval0;have hW':=hW;obtain ⟨p,q,hA0,hV,rfl,_,_⟩:=hW;have hA:DataW.TrodAll enc Tryz.prog W 0 (fun _=>true) true Tryz.f3.params.toList args.toList ds p:=hA0;have hlt:=DataW.TrodAll.lt hA0;rw [Tryz.params3]at hA hval;obtain ⟨v1,v2,d1,d2,p1,p2,rfl,rfl,rfl,h1,h2⟩:=open_2 hA;obtain ⟨rfl,rfl⟩:=trodVars_none hV;have k1:=h1;obtain ⟨sa1,wa1,S1,L1,sc1,wc1,rfl,hS1,hL1⟩:=open_Plan (hval 0 25 v1 rfl rfl) h1;have k2:=h2;obtain ⟨s2,rfl,m2⟩:=open_Text (hval 1 9 v2 rfl rfl) h2;simp only [List.append_nil]at hW';refine(topRows_walk W sa1 wa1 S1 L1 sc1 wc1 s2 hS1 hL1).mono fun e W' ⟨he,hb⟩=>?_;subst he;exact⟨_,rfl,_,_,_,_,_,_,hW',trodAll_mk1 (shut_bool Tryz.underlying4 true),⟨_,_,Below.trod laidOut (by kernel_rfl) (of_decide_eq_true (by kernel_rfl)) k1 hb (fun x hx=>hlt x (by simp [hx])),⟨_,_,Below.trod laidOut (by kernel_rfl) (of_decide_eq_true (by kernel_rfl)) k2 hb (fun x hx=>hlt x (by simp [hx])),rfl,rfl⟩,rfl⟩,rfl,hb.frame _,fun h=>by cases h⟩
theorem topRows_f1:Tryz.checked.prog.funcNamed Rows.topRowsRow.func=some 3:=by kernel_rfl
theorem topRows_f2:joinedFacts Tryz.checked.prog 3 Tryz.f3 Rows.topRowsSpec Rows.topRowsRow=true:=by kernel_rfl
theorem topRows_f3:Tryz.f3.isInstance Tryz.checked.prog Rows.topRowsRow.origin Rows.topRowsRow.targs:=of_decide_eq_true (by kernel_rfl)
theorem topRows_f4:Tryz.f3.isWrapper Tryz.checked.prog Rows.topRowsRow.wrapper Rows.topRowsRow.mainSum:=by unfold Func.isWrapper;first | (rw [if_pos (by decide+kernel)];kernel_rfl) | (rw [if_neg (by decide+kernel)];exact⟨rfl,rfl⟩)
theorem topRows_holds:Rows.TopRowsSaid:=
 OpenClaim.holds_of_wide 3 Tryz.f3 rfl rfl rfl rfl rfl rfl rfl ⟨rfl,rfl,rfl,rfl,rfl⟩ rfl rfl rfl rfl rfl topRows_f1 Tryz.func3 topRows_f2 topRows_f3 topRows_f4
  (fun os started H enc _=>topRows_lifted os started H enc)
theorem topRows_card:Rows.TopRowsCardSaid:=
 Claim7.holds_tied_plain_at .later [] [.data,.funcs,.pinned] true Rows.topRowsCard.stood.harness false
  topRows_holds (fun _ h=>by cases h) (by kernel_rfl) (fun _ h=>by cases h) topRows_row_tie rfl ⟨rfl,rfl⟩ (by kernel_rfl) rfl
  (fun f fn hf hfn=>by
   obtain rfl:f=3:=Option.some.inj ((show Tryz.prog.funcNamed Rows.topRowsRow.func=some 3 by kernel_rfl).symm.trans hf)|>.symm;obtain rfl:fn=Tryz.f3:=(Option.some.inj (Tryz.func3.symm.trans hfn)).symm;exact⟨by kernel_rfl,fun j t ht=>by
    rw [Tryz.params3]at ht;have hm:t∈([25,9]:List Nat):=(by simpa using Array.mem_of_getElem? ht);have hall:(([25,9]:List Nat).all fun u=> !Tryz.prog.wantsStandIn u)=true:=(by kernel_rfl);exact(show Tryz.prog.wantsStandIn t=false by simpa using List.all_eq_true.1 hall t hm)⟩)
  (by kernel_rfl)
end Go.Proofs.YtjpojeapdgjbhaaGreatDoor

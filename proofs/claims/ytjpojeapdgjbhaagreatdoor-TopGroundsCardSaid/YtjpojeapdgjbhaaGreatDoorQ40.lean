/- the top's law TopGrounds: for every input it returns true, and its input reads as before; the two tables of unicode/utf8 as the program's text lays them: the row, and the tied card -/
import Derived.Test.YtjpojeapdgjbhaaGreatDoorQ37
import Derived.Test.YtjpojeapdgjbhaaGreatDoorQ38
import Derived.Test.YtjpojeapdgjbhaaGreatDoorTie
import Derived.Test.YtjpojeapdgjbhaaGreatDoorQ39
import Derived.Test.YtjpojeapdgjbhaaGreatDoorCards
set_option maxRecDepth 100000
set_option maxHeartbeats 1000000
namespace Go.Proofs.YtjpojeapdgjbhaaGreatDoor
open Go.ChangeShapes Go.WideShapes Go.RowKit
noncomputable def wit (os:Os):World:=(World.doorLaid Tryz.prog 24 os).layVars Tryz.prog [("unicode/utf8.first",Rows.laid_unicode_utf8_first)]
theorem wit_met (os:Os) (args:Array Value):laidMetH Tryz.prog Rows.topGroundsRow.laid ((wit os).forCall (fun _ _=>0) ⟨#[],args,[]⟩).memory:=
 laidMetH_of_parts3 (fuel:=8) (laidMet_of_run' 8 (by kernel_rfl) (by kernel_rfl)) (by kernel_rfl) (by kernel_rfl)
theorem topGrounds_lifted (os:Os) (started:os.Started) (H:Type) (enc:TypeId×Value→H):
  ReturnsInHanded {} Tryz.checked os 4 .any (fun w args=>(Rows.topGroundsSpec.pre enc Tryz.prog Tryz.f4 [] false w args∧laidMetH Tryz.prog Rows.topGroundsRow.laid w)∧sizedMet enc Tryz.prog Tryz.f4 (OpenSpec.ofChange Rows.topGroundsSpec) false w args)
   (Rows.topGroundsSpec.post enc Tryz.prog Tryz.f4 false true false false):=by
 refine returnsInHanded_of_change_and (C:=Tryz.checked) (X:=fun w _=>laidMetH Tryz.prog Rows.topGroundsRow.laid w) (fun _ _ _ hh h=>h.of_heap hh) own started (by kernel_rfl) Tryz.func4
  (ChangeSpec.witness_shaped (enc:=enc) (C:=Tryz.checked) (os:=os) (X:=fun w _=>laidMetH Tryz.prog Rows.topGroundsRow.laid w) false (wit os) #[.slice none 0 0,.int .i64 0,.int .u8 0,.int .u8 0,.int .u16 0] 8 ((World.layVars_os _ _ _).trans rfl)
   (World.shaped_of_ZipB (by kernel_rfl) (by kernel_rfl)) (by kernel_rfl) (by kernel_rfl) (by kernel_rfl)
   (wit_met os _)) ?_
 intro W base args ds gs before hval0 hW _ _ hX _;have hval:∀ (j:Nat) t v,Tryz.f4.params[j]? =some t→args[j]? =some v→Value.okWide Tryz.prog W .any base t v:=hval0;have hW':=hW;obtain ⟨p,q,hA0,hV,rfl,_,_⟩:=hW;have hA:DataW.TrodAll enc Tryz.prog W 0 (fun _=>true) true Tryz.f4.params.toList args.toList ds p:=hA0;have hlt:=DataW.TrodAll.lt hA0;rw [Tryz.params4]at hA hval;obtain ⟨v1,v2,v3,v4,v5,d1,d2,d3,d4,d5,p1,p2,p3,p4,p5,rfl,rfl,rfl,h1,h2,h3,h4,h5⟩:=open_5 hA;obtain ⟨rfl,rfl⟩:=trodVars_none hV;have k1:=h1;obtain ⟨a1,l1,c1,rfl,hs1,hb1⟩:=open_Pts (hval 0 59 v1 rfl rfl) h1;obtain ⟨N2,rfl,rfl,rfl,hN2,r2⟩:=open_int_ (hval 1 3 v2 rfl rfl) h2;obtain ⟨N3,rfl,rfl,rfl,hN3,r3⟩:=open_u8 (hval 2 5 v3 rfl rfl) h3;obtain ⟨N4,rfl,rfl,rfl,hN4,r4⟩:=open_u8 (hval 3 5 v4 rfl rfl) h4;obtain ⟨N5,rfl,rfl,rfl,hN5,r5⟩:=open_u16 (hval 4 60 v5 rfl rfl) h5;simp only [List.append_nil]at hW';have hG:=ways_of hX;refine(topGrounds_walk W a1 l1.length c1 l1 N2 N3 N4 N5 hs1 hG (by omega) (by omega) (by omega) (by omega)).mono fun e W' ⟨he,hb⟩=>?_;subst he;exact⟨_,rfl,_,_,_,_,_,_,hW',trodAll_mk1 (shut_bool Tryz.underlying4 true),⟨_,_,Below.trod laidOut (by kernel_rfl) (of_decide_eq_true (by kernel_rfl)) k1 hb (fun x hx=>hlt x (by simp [hx])),⟨[],_,r2 _ _,⟨[],_,r3 _ _,⟨[],_,r4 _ _,⟨[],_,r5 _ _,rfl,rfl⟩,rfl⟩,rfl⟩,rfl⟩,rfl⟩,rfl,hb.frame _,fun h=>by cases h⟩
theorem topGrounds_f1:Tryz.checked.prog.funcNamed Rows.topGroundsRow.func=some 4:=by kernel_rfl
theorem topGrounds_f2:joinedFacts Tryz.checked.prog 4 Tryz.f4 Rows.topGroundsSpec Rows.topGroundsRow=true:=by kernel_rfl
theorem topGrounds_f3:Tryz.f4.isInstance Tryz.checked.prog Rows.topGroundsRow.origin Rows.topGroundsRow.targs:=of_decide_eq_true (by kernel_rfl)
theorem topGrounds_f4:Tryz.f4.isWrapper Tryz.checked.prog Rows.topGroundsRow.wrapper Rows.topGroundsRow.mainSum:=by unfold Func.isWrapper;first | (rw [if_pos (by decide+kernel)];kernel_rfl) | (rw [if_neg (by decide+kernel)];exact⟨rfl,rfl⟩)
theorem topGrounds_holds:Rows.TopGroundsSaid:=
 OpenClaim.holds_of_wide 4 Tryz.f4 rfl rfl rfl rfl rfl rfl rfl ⟨rfl,rfl,rfl,rfl,rfl⟩ rfl rfl rfl rfl rfl topGrounds_f1 Tryz.func4 topGrounds_f2 topGrounds_f3 topGrounds_f4
  (fun os started H enc _=>topGrounds_lifted os started H enc)
theorem topGrounds_card:Rows.TopGroundsCardSaid:=
 Claim7.holds_tied_plain_at .later [] [.data,.funcs,.pinned] true Rows.topGroundsCard.stood.harness false
  topGrounds_holds (fun _ h=>by cases h) (by kernel_rfl) (fun _ h=>by cases h) topGrounds_row_tie rfl ⟨rfl,rfl⟩ (by kernel_rfl) rfl
  (fun f fn hf hfn=>by
   obtain rfl:f=4:=Option.some.inj ((show Tryz.prog.funcNamed Rows.topGroundsRow.func=some 4 by kernel_rfl).symm.trans hf)|>.symm;obtain rfl:fn=Tryz.f4:=(Option.some.inj (Tryz.func4.symm.trans hfn)).symm;exact⟨by kernel_rfl,fun j t ht=>by
    rw [Tryz.params4]at ht;have hm:t∈([59,3,5,5,60]:List Nat):=(by simpa using Array.mem_of_getElem? ht);have hall:(([59,3,5,5,60]:List Nat).all fun u=> !Tryz.prog.wantsStandIn u)=true:=(by kernel_rfl);exact(show Tryz.prog.wantsStandIn t=false by simpa using List.all_eq_true.1 hall t hm)⟩)
  (by kernel_rfl)
end Go.Proofs.YtjpojeapdgjbhaaGreatDoor

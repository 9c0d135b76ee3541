/- the law HillBest: for every input it returns true, and its input reads as before; the two tables of unicode/utf8 as the program's text lays them: the row, and the tied card -/
import Derived.Test.YthmdhlopeponcaaGreatDoorK46
import Derived.Test.YthmdhlopeponcaaGreatDoorK28
import Derived.Test.YthmdhlopeponcaaGreatDoorTie
import Derived.Test.YthmdhlopeponcaaGreatDoorCards
set_option maxRecDepth 100000
set_option maxHeartbeats 1000000
namespace Go.Proofs.YthmdhlopeponcaaGreatDoor
open Go.ChangeShapes Go.WideShapes Go.RowKit
theorem hillBest_lifted (os:Os) (started:os.Started) (H:Type) (enc:TypeId×Value->H):
  ReturnsInHanded {} Tryz.checked os 5 .any (fun w args=>(Rows.hillBestSpec.pre enc Tryz.prog Tryz.f5 [] false w args/\laidMetH Tryz.prog Rows.hillBestRow.laid w)/\sizedMet enc Tryz.prog Tryz.f5 (OpenSpec.ofChange Rows.hillBestSpec) false w args)
   (Rows.hillBestSpec.post enc Tryz.prog Tryz.f5 false true false false):=by
 refine returnsInHanded_of_change_and (C:=Tryz.checked) (X:=fun w _=>laidMetH Tryz.prog Rows.hillBestRow.laid w) (fun _ _ _ hh h=>h.of_heap hh) own started (by kernel_rfl) Tryz.func5
  (ChangeSpec.witness_shaped (enc:=enc) (C:=Tryz.checked) (os:=os) (X:=fun w _=>laidMetH Tryz.prog Rows.hillBestRow.laid w) false (World.laidAll Tryz.prog os Rows.hillBestRow.laid) #[.slice none 0 0,.int .i64 0,.int .i64 0,.int .i64 0,.int .i64 0,.int .i64 0,.int .i64 0] 8 (World.laidAll_os _ _ _)
   (World.shaped_of_ZipB (by kernel_rfl) (by kernel_rfl)) (by kernel_rfl) (by kernel_rfl) (by kernel_rfl)
   (by rw [MakeChecks.laidMetH_plain _ _ _ (by kernel_rfl)];exact laidMet_laidAll _ (by kernel_rfl) (by kernel_rfl))) ?_
 intro W base args ds gs before hval0 hW _ _ _ _;have hval:∀ (j:Nat) t v,Tryz.f5.params[j]? =some t->args[j]? =some v->Value.okWide Tryz.prog W .any base t v:=hval0;have hW':=hW;obtain ⟨p,q,AA,hV,rfl,_,_⟩:=hW;have hA:DataW.TrodAll enc Tryz.prog W 0 (fun _=>true) true Tryz.f5.params.toList args.toList ds p:=AA;have hlt:=DataW.TrodAll.lt AA;rw [Tryz.params5]at hA hval;obtain ⟨v1,v2,v3,v4,v5,v6,v7,d1,d2,d3,d4,d5,d6,d7,p1,p2,p3,p4,p5,p6,p7,rfl,rfl,rfl,h1,h2,h3,h4,h5,h6,h7⟩:=open_7 hA;obtain ⟨rfl,rfl⟩:=trodVars_none hV;have k1:=h1;obtain ⟨a1,l1,c1,rfl,hs1,hb1⟩:=open_Pts (hval 0 22 v1 rfl rfl) h1;obtain ⟨N2,rfl,rfl,rfl,AB,r2⟩:=open_int_ (hval 1 3 v2 rfl rfl) h2;obtain ⟨N3,rfl,rfl,rfl,AC,r3⟩:=open_int_ (hval 2 3 v3 rfl rfl) h3;obtain ⟨N4,rfl,rfl,rfl,AD,r4⟩:=open_int_ (hval 3 3 v4 rfl rfl) h4;obtain ⟨N5,rfl,rfl,rfl,AE,r5⟩:=open_int_ (hval 4 3 v5 rfl rfl) h5;obtain ⟨N6,rfl,rfl,rfl,AF,r6⟩:=open_int_ (hval 5 3 v6 rfl rfl) h6;obtain ⟨N7,rfl,rfl,rfl,AG,r7⟩:=open_int_ (hval 6 3 v7 rfl rfl) h7;simp only [List.append_nil]at hW';refine(hillBest_walk W a1 l1.length c1 l1 N2 N3 N4 N5 N6 N7 hs1).mono fun e W' ⟨he,hb⟩=>?_;subst he;exact⟨_,rfl,_,_,_,_,_,_,hW',trodAll_mk1 (shut_bool Tryz.underlying4 true),⟨_,_,Below.trod laidOut (by kernel_rfl) (of_decide_eq_true (by kernel_rfl)) k1 hb (fun x hx=>hlt x (by simp [hx])),⟨[],_,r2 _ _,⟨[],_,r3 _ _,⟨[],_,r4 _ _,⟨[],_,r5 _ _,⟨[],_,r6 _ _,⟨[],_,r7 _ _,rfl,rfl⟩,rfl⟩,rfl⟩,rfl⟩,rfl⟩,rfl⟩,rfl⟩,rfl,hb.frame _,fun h=>by cases h⟩
theorem hillBest_f1:Tryz.checked.prog.funcNamed Rows.hillBestRow.func=some 5:=by kernel_rfl
theorem hillBest_f2:joinedFacts Tryz.checked.prog 5 Tryz.f5 Rows.hillBestSpec Rows.hillBestRow=true:=by kernel_rfl
theorem hillBest_f3:Tryz.f5.isInstance Tryz.checked.prog Rows.hillBestRow.origin Rows.hillBestRow.targs:=of_decide_eq_true (by kernel_rfl)
theorem hillBest_f4:Tryz.f5.isWrapper Tryz.checked.prog Rows.hillBestRow.wrapper Rows.hillBestRow.mainSum:=by unfold Func.isWrapper;first | (rw [if_pos (by decide+kernel)];kernel_rfl) | (rw [if_neg (by decide+kernel)];exact⟨rfl,rfl⟩)
theorem hillBest_holds:Rows.HillBestSaid:=
 OpenClaim.holds_of_wide 5 Tryz.f5 rfl rfl rfl rfl rfl rfl rfl ⟨rfl,rfl,rfl,rfl,rfl⟩ rfl rfl rfl rfl rfl hillBest_f1 Tryz.func5 hillBest_f2 hillBest_f3 hillBest_f4
  (fun os started H enc _=>hillBest_lifted os started H enc)
theorem hillBest_card:Rows.HillBestCardSaid:=
 Claim7.holds_tied_plain_at .later [] [.data,.pinned] true Rows.hillBestCard.stood.harness false
  hillBest_holds (fun _ h=>by cases h) (by kernel_rfl) (fun _ h=>by cases h) hillBest_row_tie rfl ⟨rfl,rfl⟩ (by kernel_rfl) rfl
  (fun f fn hf hfn=>by
   obtain rfl:f=5:=Option.some.inj ((show Tryz.prog.funcNamed Rows.hillBestRow.func=some 5 by kernel_rfl).symm.trans hf)|>.symm;obtain rfl:fn=Tryz.f5:=(Option.some.inj (Tryz.func5.symm.trans hfn)).symm;exact⟨by kernel_rfl,fun j t ht=>by
    rw [Tryz.params5]at ht;have hm:t∈([22,3,3,3,3,3,3]:List Nat):=(by simpa using Array.mem_of_getElem? ht);have hall:(([22,3,3,3,3,3,3]:List Nat).all fun u=> !Tryz.prog.wantsStandIn u)=true:=(by kernel_rfl);exact(show Tryz.prog.wantsStandIn t=false by simpa using List.all_eq_true.1 hall t hm)⟩)
  (by kernel_rfl)
end Go.Proofs.YthmdhlopeponcaaGreatDoor

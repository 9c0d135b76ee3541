/- the law HillAreas: for every input it returns true, and its input reads as before; the two tables of unicode/utf8 as the program's text lays them: the row, and the tied card -/
import Derived.Test.YthmdhlopeponcaaGreatDoorJA0
import Derived.Test.YthmdhlopeponcaaGreatDoorJ31
import Derived.Test.YthmdhlopeponcaaGreatDoorTie
import Derived.Test.YthmdhlopeponcaaGreatDoorCards
set_option maxRecDepth 100000
set_option maxHeartbeats 1000000
namespace Go.Proofs.YthmdhlopeponcaaGreatDoor
open Go.ChangeShapes Go.WideShapes Go.RowKit
theorem hillAreas_lifted (os:Os) (started:os.Started) (H:Type) (enc:TypeId×Value->H):
  ReturnsInHanded {} Tryz.checked os 11 .any (fun w args=>(Rows.hillAreasSpec.pre enc Tryz.prog Tryz.f11 [] false w args/\laidMetH Tryz.prog Rows.hillAreasRow.laid w)/\sizedMet enc Tryz.prog Tryz.f11 (OpenSpec.ofChange Rows.hillAreasSpec) false w args)
   (Rows.hillAreasSpec.post enc Tryz.prog Tryz.f11 false true false false):=by
 refine returnsInHanded_of_change_and (C:=Tryz.checked) (X:=fun w _=>laidMetH Tryz.prog Rows.hillAreasRow.laid w) (fun _ _ _ hh h=>h.of_heap hh) own started (by kernel_rfl) Tryz.func11
  (ChangeSpec.witness_shaped (enc:=enc) (C:=Tryz.checked) (os:=os) (X:=fun w _=>laidMetH Tryz.prog Rows.hillAreasRow.laid w) false (World.laidAll Tryz.prog os Rows.hillAreasRow.laid) #[.slice none 0 0,.int .i64 0,.int .i64 0,.int .i64 0] 8 (World.laidAll_os _ _ _)
   (World.shaped_of_ZipB (by kernel_rfl) (by kernel_rfl)) (by kernel_rfl) (by kernel_rfl) (by kernel_rfl)
   (by rw [MakeChecks.laidMetH_plain _ _ _ (by kernel_rfl)];exact laidMet_laidAll _ (by kernel_rfl) (by kernel_rfl))) ?_
 intro W base args ds gs before hval0 hW _ _ _ _
 have hval:∀ (j:Nat) t v,Tryz.f11.params[j]? =some t->args[j]? =some v->Value.okWide Tryz.prog W .any base t v:=hval0
 have hW':=hW
 obtain ⟨p,q,hA0,hV,rfl,_,_⟩:=hW
 have hA:DataW.TrodAll enc Tryz.prog W 0 (fun _=>true) true Tryz.f11.params.toList args.toList ds p:=hA0
 have hlt:=DataW.TrodAll.lt hA0
 rw [Tryz.params11]at hA hval
 obtain ⟨v1,v2,v3,v4,d1,d2,d3,d4,p1,p2,p3,p4,rfl,rfl,rfl,h1,h2,h3,h4⟩:=open_4 hA
 obtain ⟨rfl,rfl⟩:=trodVars_none hV
 have k1:=h1
 obtain ⟨a1,l1,c1,rfl,hs1,hb1⟩:=open_Pts (hval 0 22 v1 rfl rfl) h1
 obtain ⟨N2,rfl,rfl,rfl,hN2,r2⟩:=open_int_ (hval 1 3 v2 rfl rfl) h2
 obtain ⟨N3,rfl,rfl,rfl,hN3,r3⟩:=open_int_ (hval 2 3 v3 rfl rfl) h3
 obtain ⟨N4,rfl,rfl,rfl,hN4,r4⟩:=open_int_ (hval 3 3 v4 rfl rfl) h4
 simp only [List.append_nil]at hW'
 refine(hillAreas_walk W a1 l1.length c1 l1 N2 N3 N4 hs1).mono fun e W' ⟨he,hb⟩=>?_
 subst he
 exact⟨_,rfl,_,_,_,_,_,_,hW',trodAll_mk1 (shut_bool Tryz.underlying4 true),⟨_,_,Below.trod laidOut (by kernel_rfl) (of_decide_eq_true (by kernel_rfl)) k1 hb (fun x hx=>hlt x (by simp [hx])),⟨[],_,r2 _ _,⟨[],_,r3 _ _,⟨[],_,r4 _ _,rfl,rfl⟩,rfl⟩,rfl⟩,rfl⟩,rfl,hb.frame _,fun h=>by cases h⟩
theorem hillAreas_f1:Tryz.checked.prog.funcNamed Rows.hillAreasRow.func=some 11:=by kernel_rfl
theorem hillAreas_f2:joinedFacts Tryz.checked.prog 11 Tryz.f11 Rows.hillAreasSpec Rows.hillAreasRow=true:=by kernel_rfl
theorem hillAreas_f3:Tryz.f11.isInstance Tryz.checked.prog Rows.hillAreasRow.origin Rows.hillAreasRow.targs:=of_decide_eq_true (by kernel_rfl)
theorem hillAreas_f4:Tryz.f11.isWrapper Tryz.checked.prog Rows.hillAreasRow.wrapper Rows.hillAreasRow.mainSum:=by unfold Func.isWrapper;first | (rw [if_pos (by decide+kernel)];kernel_rfl) | (rw [if_neg (by decide+kernel)];exact⟨rfl,rfl⟩)
theorem hillAreas_holds:Rows.HillAreasSaid:=
 OpenClaim.holds_of_wide 11 Tryz.f11 rfl rfl rfl rfl rfl rfl rfl ⟨rfl,rfl,rfl,rfl,rfl⟩ rfl rfl rfl rfl rfl hillAreas_f1 Tryz.func11 hillAreas_f2 hillAreas_f3 hillAreas_f4
  (fun os started H enc _=>hillAreas_lifted os started H enc)
theorem hillAreas_card:Rows.HillAreasCardSaid:=
 Claim7.holds_tied_plain_at .later [] [.data,.pinned] true Rows.hillAreasCard.stood.harness false
  hillAreas_holds (fun _ h=>by cases h) (by kernel_rfl) (fun _ h=>by cases h) hillAreas_row_tie rfl ⟨rfl,rfl⟩ (by kernel_rfl) rfl
  (fun f fn hf hfn=>by
   obtain rfl:f=11:=Option.some.inj ((show Tryz.prog.funcNamed Rows.hillAreasRow.func=some 11 by kernel_rfl).symm.trans hf)|>.symm
   obtain rfl:fn=Tryz.f11:=(Option.some.inj (Tryz.func11.symm.trans hfn)).symm
   exact⟨by kernel_rfl,fun j t ht=>by
    rw [Tryz.params11]at ht
    have hm:t∈([22,3,3,3]:List Nat):=by simpa using Array.mem_of_getElem? ht
    have hall:(([22,3,3,3]:List Nat).all fun u=> !Tryz.prog.wantsStandIn u)=true:=by kernel_rfl
    exact(show Tryz.prog.wantsStandIn t=false by simpa using List.all_eq_true.1 hall t hm)⟩)
  (by kernel_rfl)
end Go.Proofs.YthmdhlopeponcaaGreatDoor

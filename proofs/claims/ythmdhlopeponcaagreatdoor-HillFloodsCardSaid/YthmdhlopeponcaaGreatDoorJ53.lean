/- the law HillFloods: for every input it returns true, and its input reads as before; the two tables of unicode/utf8 as the program's text lays them: the row, and the tied card -/
import Derived.Test.YthmdhlopeponcaaGreatDoorJ52
import Derived.Test.YthmdhlopeponcaaGreatDoorJ31
import Derived.Test.YthmdhlopeponcaaGreatDoorTie
import Derived.Test.YthmdhlopeponcaaGreatDoorCards
set_option maxRecDepth 100000
set_option maxHeartbeats 1000000
namespace Go.Proofs.YthmdhlopeponcaaGreatDoor
open Go.ChangeShapes Go.WideShapes Go.RowKit
theorem hillFloods_lifted (os:Os) (started:os.Started) (H:Type) (enc:TypeId×Value->H):
  ReturnsInHanded {} Tryz.checked os 7 .any (fun w args=>(Rows.hillFloodsSpec.pre enc Tryz.prog Tryz.f7 [] false w args/\laidMetH Tryz.prog Rows.hillFloodsRow.laid w)/\sizedMet enc Tryz.prog Tryz.f7 (OpenSpec.ofChange Rows.hillFloodsSpec) false w args)
   (Rows.hillFloodsSpec.post enc Tryz.prog Tryz.f7 false true false false):=by
 refine returnsInHanded_of_change_and (C:=Tryz.checked) (X:=fun w _=>laidMetH Tryz.prog Rows.hillFloodsRow.laid w) (fun _ _ _ hh h=>h.of_heap hh) own started (by kernel_rfl) Tryz.func7
  (ChangeSpec.witness_shaped (enc:=enc) (C:=Tryz.checked) (os:=os) (X:=fun w _=>laidMetH Tryz.prog Rows.hillFloodsRow.laid w) false (World.laidAll Tryz.prog os Rows.hillFloodsRow.laid) #[.slice none 0 0,.int .i64 0,.int .i64 0,.int .i64 0] 8 (World.laidAll_os _ _ _)
   (World.shaped_of_ZipB (by kernel_rfl) (by kernel_rfl)) (by kernel_rfl) (by kernel_rfl) (by kernel_rfl)
   (by rw [MakeChecks.laidMetH_plain _ _ _ (by kernel_rfl)];exact laidMet_laidAll _ (by kernel_rfl) (by kernel_rfl))) ?_
 intro W base args ds gs before hval0 hW _ _ _ _
 have hval:∀ (j:Nat) t v,Tryz.f7.params[j]? =some t->args[j]? =some v->Value.okWide Tryz.prog W .any base t v:=hval0
 have hW':=hW
 obtain ⟨p,q,hA0,hV,rfl,_,_⟩:=hW
 have hA:DataW.TrodAll enc Tryz.prog W 0 (fun _=>true) true Tryz.f7.params.toList args.toList ds p:=hA0
 have hlt:=DataW.TrodAll.lt hA0
 rw [Tryz.params7]at hA hval
 obtain ⟨v1,v2,v3,v4,d1,d2,d3,d4,p1,p2,p3,p4,rfl,rfl,rfl,h1,h2,h3,h4⟩:=open_4 hA
 obtain ⟨rfl,rfl⟩:=trodVars_none hV
 have k1:=h1
 obtain ⟨a1,l1,c1,rfl,hs1,hb1⟩:=open_Pts (hval 0 22 v1 rfl rfl) h1
 obtain ⟨N2,rfl,rfl,rfl,hN2,r2⟩:=open_int_ (hval 1 3 v2 rfl rfl) h2
 obtain ⟨N3,rfl,rfl,rfl,hN3,r3⟩:=open_int_ (hval 2 3 v3 rfl rfl) h3
 obtain ⟨N4,rfl,rfl,rfl,hN4,r4⟩:=open_i64_ (hval 3 2 v4 rfl rfl) h4
 simp only [List.append_nil]at hW'
 refine(hillFloods_walk W a1 l1.length c1 l1 N2 N3 N4 hs1 hN4).mono fun e W' ⟨he,hb⟩=>?_
 subst he
 exact⟨_,rfl,_,_,_,_,_,_,hW',trodAll_mk1 (shut_bool Tryz.underlying4 true),⟨_,_,Below.trod laidOut (by kernel_rfl) (of_decide_eq_true (by kernel_rfl)) k1 hb (fun x hx=>hlt x (by simp [hx])),⟨[],_,r2 _ _,⟨[],_,r3 _ _,⟨[],_,r4 _ _,rfl,rfl⟩,rfl⟩,rfl⟩,rfl⟩,rfl,hb.frame _,fun h=>by cases h⟩
theorem hillFloods_f1:Tryz.checked.prog.funcNamed Rows.hillFloodsRow.func=some 7:=by kernel_rfl
theorem hillFloods_f2:joinedFacts Tryz.checked.prog 7 Tryz.f7 Rows.hillFloodsSpec Rows.hillFloodsRow=true:=by kernel_rfl
theorem hillFloods_f3:Tryz.f7.isInstance Tryz.checked.prog Rows.hillFloodsRow.origin Rows.hillFloodsRow.targs:=of_decide_eq_true (by kernel_rfl)
theorem hillFloods_f4:Tryz.f7.isWrapper Tryz.checked.prog Rows.hillFloodsRow.wrapper Rows.hillFloodsRow.mainSum:=by unfold Func.isWrapper;first | (rw [if_pos (by decide+kernel)];kernel_rfl) | (rw [if_neg (by decide+kernel)];exact⟨rfl,rfl⟩)
theorem hillFloods_holds:Rows.HillFloodsSaid:=
 OpenClaim.holds_of_wide 7 Tryz.f7 rfl rfl rfl rfl rfl rfl rfl ⟨rfl,rfl,rfl,rfl,rfl⟩ rfl rfl rfl rfl rfl hillFloods_f1 Tryz.func7 hillFloods_f2 hillFloods_f3 hillFloods_f4
  (fun os started H enc _=>hillFloods_lifted os started H enc)
theorem hillFloods_card:Rows.HillFloodsCardSaid:=
 Claim7.holds_tied_plain_at .later [] [.data,.pinned] true Rows.hillFloodsCard.stood.harness false
  hillFloods_holds (fun _ h=>by cases h) (by kernel_rfl) (fun _ h=>by cases h) hillFloods_row_tie rfl ⟨rfl,rfl⟩ (by kernel_rfl) rfl
  (fun f fn hf hfn=>by
   obtain rfl:f=7:=Option.some.inj ((show Tryz.prog.funcNamed Rows.hillFloodsRow.func=some 7 by kernel_rfl).symm.trans hf)|>.symm
   obtain rfl:fn=Tryz.f7:=(Option.some.inj (Tryz.func7.symm.trans hfn)).symm
   exact⟨by kernel_rfl,fun j t ht=>by
    rw [Tryz.params7]at ht
    have hm:t∈([22,3,3,2]:List Nat):=by simpa using Array.mem_of_getElem? ht
    have hall:(([22,3,3,2]:List Nat).all fun u=> !Tryz.prog.wantsStandIn u)=true:=by kernel_rfl
    exact(show Tryz.prog.wantsStandIn t=false by simpa using List.all_eq_true.1 hall t hm)⟩)
  (by kernel_rfl)
end Go.Proofs.YthmdhlopeponcaaGreatDoor

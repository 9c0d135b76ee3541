/- the law HillCheapest: for every input it returns true, and its input reads as before; the two tables of unicode/utf8 as the program's text lays them: the row, and the tied card -/
import Derived.Test.YthmdhlopeponcaaGreatDoorJ53
import Derived.Test.YthmdhlopeponcaaGreatDoorJ37
import Derived.Test.YthmdhlopeponcaaGreatDoorTie
import Derived.Test.YthmdhlopeponcaaGreatDoorCards
namespace Go.Proofs.YthmdhlopeponcaaGreatDoor
open Go.ChangeShapes Go.WideShapes Go.RowKit
set_option maxRecDepth 100000 in
theorem hillCheapest_lifted (os:Os) (started:os.Started) (H:Type) (enc:TypeId×Value→H):
  ReturnsInHanded {} Tryz.checked os 15 .any (fun w args=>(Rows.hillCheapestSpec.pre enc Tryz.prog Tryz.f15 [] false w args∧laidMetH Tryz.prog Rows.hillCheapestRow.laid w)∧sizedMet enc Tryz.prog Tryz.f15 (OpenSpec.ofChange Rows.hillCheapestSpec) false w args)
   (Rows.hillCheapestSpec.post enc Tryz.prog Tryz.f15 false true false false):=by
 refine returnsInHanded_of_change_and (C:=Tryz.checked) (X:=fun w _=>laidMetH Tryz.prog Rows.hillCheapestRow.laid w) (fun _ _ _ hh h=>h.of_heap hh) own started (by kernel_rfl) Tryz.func15
  (ChangeSpec.witness_shaped (enc:=enc) (C:=Tryz.checked) (os:=os) (X:=fun w _=>laidMetH Tryz.prog Rows.hillCheapestRow.laid w) false (World.laidAll Tryz.prog os Rows.hillCheapestRow.laid) #[.slice none 0 0,.int .i64 0,.int .i64 0,.int .u16 0,.int .i64 0,.int .i64 0,.int .i64 0,.slice none 0 0] 8 (World.laidAll_os _ _ _)
   (World.shaped_of_ZipB (by kernel_rfl) (by kernel_rfl)) (by kernel_rfl) (by kernel_rfl) (by kernel_rfl)
   (by rw [MakeChecks.laidMetH_plain _ _ _ (by kernel_rfl)];exact laidMet_laidAll _ (by kernel_rfl) (by kernel_rfl))) ?_
 intro W base args ds gs before hval0 hW _ _ _ _
 have hval:∀ (j:Nat) t v,Tryz.f15.params[j]? =some t→args[j]? =some v→Value.okWide Tryz.prog W .any base t v:=hval0
 have hW':=hW
 obtain ⟨p,q,hA0,hV,rfl,_,_⟩:=hW
 have hA:DataW.TrodAll enc Tryz.prog W 0 (fun _=>true) true Tryz.f15.params.toList args.toList ds p:=hA0
 have hlt:=DataW.TrodAll.lt hA0
 rw [Tryz.params15]at hA hval
 obtain ⟨v1,v2,v3,v4,v5,v6,v7,v8,d1,d2,d3,d4,d5,d6,d7,d8,p1,p2,p3,p4,p5,p6,p7,p8,rfl,rfl,rfl,h1,h2,h3,h4,h5,h6,h7,h8⟩:=open_8 hA
 obtain ⟨rfl,rfl⟩:=trodVars_none hV
 have k1:=h1
 obtain ⟨a1,l1,c1,rfl,hs1,hb1⟩:=open_Pts (hval 0 22 v1 rfl rfl) h1
 obtain ⟨N2,rfl,rfl,rfl,hN2,r2⟩:=open_int_ (hval 1 3 v2 rfl rfl) h2
 obtain ⟨N3,rfl,rfl,rfl,hN3,r3⟩:=open_int_ (hval 2 3 v3 rfl rfl) h3
 obtain ⟨N4,rfl,rfl,rfl,hN4,r4⟩:=open_u16 (hval 3 80 v4 rfl rfl) h4
 obtain ⟨N5,rfl,rfl,rfl,hN5,r5⟩:=open_int_ (hval 4 3 v5 rfl rfl) h5
 obtain ⟨N6,rfl,rfl,rfl,hN6,r6⟩:=open_int_ (hval 5 3 v6 rfl rfl) h6
 obtain ⟨N7,rfl,rfl,rfl,hN7,r7⟩:=open_int_ (hval 6 3 v7 rfl rfl) h7
 have k8:=h8
 obtain ⟨a8,l8,c8,rfl,hs8,hb8⟩:=open_Ints (hval 7 23 v8 rfl rfl) h8
 simp only [List.append_nil]at hW'
 refine(hillCheapest_walk W a1 l1.length c1 l1 N2 N3 N4 N5 N6 N7 a8 l8.length c8 l8 hs1 hs8 hN4).mono fun e W' ⟨he,hb⟩=>?_
 subst he
 exact⟨_,rfl,_,_,_,_,_,_,hW',trodAll_mk1 (shut_bool Tryz.underlying4 true),⟨_,_,Below.trod laidOut (by kernel_rfl) (of_decide_eq_true (by kernel_rfl)) k1 hb (fun x hx=>hlt x (by simp [hx])),⟨[],_,r2 _ _,⟨[],_,r3 _ _,⟨[],_,r4 _ _,⟨[],_,r5 _ _,⟨[],_,r6 _ _,⟨[],_,r7 _ _,⟨_,_,Below.trod laidOut (by kernel_rfl) (of_decide_eq_true (by kernel_rfl)) k8 hb (fun x hx=>hlt x (by simp [hx])),rfl,rfl⟩,rfl⟩,rfl⟩,rfl⟩,rfl⟩,rfl⟩,rfl⟩,rfl⟩,rfl,hb.frame _,fun h=>by cases h⟩
theorem hillCheapest_f1:Tryz.checked.prog.funcNamed Rows.hillCheapestRow.func=some 15:=by kernel_rfl
theorem hillCheapest_f2:joinedFacts Tryz.checked.prog 15 Tryz.f15 Rows.hillCheapestSpec Rows.hillCheapestRow=true:=by kernel_rfl
theorem hillCheapest_f3:Tryz.f15.isInstance Tryz.checked.prog Rows.hillCheapestRow.origin Rows.hillCheapestRow.targs:=of_decide_eq_true (by kernel_rfl)
theorem hillCheapest_f4:Tryz.f15.isWrapper Tryz.checked.prog Rows.hillCheapestRow.wrapper Rows.hillCheapestRow.mainSum:=by unfold Func.isWrapper;first | (rw [if_pos (by decide+kernel)];kernel_rfl) | (rw [if_neg (by decide+kernel)];exact⟨rfl,rfl⟩)
theorem hillCheapest_holds:Rows.HillCheapestSaid:=
 OpenClaim.holds_of_wide 15 Tryz.f15 rfl rfl rfl rfl rfl rfl rfl ⟨rfl,rfl,rfl,rfl,rfl⟩ rfl rfl rfl rfl rfl hillCheapest_f1 Tryz.func15 hillCheapest_f2 hillCheapest_f3 hillCheapest_f4
  (fun os started H enc _=>hillCheapest_lifted os started H enc)
theorem hillCheapest_card:Rows.HillCheapestCardSaid:=
 Claim7.holds_tied_plain_at .later [] [.data,.pinned] true Rows.hillCheapestCard.stood.harness false
  hillCheapest_holds (fun _ h=>by cases h) (by kernel_rfl) (fun _ h=>by cases h) hillCheapest_row_tie rfl ⟨rfl,rfl⟩ (by kernel_rfl) rfl
  (fun f fn hf hfn=>by
   obtain rfl:f=15:=Option.some.inj ((show Tryz.prog.funcNamed Rows.hillCheapestRow.func=some 15 by kernel_rfl).symm.trans hf)|>.symm
   obtain rfl:fn=Tryz.f15:=(Option.some.inj (Tryz.func15.symm.trans hfn)).symm
   exact⟨by kernel_rfl,fun j t ht=>by
    rw [Tryz.params15]at ht
    have hm:t∈([22,3,3,80,3,3,3,23]:List Nat):=by simpa using Array.mem_of_getElem? ht
    have hall:(([22,3,3,80,3,3,3,23]:List Nat).all fun u=> !Tryz.prog.wantsStandIn u)=true:=by kernel_rfl
    exact(show Tryz.prog.wantsStandIn t=false by simpa using List.all_eq_true.1 hall t hm)⟩)
  (by kernel_rfl)
end Go.Proofs.YthmdhlopeponcaaGreatDoor

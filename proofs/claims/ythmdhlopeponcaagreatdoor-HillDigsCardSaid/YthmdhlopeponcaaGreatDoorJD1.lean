/- the law HillDigs: for every input it returns true, and its input reads as before; the two tables of unicode/utf8 as the program's text lays them: the row, and the tied card -/
import Derived.Test.YthmdhlopeponcaaGreatDoorJD0
import Derived.Test.YthmdhlopeponcaaGreatDoorJ31
import Derived.Test.YthmdhlopeponcaaGreatDoorTie
import Derived.Test.YthmdhlopeponcaaGreatDoorCards
set_option maxRecDepth 100000
set_option maxHeartbeats 1000000
namespace Go.Proofs.YthmdhlopeponcaaGreatDoor
open Go.ChangeShapes Go.WideShapes Go.RowKit
theorem hillDigs_lifted (os:Os) (started:os.Started) (H:Type) (enc:TypeId×Value->H):
  ReturnsInHanded {} Tryz.checked os 4 .any (fun w args=>(Rows.hillDigsSpec.pre enc Tryz.prog Tryz.f4 [] false w args/\laidMetH Tryz.prog Rows.hillDigsRow.laid w)/\sizedMet enc Tryz.prog Tryz.f4 (OpenSpec.ofChange Rows.hillDigsSpec) false w args)
   (Rows.hillDigsSpec.post enc Tryz.prog Tryz.f4 false true false false):=by
 refine returnsInHanded_of_change_and (C:=Tryz.checked) (X:=fun w _=>laidMetH Tryz.prog Rows.hillDigsRow.laid w) (fun _ _ _ hh h=>h.of_heap hh) own started (by kernel_rfl) Tryz.func4
  (ChangeSpec.witness_shaped (enc:=enc) (C:=Tryz.checked) (os:=os) (X:=fun w _=>laidMetH Tryz.prog Rows.hillDigsRow.laid w) false (World.laidAll Tryz.prog os Rows.hillDigsRow.laid) #[.slice none 0 0,.slice none 0 0,.slice none 0 0] 8 (World.laidAll_os _ _ _)
   (World.shaped_of_ZipB (by kernel_rfl) (by kernel_rfl)) (by kernel_rfl) (by kernel_rfl) (by kernel_rfl)
   (by rw [MakeChecks.laidMetH_plain _ _ _ (by kernel_rfl)];exact laidMet_laidAll _ (by kernel_rfl) (by kernel_rfl))) ?_
 intro W base args ds gs before hval0 hW _ _ _ _
 have hval:∀ (j:Nat) t v,Tryz.f4.params[j]? =some t->args[j]? =some v->Value.okWide Tryz.prog W .any base t v:=hval0
 have hW':=hW
 obtain ⟨p,q,hA0,hV,rfl,_,_⟩:=hW
 have hA:DataW.TrodAll enc Tryz.prog W 0 (fun _=>true) true Tryz.f4.params.toList args.toList ds p:=hA0
 have hlt:=DataW.TrodAll.lt hA0
 rw [Tryz.params4]at hA hval
 obtain ⟨v1,v2,v3,d1,d2,d3,p1,p2,p3,rfl,rfl,rfl,h1,h2,h3⟩:=open_3 hA
 obtain ⟨rfl,rfl⟩:=trodVars_none hV
 have k1:=h1
 obtain ⟨a1,l1,c1,rfl,hs1,hb1⟩:=open_Pts (hval 0 22 v1 rfl rfl) h1
 have k2:=h2
 obtain ⟨a2,l2,c2,rfl,hs2,hb2⟩:=open_Ints (hval 1 23 v2 rfl rfl) h2
 have k3:=h3
 obtain ⟨a3,l3,c3,rfl,hs3,hb3⟩:=open_Ints (hval 2 23 v3 rfl rfl) h3
 simp only [List.append_nil]at hW'
 refine(hillDigs_walk W a1 l1.length c1 l1 a2 l2.length c2 l2 a3 l3.length c3 l3 hs1 hs2 hs3).mono fun e W' ⟨he,hb⟩=>?_
 subst he
 exact⟨_,rfl,_,_,_,_,_,_,hW',trodAll_mk1 (shut_bool Tryz.underlying4 true),⟨_,_,Below.trod laidOut (by kernel_rfl) (of_decide_eq_true (by kernel_rfl)) k1 hb (fun x hx=>hlt x (by simp [hx])),⟨_,_,Below.trod laidOut (by kernel_rfl) (of_decide_eq_true (by kernel_rfl)) k2 hb (fun x hx=>hlt x (by simp [hx])),⟨_,_,Below.trod laidOut (by kernel_rfl) (of_decide_eq_true (by kernel_rfl)) k3 hb (fun x hx=>hlt x (by simp [hx])),rfl,rfl⟩,rfl⟩,rfl⟩,rfl,hb.frame _,fun h=>by cases h⟩
theorem hillDigs_f1:Tryz.checked.prog.funcNamed Rows.hillDigsRow.func=some 4:=by kernel_rfl
theorem hillDigs_f2:joinedFacts Tryz.checked.prog 4 Tryz.f4 Rows.hillDigsSpec Rows.hillDigsRow=true:=by kernel_rfl
theorem hillDigs_f3:Tryz.f4.isInstance Tryz.checked.prog Rows.hillDigsRow.origin Rows.hillDigsRow.targs:=of_decide_eq_true (by kernel_rfl)
theorem hillDigs_f4:Tryz.f4.isWrapper Tryz.checked.prog Rows.hillDigsRow.wrapper Rows.hillDigsRow.mainSum:=by unfold Func.isWrapper;first | (rw [if_pos (by decide+kernel)];kernel_rfl) | (rw [if_neg (by decide+kernel)];exact⟨rfl,rfl⟩)
theorem hillDigs_holds:Rows.HillDigsSaid:=
 OpenClaim.holds_of_wide 4 Tryz.f4 rfl rfl rfl rfl rfl rfl rfl ⟨rfl,rfl,rfl,rfl,rfl⟩ rfl rfl rfl rfl rfl hillDigs_f1 Tryz.func4 hillDigs_f2 hillDigs_f3 hillDigs_f4
  (fun os started H enc _=>hillDigs_lifted os started H enc)
theorem hillDigs_card:Rows.HillDigsCardSaid:=
 Claim7.holds_tied_plain_at .later [] [.data,.pinned] true Rows.hillDigsCard.stood.harness false
  hillDigs_holds (fun _ h=>by cases h) (by kernel_rfl) (fun _ h=>by cases h) hillDigs_row_tie rfl ⟨rfl,rfl⟩ (by kernel_rfl) rfl
  (fun f fn hf hfn=>by
   obtain rfl:f=4:=Option.some.inj ((show Tryz.prog.funcNamed Rows.hillDigsRow.func=some 4 by kernel_rfl).symm.trans hf)|>.symm
   obtain rfl:fn=Tryz.f4:=(Option.some.inj (Tryz.func4.symm.trans hfn)).symm
   exact⟨by kernel_rfl,fun j t ht=>by
    rw [Tryz.params4]at ht
    have hm:t∈([22,23,23]:List Nat):=by simpa using Array.mem_of_getElem? ht
    have hall:(([22,23,23]:List Nat).all fun u=> !Tryz.prog.wantsStandIn u)=true:=by kernel_rfl
    exact(show Tryz.prog.wantsStandIn t=false by simpa using List.all_eq_true.1 hall t hm)⟩)
  (by kernel_rfl)
end Go.Proofs.YthmdhlopeponcaaGreatDoor

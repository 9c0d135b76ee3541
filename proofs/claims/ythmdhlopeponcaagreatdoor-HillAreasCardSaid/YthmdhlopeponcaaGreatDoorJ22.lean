/- a part of the proof -/
import Derived.Test.YthmdhlopeponcaaGreatDoorJ1
import Derived.Test.YthmdhlopeponcaaGreatDoorJ21
import Derived.Test.YthmdhlopeponcaaGreatDoorJ0
import Derived.Test.YthmdhlopeponcaaGreatDoorJ16
import Derived.Test.YthmdhlopeponcaaGreatDoorJ5
set_option maxRecDepth 100000
set_option maxHeartbeats 32000000
namespace Go.Proofs.YthmdhlopeponcaaGreatDoor
open Go.RowKit Go.Shelf Dig
attribute [local go_sem] Oper.semAt_some
def RetRR (w:World) (p q:Rat) (e:Ending) (w':World):Prop:=∃ (a5:OA) (n5 c5:Nat) (m5:Bool) (d5:OA) (e5 f5:Nat) (a6:OA) (n6 c6:Nat) (m6:Bool) (d6:OA) (e6 f6:Nat),e= .returned (.tuple #[.agg #[.slice a5 n5 c5,.bool m5,.slice d5 e5 f5],.agg #[.slice a6 n6 c6,.bool m6,.slice d6 e6 f6]])/\Rd w' (.slice a5 n5 c5) m5 (.slice d5 e5 f5) (p)/\Rd w' (.slice a6 n6 c6) m6 (.slice d6 e6 f6) (q)/\Below w.heap.size w w'
theorem foldl_bq {op:Rat->Rat->Rat} (hop:∀x y,op x y=x\/op x y=y) {N:Nat} :∀ {qs:List Rat} {q:Rat},Bq N q->(∀x∈qs,Bq N x)->Bq N (qs.foldl op q)
 | [],_,h,_=>h
 | x::qs,q,h,hq=>by
   rw [List.foldl_cons]
   refine foldl_bq hop ?_ (fun y hy=>hq y (List.mem_cons_of_mem _ hy))
   rcases hop q x with e | e
   ·rw [e];exact h
   ·rw [e];exact hq x (List.mem_cons_self ..)
theorem minQ_or (x y:Rat):minQ x y=x\/minQ x y=y:=by unfold minQ;split;exact .inr rfl;exact .inl rfl
theorem maxQ_or (x y:Rat):maxQ x y=x\/maxQ x y=y:=by unfold maxQ;split;exact .inr rfl;exact .inl rfl
section
variable (w:World)
theorem mW7_0 {P_ : Prop} (h : P_ := by
 rintro e wT ⟨a9,n9,c9,m9,d9,e9,f9,rfl,hz,hb⟩
 (try go_wp2_with fail)
 refine stW AF ((AA.out.call hb).pR rfl rfl hz) ?_
 intro AX AB AK
 clear AF Kq AA hb hz AJ
 try simp only [zP]
 refine rdy1 10 rfl (fun Kq AF=>?_)
 have cQ0:=AB.out.c 1 0
 have fQ0:=AB.out.f 1 0
 have cQ1:=AB.out.c 1 1
 have fQ1:=AB.out.f 1 1
 have cQ2:=AB.out.c 1 2
 have fQ2:=AB.out.f 1 2
 go_simp
 refine stepZ AF (AB.out|>.set (j:=0) (v:= .slice a8 n8 c8) 1 rfl|>.set (j:=1) (v:= .bool m8) 1 rfl|>.set (j:=2) (v:= .slice d8 e8 f8) 1 rfl) (fun _ hX=>⟨hX.c 3 0,hX.c 3 1,hX.c 3 2,hX.c 3 3,hX.c 3 4,hX.c 3 5,hX.c 3 6,trivial⟩) ?_
 intro AY AC AL
 clear AF Kq AB cQ0 fQ0 cQ1 fQ1 cQ2 fQ2 AK
 try simp only [Act.put]
 refine rdy1 11 rfl (fun Kq AF=>?_)
 have cQ0:=AC.out.c 2 0
 have fQ0:=AC.out.f 2 0
 have cQ1:=AC.out.c 2 1
 have fQ1:=AC.out.f 2 1
 have cQ2:=AC.out.c 2 2
 have fQ2:=AC.out.f 2 2
 go_simp
 refine stepZ AF (AC.out|>.set (j:=0) (v:= .slice a9 n9 c9) 2 rfl|>.set (j:=1) (v:= .bool m9) 2 rfl|>.set (j:=2) (v:= .slice d9 e9 f9) 2 rfl) (fun _ hX=>⟨hX.c 3 0,hX.c 3 1,hX.c 3 2,hX.c 3 3,hX.c 3 4,hX.c 3 5,hX.c 3 6,trivial⟩) ?_
 intro AZ AE AQ
 clear AF Kq AC cQ0 fQ0 cQ1 fQ1 cQ2 fQ2 AL
 try simp only [Act.put]
 refine wpAnyH_done (by kernel_rfl) ?_ _
 refine⟨rfl,ζ ⟨keepsFrom_away hS6.out (AE.out.r 3 rfl) _,?_,a8,n8,c8,m8,d8,e8,f8,a9,n9,c9,m9,d9,e9,f9,((AE.out.thin (List.sublist_append_left [_,_,_] _) (List.nil_sublist _)).pick [] rfl),?_,?_,Nat.le_trans H4.out (AE.out.r 3 rfl).1,?_⟩⟩
 ·have hA:=AE.out.r 3 rfl
  refine⟨hA.1,fun k o hk ho hn=>?_⟩
  by_cases e6:k=b7
  ·subst e6;exact((AE.out.at_ 3 rfl).2).trans (by rw [HC6.out]at hk;exact hk)
  ·exact(hA.2 k (Array.getElem?_eq_some_iff.1 hk).1 (by simp at hn⊢;omega)).trans hk
 ·rw [HLO.out];exact AE.out.r 4 rfl
 ·rw [HHI.out];exact AE.out.r 5 rfl
 ·intro y hy
  rcases List.mem_append.1 hy with hy | hy
  ·exact H5.out y hy
  ·rcases List.mem_singleton.1 hy with rfl
   exact HGE.out) : P_ := h
theorem mW7_3 {P_ : Prop} (h : P_ := by
 try simp only [zP]
 refine rdy1 9 rfl (fun Kq AF=>?_)
 go_simp
 go_at_call 158
 refine(max_two (rowR_two ((World.ownsRow.lt (AA.out.orow 1 rfl) _ rfl).2) (AA.out.rcell 1 rfl (k:=0) rfl) (AA.out.rcell 1 rfl (k:=1) rfl) (AA.out.rcell 1 rfl (k:=2) rfl) (AA.out.rcell 1 rfl (k:=3) rfl) (AA.out.rcell 1 rfl (k:=4) rfl) (AA.out.rcell 1 rfl (k:=5) rfl) (AA.out.r 1 rfl) (AA.out.r 2 rfl)) (BHI.out.mono (by omega)) (BGR.out.mono (by omega))).mono ?_
 exact mW7_0) : P_ := h
theorem mW7_5 {P_ : Prop} (h : P_ := by
 try simp only [zP]
 refine rdy1 8 rfl (fun Kq AF=>?_)
 go_simp
 refine stW AF (AD.out.onew AR.heap.size #[.slice a6 n6 c6,.bool m6,.slice d6 e6 f6,.slice a2 n2 c2,.bool m2,.slice d2 e2 f2] 42 3 2 rfl (by omega) rfl) ?_
 intro AW AA AJ
 clear AF Kq AD AI
 exact mW7_3) : P_ := h
theorem mW7_1 {P_ : Prop} (h : P_ := by
 try simp only [zP]
 refine rdyL [4,8] ?_
 refine arc rfl (fun Kq AF=>?_) ?_
 ·go_simp
  go_at_call 157
  refine(min_two (rowR_two ((World.ownsRow.lt (AG.out.orow 0 rfl) _ rfl).2) (AG.out.rcell 0 rfl (k:=0) rfl) (AG.out.rcell 0 rfl (k:=1) rfl) (AG.out.rcell 0 rfl (k:=2) rfl) (AG.out.rcell 0 rfl (k:=3) rfl) (AG.out.rcell 0 rfl (k:=4) rfl) (AG.out.rcell 0 rfl (k:=5) rfl) (AG.out.r 0 rfl) (AG.out.r 2 rfl)) (BLO.out.mono (by omega)) (BGR.out.mono (by omega))).mono ?_
  rintro e wT ⟨a8,n8,c8,m8,d8,e8,f8,rfl,hz,hb⟩
  (try go_wp2_with fail)
  refine stW AF ((AG.out.call hb).pR rfl rfl hz) ?_
  intro AR AD AI
  clear AF Kq AG hb hz AM
  exact mW7_5
 refine arc rfl (fun Kq AF=>?_) ?_
 ·go_simp
  refine stW AF (AG.out.onew AU.heap.size #[.slice a6 n6 c6,.bool m6,.slice d6 e6 f6,.slice a2 n2 c2,.bool m2,.slice d2 e2 f2] 42 3 2 rfl (by omega) rfl) ?_
  intro AR AD AI
  clear AF Kq AG AM
  try simp only [zP]
  refine rdy1 4 rfl (fun Kq AF=>?_)
  go_simp
  go_at_call 157
  refine(min_two (rowR_two ((World.ownsRow.lt (AD.out.orow 0 rfl) _ rfl).2) (AD.out.rcell 0 rfl (k:=0) rfl) (AD.out.rcell 0 rfl (k:=1) rfl) (AD.out.rcell 0 rfl (k:=2) rfl) (AD.out.rcell 0 rfl (k:=3) rfl) (AD.out.rcell 0 rfl (k:=4) rfl) (AD.out.rcell 0 rfl (k:=5) rfl) (AD.out.r 0 rfl) (AD.out.r 2 rfl)) (BLO.out.mono (by omega)) (BGR.out.mono (by omega))).mono ?_
  rintro e wT ⟨a8,n8,c8,m8,d8,e8,f8,rfl,hz,hb⟩
  (try go_wp2_with fail)
  refine stW AF ((AD.out.call hb).pR rfl rfl hz) ?_
  intro AW AA AJ
  clear AF Kq AD hb hz AI
  exact mW7_3
 exact AllReadyH.nil) : P_ := h
theorem mW7_2 {P_ : Prop} (h : P_ := by
 try simp only [zP]
 refine rdy1 3 rfl (fun Kq AF=>?_)
 go_simp
 refine stW AF (AG.out.onew AU.heap.size #[.slice a5 n5 c5,.bool m5,.slice d5 e5 f5,.slice a2 n2 c2,.bool m2,.slice d2 e2 f2] 42 3 2 rfl (by omega) rfl) ?_
 intro AR AD AI
 clear AF Kq AG AM
 try simp only [zP]
 refine rdy1 4 rfl (fun Kq AF=>?_)
 go_simp
 go_at_call 157
 refine(min_two (rowR_two ((World.ownsRow.lt (AD.out.orow 1 rfl) _ rfl).2) (AD.out.rcell 1 rfl (k:=0) rfl) (AD.out.rcell 1 rfl (k:=1) rfl) (AD.out.rcell 1 rfl (k:=2) rfl) (AD.out.rcell 1 rfl (k:=3) rfl) (AD.out.rcell 1 rfl (k:=4) rfl) (AD.out.rcell 1 rfl (k:=5) rfl) (AD.out.r 0 rfl) (AD.out.r 2 rfl)) (BLO.out.mono (by omega)) (BGR.out.mono (by omega))).mono ?_
 rintro e wT ⟨a8,n8,c8,m8,d8,e8,f8,rfl,hz,hb⟩
 (try go_wp2_with fail)
 refine stW AF ((AD.out.call hb).pR rfl rfl hz) ?_
 intro AW AA AJ
 clear AF Kq AD hb hz AI
 try simp only [zP]
 refine rdy1 9 rfl (fun Kq AF=>?_)
 go_simp
 go_at_call 158
 refine(max_two (rowR_two ((World.ownsRow.lt (AA.out.orow 0 rfl) _ rfl).2) (AA.out.rcell 0 rfl (k:=0) rfl) (AA.out.rcell 0 rfl (k:=1) rfl) (AA.out.rcell 0 rfl (k:=2) rfl) (AA.out.rcell 0 rfl (k:=3) rfl) (AA.out.rcell 0 rfl (k:=4) rfl) (AA.out.rcell 0 rfl (k:=5) rfl) (AA.out.r 1 rfl) (AA.out.r 2 rfl)) (BHI.out.mono (by omega)) (BGR.out.mono (by omega))).mono ?_
 exact mW7_0) : P_ := h
theorem mW7_4 {P_ : Prop} (h : P_ := by
 go_simp
 refine stW AF AN.out ?_
 intro A1 AH AP
 clear AF Kq AN cQ0 cQ1 cQ2 A0
 try simp only [zP]
 refine rdyL [3,8] ?_
 refine arc rfl (fun Kq AF=>?_) ?_
 ·go_simp
  refine stW AF (AH.out.onew A1.heap.size #[.slice a5 n5 c5,.bool m5,.slice d5 e5 f5,.slice a2 n2 c2,.bool m2,.slice d2 e2 f2] 42 3 2 rfl (by omega) rfl) ?_
  intro AU AG AM
  clear AF Kq AH AP
  exact mW7_1
 refine arc rfl (fun Kq AF=>?_) ?_
 ·go_simp
  refine stW AF (AH.out.onew A1.heap.size #[.slice a6 n6 c6,.bool m6,.slice d6 e6 f6,.slice a2 n2 c2,.bool m2,.slice d2 e2 f2] 42 3 2 rfl (by omega) rfl) ?_
  intro AU AG AM
  clear AF Kq AH AP
  exact mW7_2
 exact AllReadyH.nil) : P_ := h
theorem hbounds_in (n:Nat) (hn:4<=n) (sa:OA) (sn sc:Nat) (l:List Pt) (a b:Int) (hT:Strt l a b) (hs:Sx 2 w sa sn sc (L2 l)):
  CallsIn Fence.wide n Tryz.prog 109 #[.agg #[.slice sa sn sc,.int .i64 a,.int .i64 b]] w (RetRR w (loQ l a b) (hiQ l a b)):=by
 have HS:=ζ hs
 have HT:=ζ hT
 have HGA:=ζ (show Gd (grd l a)from hT.gd (Int.le_refl _) (Int.le_of_lt hT.lt))
 have hlt:=hT.lt
 clear hs hT
 refine callsIn_of_wp_marks Tryz.func109 rfl trivial ?_ rfl
 simp only [Tryz.ntmps109,List.size_toArray,List.length_cons,List.length_nil,Nat.reduceAdd,Nat.reduceSub,Array.replicate_succ,Array.replicate_zero,List.push_toArray,List.append_toArray,List.nil_append,List.cons_append]
 have hS3:=ζ ((((Sy.enter w).al w.heap.size #[.slice sa sn sc,.int .i64 a,.int .i64 b] 120 rfl).al (w.heap.size+1) #[.slice none 0 0,.bool false,.slice none 0 0] 42 (by simp)).al (w.heap.size+1+1) #[.slice none 0 0,.bool false,.slice none 0 0] 42 (by simp))
 gi_wp2_with fail
 refine⟨trivial,fun _=>by omega,(callsIn_wide.2 (ground_any _ sa sn sc l a (HS.out.below hS3.out.be) HT.out.ok HT.out.lo (Int.le_trans (Int.le_of_lt hlt) HT.out.hi))).mono ?_⟩
 rintro e w3 ⟨a4,n4,c4,m4,d4,e4,f4,rfl,hz,hb⟩
 have hS4:=ζ ((hS3.out.call hb).pR rfl rfl hz)
 clear hb hz hS3
 have Ad:=hS4.out.c 1 0
 have A4:=hS4.out.f 1 0
 have Af:=hS4.out.c 1 1
 have A5:=hS4.out.f 1 1
 have Ag:=hS4.out.c 1 2
 have A6:=hS4.out.f 1 2
 have Aj:=hS4.out.c 2 0
 have A7:=hS4.out.f 2 0
 have Ak:=hS4.out.c 2 1
 have A8:=hS4.out.f 2 1
 have Al:=hS4.out.c 2 2
 have A9:=hS4.out.f 2 2
 have y0:=hS4.out.c 0 0
 have y1:=hS4.out.c 0 1
 have y2:=hS4.out.c 0 2
 gi_wp2_with fail
 have hS5:=ζ (hS4.out|>.set (j:=0) (v:= .slice a4 n4 c4) 1 rfl|>.set (j:=1) (v:= .bool m4) 1 rfl|>.set (j:=2) (v:= .slice d4 e4 f4) 1 rfl|>.set (j:=0) (v:= .slice a4 n4 c4) 2 rfl|>.set (j:=1) (v:= .bool m4) 2 rfl|>.set (j:=2) (v:= .slice d4 e4 f4) 2 rfl)
 obtain ⟨w4,hw4⟩:∃w4,((((((w3.setCell ⟨w.heap.size+1,0,none⟩ (.slice a4 n4 c4)).setCell ⟨w.heap.size+1,1,none⟩ (.bool m4)).setCell ⟨w.heap.size+1,2,none⟩ (.slice d4 e4 f4)).setCell ⟨w.heap.size+1+1,0,none⟩ (.slice a4 n4 c4)).setCell ⟨w.heap.size+1+1,1,none⟩ (.bool m4)).setCell ⟨w.heap.size+1+1,2,none⟩ (.slice d4 e4 f4))=w4:=⟨_,rfl⟩
 rw [hw4]at hS5⊢
 clear hw4 Ad A4 Af A5 Ag A6 Aj A7 Ak A8 Al A9 y0 y1 y2 hS4
 refine⟨trivial,fun _=>by omega,(pieces_in _ (n - 1) sa sn sc a b).mono ?_⟩
 rintro e w' ⟨rfl,rfl⟩
 gi_wp2_with fail
 have hSW:=ζ (hS5.out.row (o:= .cells #[.slice sa sn sc,.int .i64 a,.int .i64 b] 120))
 obtain ⟨W0,hW0⟩:∃W0,w4.alloc (.cells #[.slice sa sn sc,.int .i64 a,.int .i64 b] 120)=W0:=⟨_,rfl⟩
 have hnew:W0.heap[w4.heap.size]? =some (.cells #[.slice sa sn sc,.int .i64 a,.int .i64 b] 120 (0,0)):=by rw [<-hW0];exact World.alloc_heap_new _ _
 have hbig:W0.heap.size=w4.heap.size+1:=by rw [<-hW0];simp
 have hlt4:∀i bb cs t,[(w.heap.size,(#[.slice sa sn sc,.int .i64 a,.int .i64 b]:Array Value),(120:TypeId)),(w.heap.size+1,(#[.slice a4 n4 c4,.bool m4,.slice d4 e4 f4]:Array Value),(42:TypeId)),(w.heap.size+1+1,(#[.slice a4 n4 c4,.bool m4,.slice d4 e4 f4]:Array Value),(42:TypeId))][i]? =some (bb,cs,t)->bb < w4.heap.size:=fun i bb cs t h=>hS5.out.lt i h
 have g1:=hlt4 0 _ _ _ rfl
 have g2:=hlt4 1 _ _ _ rfl
 have g3:=hlt4 2 _ _ _ rfl
 rw [hW0]at hSW⊢
 obtain ⟨bS,hbS⟩:∃bS,w4.heap.size=bS:=⟨_,rfl⟩
 rw [hbS]at hnew hbig g1 g2 g3⊢
 obtain ⟨b3,hb3⟩:∃b3,w.heap.size+1+1=b3:=⟨_,rfl⟩
 obtain ⟨b2,hb2⟩:∃b2,w.heap.size+1=b2:=⟨_,rfl⟩
 obtain ⟨b1,hb1⟩:∃b1,w.heap.size=b1:=⟨_,rfl⟩
 have hS0:Hid (Sy w W0 [(b1,#[.slice sa sn sc,.int .i64 a,.int .i64 b],120),(b2,#[.slice a4 n4 c4,.bool m4,.slice d4 e4 f4],42),(b3,#[.slice a4 n4 c4,.bool m4,.slice d4 e4 f4],42)] [] [(fun V=>Rd V (.slice a4 n4 c4) m4 (.slice d4 e4 f4) (grd l a))]):=ζ (by rw [<-hb3,<-hb2,<-hb1];exact hSW.out)
 rw [hb3,hb2,hb1]
 rw [hb3]at g3
 rw [hb2]at g2
 rw [hb1]at g1
 have hle:w.heap.size<=W0.heap.size:=hS0.out.be.size
 have hSR:SRd W0 bS sa sn sc l a b:=⟨by simp [World.cell?,hnew],by simp [World.cell?,hnew],by simp [World.cell?,hnew],HS.out.below hS0.out.be⟩
 have hown:∀k∈ [b1,b2,b3],k < bS:=by intro k hk;simp at hk;omega
 have hrow:∀g o,sa=some ⟨g,o,none⟩->g∉ [b1,b2,b3]:=by
  intro g o e hm
  obtain ⟨g',o',e',hg,_⟩:=HS.out.2.2.2 (by have:=HS.out.n2;have:=HT.out.ok.two;omega)
  rw [e]at e'
  simp only [Option.some.injEq,Addr.mk.injEq,and_true]at e'
  simp at hm
  omega
 have HZ:=ζ (show b1=w.heap.size/\b2=w.heap.size+1/\b3=w.heap.size+2/\W0.heap.size=bS+1/\b3 < bS by omega)
 have hbS1:bS∉ [b1,b2,b3]:=fun hm=>by have:=hown _ hm;omega
 have hown1:∀k∈ [b1,b2,b3],k < W0.heap.size:=fun k hk=>by have:=hown k hk;omega
 clear hSW hW0 hnew hbS hbig hb2 hb3 hb1 hown g1 g2 g3 hlt4 hS5
 refine wpIn_rangeFunc_at (gf:=177) (lb:=#[.pointer (some ⟨bS,0,none⟩)]) (w0:=W0) (by omega) rfl (enters_of Tryz.func177 (by kernel_rfl) rfl)
  (pieces1_at (n - 1) (by omega) bS sa sn sc l a b W0 HT.out [b1,b2,b3] hSR hbS1 hrow hown1) (Below.refl _ _) (fun _=>rfl)
  keepsC_t (fun W k o o' _ hl ho=>keepsC_p W k o o' hl ho)
  (fun pre W=>Hid (∃ (a5:OA) (n5 c5:Nat) (m5:Bool) (d5:OA) (e5 f5:Nat) (a6:OA) (n6 c6:Nat) (m6:Bool) (d6:OA) (e6 f6:Nat),Sy w W [(b1,#[.slice sa sn sc,.int .i64 a,.int .i64 b],120),(b2,#[.slice a5 n5 c5,.bool m5,.slice d5 e5 f5],42),(b3,#[.slice a6 n6 c6,.bool m6,.slice d6 e6 f6],42)] [] []/\Rd W (.slice a5 n5 c5) m5 (.slice d5 e5 f5) (((pre).map fun x=>grd l x.t.2).foldl minQ (grd l a))/\Rd W (.slice a6 n6 c6) m6 (.slice d6 e6 f6) (((pre).map fun x=>grd l x.t.2).foldl maxQ (grd l a))/\W0.heap.size<=W.heap.size/\∀y∈pre,a<=y.t.1/\y.t.1 < y.t.2/\y.t.2<=b))
  (fun s A B hs hAB=>by
   obtain ⟨a5,n5,c5,m5,d5,e5,f5,a6,n6,c6,m6,d6,e6,f6,h1,h2,h3,h4,h5⟩:=hs.out
   exact ζ ⟨a5,n5,c5,m5,d5,e5,f5,a6,n6,c6,m6,d6,e6,f6,h1.call hAB,h2.keep (Below.keeps hAB),h3.keep (Below.keeps hAB),Nat.le_trans h4 hAB.size,h5⟩)
  (fun s W k o o' hs hk hl ho=>by
   obtain ⟨a5,n5,c5,m5,d5,e5,f5,a6,n6,c6,m6,d6,e6,f6,h1,h2,h3,h4,h5⟩:=hs.out
   exact ζ ⟨a5,n5,c5,m5,d5,e5,f5,a6,n6,c6,m6,d6,e6,f6,h1.put (Nat.le_trans hle hk) hl ho,h2.putObj k o o' hl ho,h3.putObj k o o' hl ho,by simpa using h4,h5⟩)
  (ζ ⟨a4,n4,c4,m4,d4,e4,f4,a4,n4,c4,m4,d4,e4,f4,hS0.out.pick [] rfl,hS0.out.r 0 rfl,hS0.out.r 0 rfl,Nat.le_refl _,fun y hy=>by cases hy⟩)
  (fun x a' W=>∃b6,a'= { tmps:=#[.agg #[.slice sa sn sc,.int .i64 a,.int .i64 b],.pointer (some ⟨b1,0,none⟩),.pointer (some ⟨b2,0,none⟩),.pointer (some ⟨b3,0,none⟩),.pointer (some ⟨b6,0,none⟩),.pointer (some ⟨b1,0,none⟩),.slice sa sn sc,.pointer (some ⟨b1,1,none⟩),.int .i64 a,.agg #[.slice a4 n4 c4,.bool m4,.slice d4 e4 f4],.agg #[.slice a4 n4 c4,.bool m4,.slice d4 e4 f4],.agg #[.slice sa sn sc,.int .i64 a,.int .i64 b],.func (.func 177) #[] #[.pointer (some ⟨bS,0,none⟩)],encP x,undef,undef,undef,undef,undef,undef,undef,undef,undef,undef,undef,undef],defers:=[] } /\W0.heap.size<=b6/\W.heap[b6]? =some (.cells #[.int .i64 (x.t.2 - x.t.1),.slice x.a1 x.n1 x.c1,.bool x.m1,.slice x.d1 x.e1 x.f1,.slice x.a2 x.n2 x.c2,.bool x.m2,.slice x.d2 x.e2 x.f2] 179 (0,0))/\EP l a b x W)
  (fun x a' W k o o' hA hl ho=>by
   obtain ⟨b6,h1,h2,h3,h4⟩:=hA
   exact⟨b6,h1,h2,(World.putObj_heap_other (fun e=>by subst e;rw [hl]at h3;cases h3;cases ho)).trans h3,h4.putObj k o o' hl ho⟩)
  ?assign ?body ?done
 case assign=>
  intro lr pre x W K hi hx hK
  gi_wp2
  have hal:Below W.heap.size W (W.alloc (.cells #[.int .i64 (x.t.2 - x.t.1),.slice x.a1 x.n1 x.c1,.bool x.m1,.slice x.d1 x.e1 x.f1,.slice x.a2 x.n2 x.c2,.bool x.m2,.slice x.d2 x.e2 x.f2] 179)):=(Below.refl _ _).alloc (Nat.le_refl _) _
  obtain ⟨a5,n5,c5,m5,d5,e5,f5,a6,n6,c6,m6,d6,e6,f6,h1,h2,h3,h4,h5⟩:=hi.out
  exact hK _ _ ⟨hal.size,fun k o _ hk _=>heap_below hal hk⟩ (keepsC_below hal) (ζ ⟨a5,n5,c5,m5,d5,e5,f5,a6,n6,c6,m6,d6,e6,f6,h1.call hal,h2.keep (Below.keeps hal),h3.keep (Below.keeps hal),Nat.le_trans h4 hal.size,h5⟩) ⟨W.heap.size,rfl,h4,World.alloc_heap_new _ _,hx.below hal⟩
 case body=>
  rintro lr pre ⟨⟨u1,u2⟩,a1,n1,c1,m1,d1,e1,f1,a2,n2,c2,m2,d2,e2,f2⟩ a' W hi ⟨b7,rfl,hb7,hc7,hE⟩ hlen
  obtain ⟨a5,n5,c5,m5,d5,e5,f5,a6,n6,c6,m6,d6,e6,f6,h1,h2,h3,h4,h5⟩:=hi.out
  clear hi
  have hl6:w.heap.size<=b7:=Nat.le_trans hle hb7
  have hn6:b7∉ownOf [(b1,#[.slice sa sn sc,.int .i64 a,.int .i64 b],120),(b2,#[.slice a5 n5 c5,.bool m5,.slice d5 e5 f5],42),(b3,#[.slice a6 n6 c6,.bool m6,.slice d6 e6 f6],42)] []:=by
   intro hm
   simp [ownOf]at hm
   have:=HZ.out
   omega
  have hS6:=ζ (h1.addB hl6 hc7 hn6)
  have hall:∀q∈(pre.map fun x=>grd l x.t.2),Bq 36 q:=by
   intro q hq
   obtain ⟨y,hy,rfl⟩:=List.mem_map.1 hq
   obtain ⟨y1,y2,y3⟩:=h5 y hy
   exact(HT.out.gd (x:=y.t.2) (by omega) y3).bq
  have BLO:=ζ (foldl_bq minQ_or HGA.out.bq hall)
  have BHI:=ζ (foldl_bq maxQ_or HGA.out.bq hall)
  have BGR:=ζ (show Bq 36 (grd l u2)from(HT.out.gd (x:=u2) (Int.le_of_lt (Int.lt_of_le_of_lt hE.ge hE.lt)) hE.le).bq)
  have HLO:=ζ (show((pre++ [(⟨(u1,u2),a1,n1,c1,m1,d1,e1,f1,a2,n2,c2,m2,d2,e2,f2⟩:Pcv)]).map fun x=>grd l x.t.2).foldl minQ (grd l a)=minQ (((pre).map fun x=>grd l x.t.2).foldl minQ (grd l a)) (grd l u2)by rw [List.map_append,List.foldl_append];rfl)
  have HHI:=ζ (show((pre++ [(⟨(u1,u2),a1,n1,c1,m1,d1,e1,f1,a2,n2,c2,m2,d2,e2,f2⟩:Pcv)]).map fun x=>grd l x.t.2).foldl maxQ (grd l a)=maxQ (((pre).map fun x=>grd l x.t.2).foldl maxQ (grd l a)) (grd l u2)by rw [List.map_append,List.foldl_append];rfl)
  have HGE:=ζ (show a<=u1/\u1 < u2/\u2<=b from⟨hE.ge,hE.lt,hE.le⟩)
  have HC6:=ζ hc7
  have H4:=ζ h4
  have H5:=ζ h5
  have hE2:=hE.last
  dsimp only at hE2
  generalize ((pre).map fun x=>grd l x.t.2).foldl minQ (grd l a)=lo at*
  generalize ((pre).map fun x=>grd l x.t.2).foldl maxQ (grd l a)=hi at*
  generalize grd l u2=gr at*
  have hS7:Hid (Sy w W [(b1,#[.slice sa sn sc,.int .i64 a,.int .i64 b],120),(b2,#[.slice a5 n5 c5,.bool m5,.slice d5 e5 f5],42),(b3,#[.slice a6 n6 c6,.bool m6,.slice d6 e6 f6],42),(b7,#[.int .i64 (u2 - u1),.slice a1 n1 c1,.bool m1,.slice d1 e1 f1,.slice a2 n2 c2,.bool m2,.slice d2 e2 f2],179)] [] [(fun V=>Rd V (.slice a5 n5 c5) m5 (.slice d5 e5 f5) (lo)),(fun V=>Rd V (.slice a6 n6 c6) m6 (.slice d6 e6 f6) (hi)),(fun V=>Rd V (.slice a2 n2 c2) m2 (.slice d2 e2 f2) (gr)),(fun V=>Away [b1,b2,b3,b7] W V)]):=ζ ((((hS6.out.pR rfl rfl h2).pR rfl rfl h3).pR rfl rfl hE2).push (fun V hV=>hV))
  clear h1 h2 h3 h4 h5 hc7 hE hE2 hn6 hall
  gi_wp2_with fail
  refine wpIn_mono (Q:=fun e _ W'=>e= .normal/\Hid (KeepsFrom W0.heap.size W W'/\KeepsC [b1,b2,b3] W W'/\∃ (a5:OA) (n5 c5:Nat) (m5:Bool) (d5:OA) (e5 f5:Nat) (a6:OA) (n6 c6:Nat) (m6:Bool) (d6:OA) (e6 f6:Nat),Sy w W' [(b1,#[.slice sa sn sc,.int .i64 a,.int .i64 b],120),(b2,#[.slice a5 n5 c5,.bool m5,.slice d5 e5 f5],42),(b3,#[.slice a6 n6 c6,.bool m6,.slice d6 e6 f6],42)] [] []/\Rd W' (.slice a5 n5 c5) m5 (.slice d5 e5 f5) (((pre++ [(⟨(u1,u2),a1,n1,c1,m1,d1,e1,f1,a2,n2,c2,m2,d2,e2,f2⟩:Pcv)]).map fun x=>grd l x.t.2).foldl minQ (grd l a))/\Rd W' (.slice a6 n6 c6) m6 (.slice d6 e6 f6) (((pre++ [(⟨(u1,u2),a1,n1,c1,m1,d1,e1,f1,a2,n2,c2,m2,d2,e2,f2⟩:Pcv)]).map fun x=>grd l x.t.2).foldl maxQ (grd l a))/\W0.heap.size<=W'.heap.size/\∀y∈pre++ [(⟨(u1,u2),a1,n1,c1,m1,d1,e1,f1,a2,n2,c2,m2,d2,e2,f2⟩:Pcv)],a<=y.t.1/\y.t.1 < y.t.2/\y.t.2<=b)) ?reg ?rest
  case reg=>
   have HSL:∀V ex os rs,Sy w V ([(b1,#[.slice sa sn sc,.int .i64 a,.int .i64 b],120),(b2,#[.slice a5 n5 c5,.bool m5,.slice d5 e5 f5],42),(b3,#[.slice a6 n6 c6,.bool m6,.slice d6 e6 f6],42),(b7,#[.int .i64 (u2 - u1),.slice a1 n1 c1,.bool m1,.slice d1 e1 f1,.slice a2 n2 c2,.bool m2,.slice d2 e2 f2],179)]++ex) os rs->(fun w'=>w'.cell? ⟨b7,0,none⟩=some (.int .i64 (u2 - u1))/\w'.cell? ⟨b7,1,none⟩=some (.slice a1 n1 c1)/\w'.cell? ⟨b7,2,none⟩=some (.bool m1)/\w'.cell? ⟨b7,3,none⟩=some (.slice d1 e1 f1)/\w'.cell? ⟨b7,4,none⟩=some (.slice a2 n2 c2)/\w'.cell? ⟨b7,5,none⟩=some (.bool m2)/\w'.cell? ⟨b7,6,none⟩=some (.slice d2 e2 f2)/\True) V:=fun V ex os rs hX=>⟨hX.c 3 0,hX.c 3 1,hX.c 3 2,hX.c 3 3,hX.c 3 4,hX.c 3 5,hX.c 3 6,trivial⟩
   refine wpIn_region_round (S:=(fun w'=>w'.cell? ⟨b7,0,none⟩=some (.int .i64 (u2 - u1))/\w'.cell? ⟨b7,1,none⟩=some (.slice a1 n1 c1)/\w'.cell? ⟨b7,2,none⟩=some (.bool m1)/\w'.cell? ⟨b7,3,none⟩=some (.slice d1 e1 f1)/\w'.cell? ⟨b7,4,none⟩=some (.slice a2 n2 c2)/\w'.cell? ⟨b7,5,none⟩=some (.bool m2)/\w'.cell? ⟨b7,6,none⟩=some (.slice d2 e2 f2)/\True)) ?_ (by kernel_rfl) ⟨hS7.out.drew.c 3 0,hS7.out.drew.c 3 1,hS7.out.drew.c 3 2,hS7.out.drew.c 3 3,hS7.out.drew.c 3 4,hS7.out.drew.c 3 5,hS7.out.drew.c 3 6,trivial⟩ (fun hH=>?_)
   ·kernel_rfl
   refine wpAnyH_geny (show Sy w _ [(b1,#[.slice sa sn sc,.int .i64 a,.int .i64 b],120),(b2,#[.slice a5 n5 c5,.bool m5,.slice d5 e5 f5],42),(b3,#[.slice a6 n6 c6,.bool m6,.slice d6 e6 f6],42),(b7,#[.int .i64 (u2 - u1),.slice a1 n1 c1,.bool m1,.slice d1 e1 f1,.slice a2 n2 c2,.bool m2,.slice d2 e2 f2],179)] [] [(fun V=>Rd V (.slice a5 n5 c5) m5 (.slice d5 e5 f5) (lo)),(fun V=>Rd V (.slice a6 n6 c6) m6 (.slice d6 e6 f6) (hi)),(fun V=>Rd V (.slice a2 n2 c2) m2 (.slice d2 e2 f2) (gr)),(fun V=>Away [b1,b2,b3,b7] W V)]from hS7.out.drew) hH ?_
   intro An hc AV
   have AO:=ζ hc
   clear hc hH hS7
   refine tkA 1 rfl AV ?_
   try simp only [zP]
   refine tkA 2 rfl AV ?_
   try simp only [zP]
   refine tkA 6 rfl AV ?_
   try simp only [zP]
   refine tkA 7 rfl AV ?_
   try simp only [zP]
   refine rdyL [0,5] ?_
   refine arc rfl (fun Kq AF=>?_) ?_
   ·have cQ0:=AO.out.c 1 0
    have cQ1:=AO.out.c 1 1
    have cQ2:=AO.out.c 1 2
    go_simp
    refine stW AF AO.out ?_
    intro A3 AN A0
    clear AF Kq AO cQ0 cQ1 cQ2 AV
    try simp only [zP]
    refine rdyL [3,5] ?_
    refine arc rfl (fun Kq AF=>?_) ?_
    ·go_simp
     refine stW AF (AN.out.onew A3.heap.size #[.slice a5 n5 c5,.bool m5,.slice d5 e5 f5,.slice a2 n2 c2,.bool m2,.slice d2 e2 f2] 42 3 2 rfl (by omega) rfl) ?_
     intro A1 AH AP
     clear AF Kq AN A0
     try simp only [zP]
     refine rdyL [4,5] ?_
     refine arc rfl (fun Kq AF=>?_) ?_
     ·go_simp
      go_at_call 157
      refine(min_two (rowR_two ((World.ownsRow.lt (AH.out.orow 0 rfl) _ rfl).2) (AH.out.rcell 0 rfl (k:=0) rfl) (AH.out.rcell 0 rfl (k:=1) rfl) (AH.out.rcell 0 rfl (k:=2) rfl) (AH.out.rcell 0 rfl (k:=3) rfl) (AH.out.rcell 0 rfl (k:=4) rfl) (AH.out.rcell 0 rfl (k:=5) rfl) (AH.out.r 0 rfl) (AH.out.r 2 rfl)) (BLO.out.mono (by omega)) (BGR.out.mono (by omega))).mono ?_
      rintro e wT ⟨a8,n8,c8,m8,d8,e8,f8,rfl,hz,hb⟩
      (try go_wp2_with fail)
      refine stW AF ((AH.out.call hb).pR rfl rfl hz) ?_
      intro AU AG AM
      clear AF Kq AH hb hz AP
      try simp only [zP]
      refine rdy1 5 rfl (fun Kq AF=>?_)
      have cQ0:=AG.out.c 2 0
      have cQ1:=AG.out.c 2 1
      have cQ2:=AG.out.c 2 2
      go_simp
      refine stW AF AG.out ?_
      intro AR AD AI
      clear AF Kq AG cQ0 cQ1 cQ2 AM
      exact mW7_5
     refine arc rfl (fun Kq AF=>?_) ?_
     ·have cQ0:=AH.out.c 2 0
      have cQ1:=AH.out.c 2 1
      have cQ2:=AH.out.c 2 2
      go_simp
      refine stW AF AH.out ?_
      intro AU AG AM
      clear AF Kq AH cQ0 cQ1 cQ2 AP
      exact mW7_1
     exact AllReadyH.nil
    refine arc rfl (fun Kq AF=>?_) ?_
    ·have cQ0:=AN.out.c 2 0
     have cQ1:=AN.out.c 2 1
     have cQ2:=AN.out.c 2 2
     exact mW7_4
    exact AllReadyH.nil
   refine arc rfl (fun Kq AF=>?_) ?_
   ·have cQ0:=AO.out.c 2 0
    have cQ1:=AO.out.c 2 1
    have cQ2:=AO.out.c 2 2
    go_simp
    refine stW AF AO.out ?_
    intro A3 AN A0
    clear AF Kq AO cQ0 cQ1 cQ2 AV
    try simp only [zP]
    refine rdyL [0,8] ?_
    refine arc rfl (fun Kq AF=>?_) ?_
    ·have cQ0:=AN.out.c 1 0
     have cQ1:=AN.out.c 1 1
     have cQ2:=AN.out.c 1 2
     exact mW7_4
    refine arc rfl (fun Kq AF=>?_) ?_
    ·go_simp
     refine stW AF (AN.out.onew A3.heap.size #[.slice a6 n6 c6,.bool m6,.slice d6 e6 f6,.slice a2 n2 c2,.bool m2,.slice d2 e2 f2] 42 3 2 rfl (by omega) rfl) ?_
     intro A1 AH AP
     clear AF Kq AN A0
     try simp only [zP]
     refine rdy1 0 rfl (fun Kq AF=>?_)
     have cQ0:=AH.out.c 1 0
     have cQ1:=AH.out.c 1 1
     have cQ2:=AH.out.c 1 2
     go_simp
     refine stW AF AH.out ?_
     intro AU AG AM
     clear AF Kq AH cQ0 cQ1 cQ2 AP
     exact mW7_2
    exact AllReadyH.nil
   exact AllReadyH.nil
  case rest=>
   rintro e a' W' ⟨rfl,h⟩
   exact⟨rfl,h.out.1,h.out.2.1,ζ h.out.2.2⟩
 case done=>
  rintro D xs W hD hxs hi hdef
  obtain ⟨a5,n5,c5,m5,d5,e5,f5,a6,n6,c6,m6,d6,e6,f6,h1,h2,h3,h4,h5⟩:=hi.out
  clear hi
  have HX:=ζ (show((xs).map fun x=>grd l x.t.2).foldl minQ (grd l a)=loQ l a b/\((xs).map fun x=>grd l x.t.2).foldl maxQ (grd l a)=hiQ l a b by
   unfold loQ hiQ
   rw [<-hxs,List.map_map];exact⟨rfl,rfl⟩)
  have hS:=ζ ((h1.pR rfl rfl h2).pR rfl rfl h3|>.push (r:=fun V=>Away [b1,b2,b3] W V) (fun V hV=>hV))
  have hDs:=ζ hdef
  have HD:=ζ hD
  clear h1 h2 h3 h4 h5 hdef hxs hD
  gi_wp2_with fail
  refine wpIn_mono (Q:=fun e a' W'=>e= .normal/\Hid (∃v24 v25:Value,a'= { tmps:=#[.agg #[.slice sa sn sc,.int .i64 a,.int .i64 b],.pointer (some ⟨b1,0,none⟩),.pointer (some ⟨b2,0,none⟩),.pointer (some ⟨b3,0,none⟩),undef,.pointer (some ⟨b1,0,none⟩),.slice sa sn sc,.pointer (some ⟨b1,1,none⟩),.int .i64 a,.agg #[.slice a4 n4 c4,.bool m4,.slice d4 e4 f4],.agg #[.slice a4 n4 c4,.bool m4,.slice d4 e4 f4],.agg #[.slice sa sn sc,.int .i64 a,.int .i64 b],.func (.func 177) #[] #[.pointer (some ⟨bS,0,none⟩)],undef,undef,undef,undef,undef,undef,undef,undef,undef,undef,undef,v24,v25],defers:=[{ target:= .collected D,args:=#[] }] } /\Sy w W' [(b1,#[.slice sa sn sc,.int .i64 a,.int .i64 b],120),(b2,#[.slice a5 n5 c5,.bool m5,.slice d5 e5 f5],42),(b3,#[.slice a6 n6 c6,.bool m6,.slice d6 e6 f6],42)] [] [(fun V=>Rd V (.slice a5 n5 c5) m5 (.slice d5 e5 f5) (((xs).map fun x=>grd l x.t.2).foldl minQ (grd l a))),(fun V=>Rd V (.slice a6 n6 c6) m6 (.slice d6 e6 f6) (((xs).map fun x=>grd l x.t.2).foldl maxQ (grd l a))),(fun V=>Away [b1,b2,b3] W V)])) ?reg2 ?rest2
  case reg2=>
   have HSL:∀V ex os rs,Sy w V ([(b1,#[.slice sa sn sc,.int .i64 a,.int .i64 b],120),(b2,#[.slice a5 n5 c5,.bool m5,.slice d5 e5 f5],42),(b3,#[.slice a6 n6 c6,.bool m6,.slice d6 e6 f6],42)]++ex) os rs->(fun w'=>w'.cell? ⟨b2,0,none⟩=some (.slice a5 n5 c5)/\w'.cell? ⟨b2,1,none⟩=some (.bool m5)/\w'.cell? ⟨b2,2,none⟩=some (.slice d5 e5 f5)/\w'.cell? ⟨b3,0,none⟩=some (.slice a6 n6 c6)/\w'.cell? ⟨b3,1,none⟩=some (.bool m6)/\w'.cell? ⟨b3,2,none⟩=some (.slice d6 e6 f6)/\True) V:=fun V ex os rs hX=>⟨hX.c 1 0,hX.c 1 1,hX.c 1 2,hX.c 2 0,hX.c 2 1,hX.c 2 2,trivial⟩
   refine wpIn_region_wide (S:=(fun w'=>w'.cell? ⟨b2,0,none⟩=some (.slice a5 n5 c5)/\w'.cell? ⟨b2,1,none⟩=some (.bool m5)/\w'.cell? ⟨b2,2,none⟩=some (.slice d5 e5 f5)/\w'.cell? ⟨b3,0,none⟩=some (.slice a6 n6 c6)/\w'.cell? ⟨b3,1,none⟩=some (.bool m6)/\w'.cell? ⟨b3,2,none⟩=some (.slice d6 e6 f6)/\True)) ?_ (by kernel_rfl) ⟨hS.out.drew.c 1 0,hS.out.drew.c 1 1,hS.out.drew.c 1 2,hS.out.drew.c 2 0,hS.out.drew.c 2 1,hS.out.drew.c 2 2,trivial⟩ (fun hH=>?_)
   ·kernel_rfl
   refine wpAnyH_geny (show Sy w _ [(b1,#[.slice sa sn sc,.int .i64 a,.int .i64 b],120),(b2,#[.slice a5 n5 c5,.bool m5,.slice d5 e5 f5],42),(b3,#[.slice a6 n6 c6,.bool m6,.slice d6 e6 f6],42)] [] [(fun V=>Rd V (.slice a5 n5 c5) m5 (.slice d5 e5 f5) (((xs).map fun x=>grd l x.t.2).foldl minQ (grd l a))),(fun V=>Rd V (.slice a6 n6 c6) m6 (.slice d6 e6 f6) (((xs).map fun x=>grd l x.t.2).foldl maxQ (grd l a))),(fun V=>Away [b1,b2,b3] W V)]from hS.out.drew) hH ?_
   intro Ap hc A2
   have AS:=ζ hc
   clear hc hH hS
   refine wpAnyH_take (i:=0) (oi:=⟨_,_,_,_,_,_⟩) (v:=?_) rfl (by kernel_rfl) (by kernel_rfl) (by kernel_rfl) (fun _ _ _ h=>by cases h.1) (Or.inl ⟨by rfl,?_⟩) A2 ?_
   rotate_left
   ·intro wS hSw;(try dsimp only at hSw);go_simp;try with_reducible rfl
   try simp only [zP]
   refine wpAnyH_take (i:=1) (oi:=⟨_,_,_,_,_,_⟩) (v:=?_) rfl (by kernel_rfl) (by kernel_rfl) (by kernel_rfl) (fun _ _ _ h=>by cases h.1) (Or.inl ⟨by rfl,?_⟩) A2 ?_
   rotate_left
   ·intro wS hSw;(try dsimp only at hSw);go_simp;try with_reducible rfl
   try simp only [zP]
   refine rdy1 2 rfl (fun Kq AF=>?_)
   have cQ0:=AS.out.c 1 0
   have fQ0:=AS.out.f 1 0
   have cQ1:=AS.out.c 1 1
   have fQ1:=AS.out.f 1 1
   have cQ2:=AS.out.c 1 2
   have fQ2:=AS.out.f 1 2
   go_simp
   refine stW AF (AS.out|>.set (j:=0) (v:= .slice a5 n5 c5) 1 rfl|>.set (j:=1) (v:= .bool m5) 1 rfl|>.set (j:=2) (v:= .slice d5 e5 f5) 1 rfl) ?_
   intro Aq AT Ab
   clear AF Kq AS cQ0 fQ0 cQ1 fQ1 cQ2 fQ2 A2
   try simp only [Act.put]
   refine rdy1 3 rfl (fun Kq AF=>?_)
   have cQ0:=AT.out.c 2 0
   have fQ0:=AT.out.f 2 0
   have cQ1:=AT.out.c 2 1
   have fQ1:=AT.out.f 2 1
   have cQ2:=AT.out.c 2 2
   have fQ2:=AT.out.f 2 2
   go_simp
   refine stW AF (AT.out|>.set (j:=0) (v:= .slice a6 n6 c6) 2 rfl|>.set (j:=1) (v:= .bool m6) 2 rfl|>.set (j:=2) (v:= .slice d6 e6 f6) 2 rfl) ?_
   intro Ar Ac Am
   clear AF Kq AT cQ0 fQ0 cQ1 fQ1 cQ2 fQ2 Ab
   try simp only [Act.put]
   refine wpAnyH_done (by kernel_rfl) ?_ _
   exact⟨rfl,ζ ⟨_,_,rfl,Ac.out⟩⟩
  case rest2=>
   rintro e a' W' ⟨rfl,h⟩
   obtain ⟨v24,v25,rfl,hZ⟩:=h.out
   have hdf:W'.heap[D]? =some (.deferred (some [])):=by
    refine((hZ.r 2 rfl).2 D (Array.getElem?_eq_some_iff.1 hDs.out).1 (fun hm=>?_)).trans hDs.out
    simp at hm
    have:=HZ.out
    have:=HD.out
    omega
   have hY:=(hZ.pick [] rfl).put (o':= .deferred none) (show w.heap.size<=D from Nat.le_trans hle HD.out) hdf rfl
   gi_wp2
   refine⟨by simp,.inl ⟨_,_,rfl,run_takeDeferred hdf,?_⟩⟩
   have q0:=hY.c 1 0
   have q1:=hY.c 1 1
   have q2:=hY.c 1 2
   have q3:=hY.c 2 0
   have q4:=hY.c 2 1
   have q5:=hY.c 2 2
   exact⟨_,by simp [results,Tryz.results109,go_sem,q0,q1,q2,q3,q4,q5],a5,n5,c5,m5,d5,e5,f5,a6,n6,c6,m6,d6,e6,f6,rfl,by rw [<-HX.out.1];exact(hZ.r 0 rfl).putObj D _ _ hdf rfl,by rw [<-HX.out.2];exact(hZ.r 1 rfl).putObj D _ _ hdf rfl,hY.be⟩
end
def strB (l:List Pt) (a b:Int):Bool:=hasB l a && hasB l b && decide (a < b)
def strErr (l:List Pt) (a b:Int):Int:=if profB l=true then(if strB l a b=true then 0 else 11)else 2
theorem strErr_bad {l:List Pt} {a b:Int} (h:profB l=false):strErr l a b=2:=by unfold strErr;rw [h];rfl
theorem strErr_no {l:List Pt} {a b:Int} (h:profB l=true) (h2:strB l a b=false):strErr l a b=11:=by unfold strErr;rw [if_pos h,h2];rfl
theorem strErr_ok {l:List Pt} {a b:Int} (h:profB l=true) (h2:strB l a b=true):strErr l a b=0:=by unfold strErr;rw [if_pos h,if_pos h2]
theorem strErr_zero {l:List Pt} {a b:Int} (h:strErr l a b=0):Strt l a b:=by
 unfold strErr at h
 split at h
 ·rename_i h1
  split at h
  ·rename_i h2
   unfold strB at h2
   simp only [Bool.and_eq_true,decide_eq_true_eq]at h2
   exact⟨prof_iff.1 h1,(inB_iff.1 h2.1.1).1,h2.2,(inB_iff.1 h2.1.2).2⟩
  ·cases h
 ·cases h
def RetRRE (w:World) (p q:Rat) (k:Int) (e:Ending) (w':World):Prop:=∃ (a5:OA) (n5 c5:Nat) (m5:Bool) (d5:OA) (e5 f5:Nat) (a6:OA) (n6 c6:Nat) (m6:Bool) (d6:OA) (e6 f6:Nat),e= .returned (.tuple #[.agg #[.slice a5 n5 c5,.bool m5,.slice d5 e5 f5],.agg #[.slice a6 n6 c6,.bool m6,.slice d6 e6 f6],.int .i64 k])/\Rd w' (.slice a5 n5 c5) m5 (.slice d5 e5 f5) (p)/\Rd w' (.slice a6 n6 c6) m6 (.slice d6 e6 f6) (q)/\Below w.heap.size w w'
section
variable (w:World)
theorem hground_ok (sa:OA) (sn sc:Nat) (l:List Pt) (x:Int) (hs:Sx 2 w sa sn sc (L2 l)) (hb:profB l=true) (hx:hasB l x=true):Calls Tryz.prog 42 #[.slice sa sn sc,.int .i64 x] w (RetRE w (grd l x) 0):=by
 have hC:=ζ ((Sy.enter w).al w.heap.size #[.slice none 0 0,.bool false,.slice none 0 0] 42 rfl)
 have HK:=ζ (fun W (hW:Below w.heap.size w W)=>hcheck_any W sa sn sc l (hs.below hW))
 have HH:=ζ (fun W (hW:Below w.heap.size w W)=>has_any W sa sn sc l x (hs.below hW) (by have:=hs.n2;have:=(prof_iff.1 hb).two;omega))
 rw [profErr_yes hb]at HK
 have HG:=ζ (fun W (hW:Below w.heap.size w W)=>ground_any W sa sn sc l x (hs.below hW) (prof_iff.1 hb) (inB_iff.1 hx).1 (inB_iff.1 hx).2)
 rw [hx]at HH
 clear hb hs hx
 go_enter Tryz.func42,Tryz.ntmps42
 go_wp2_with fail
 refine(HK.out _ hC.out.be).mono ?_
 rintro e w1 ⟨rfl,hb⟩
 have hD:=ζ (hC.out.call hb)
 clear hb hC
 go_wp2_with fail
 refine(HH.out _ hD.out.be).mono ?_
 rintro e w2 ⟨rfl,hb⟩
 have hE:=ζ (hD.out.call hb)
 clear hb hD
 go_wp2_with fail
 refine(HG.out _ hE.out.be).mono ?_
 rintro e w3 ⟨a3,n3,c3,m3,d3,e3,f3,rfl,hz,hb⟩
 have hG:=ζ ((hE.out.call hb).pR rfl rfl hz)
 clear hb hE hz
 have AG:=hG.out.c 0 0
 have AA:=hG.out.f 0 0
 have AH:=hG.out.c 0 1
 have AB:=hG.out.f 0 1
 have AI:=hG.out.c 0 2
 have AC:=hG.out.f 0 2
 go_wp2
 have hZ:=ζ (hG.out|>.set (j:=0) (v:= .slice a3 n3 c3) 0 rfl|>.set (j:=1) (v:= .bool m3) 0 rfl|>.set (j:=2) (v:= .slice d3 e3 f3) 0 rfl)
 clear hG
 refine ret_sy hZ.out (v:= .tuple #[.agg #[.slice a3 n3 c3,.bool m3,.slice d3 e3 f3],.int .i64 0]) (fun hF=>?_) rfl (fun hF=>⟨_,_,_,_,_,_,_,rfl,hF.r 0 rfl,hF.be⟩)
 have g0_0:=hF.c 0 0
 have g0_1:=hF.c 0 1
 have g0_2:=hF.c 0 2
 simp [results,Tryz.results42,go_sem,g0_0,g0_1,g0_2]
theorem mW8_1 {P_ : Prop} (h : P_ := by
 have g0:=hF.c 0 0
 have g1:=hF.c 0 1
 have g2:=hF.c 0 2
 simp [results,Tryz.results74,go_sem,g0,g1,g2]) : P_ := h
theorem mW8_0 {P_ : Prop} (h : P_ := by
 rw [HE.out]
 clear h1 h2 HE HY HN HS
 go_enter Tryz.func74,Tryz.ntmps74
 go_wp2_with fail
 refine(HK.out _ hC.out.be).mono ?_
 rintro e w1 ⟨rfl,hb⟩
 have hD:=ζ (hC.out.call hb)
 clear hb hC
 have y1_0:=hD.out.c 1 0
 go_wp2_with fail
 refine(HA.out _ hD.out.be).mono ?_
 rintro e w2 ⟨rfl,hb⟩
 have hE:=ζ (hD.out.call hb)
 clear hb hD y1_0
 have y1_0:=hE.out.c 1 0
 go_wp2_with fail
 refine(HB.out _ hE.out.be).mono ?_
 rintro e w3 ⟨rfl,hb⟩
 have hG:=ζ (hE.out.call hb)
 clear hb hE y1_0
 have AG:=hG.out.c 0 0
 have AA:=hG.out.f 0 0
 have AH:=hG.out.c 0 1
 have AB:=hG.out.f 0 1
 have AI:=hG.out.c 0 2
 have AC:=hG.out.f 0 2
 have AJ:=hG.out.c 1 0
 have AD:=hG.out.f 1 0
 have AK:=hG.out.c 1 1
 have AE:=hG.out.f 1 1
 have AL:=hG.out.c 1 2
 have AF:=hG.out.f 1 2
 go_wp2
 refine ret_sy (hG.out|>.set (j:=0) (v:= .slice sa sn sc) 0 rfl|>.set (j:=1) (v:= .int .i64 a) 0 rfl|>.set (j:=2) (v:= .int .i64 b) 0 rfl) (v:= .tuple #[.agg #[.slice sa sn sc,.int .i64 a,.int .i64 b],.int .i64 11]) (fun hF=>?_) rfl (fun hF=>⟨rfl,hF.be⟩)
 exact mW8_1) : P_ := h
theorem hstretched_any (sa:OA) (sn sc:Nat) (l:List Pt) (a b:Int) (hs:Sx 2 w sa sn sc (L2 l)):Calls Tryz.prog 74 #[.slice sa sn sc,.int .i64 a,.int .i64 b] w (Gives (.tuple #[.agg #[.slice sa sn sc,.int .i64 a,.int .i64 b],.int .i64 (strErr l a b)]) w):=by
 have HK:=ζ (fun W (hW:Below w.heap.size w W)=>hcheck_any W sa sn sc l (hs.below hW))
 have hC:=ζ (((Sy.enter w).al w.heap.size #[.slice none 0 0,.int .i64 0,.int .i64 0] 120 rfl).al (w.heap.size+1) #[.slice sa sn sc,.int .i64 a,.int .i64 b] 120 (by simp))
 cases hb:profB l
 ·have HE:=ζ (strErr_bad (a:=a) (b:=b) hb)
  rw [profErr_no hb]at HK
  rw [HE.out]
  clear hb hs HE
  go_enter Tryz.func74,Tryz.ntmps74
  go_wp2_with fail
  refine(HK.out _ hC.out.be).mono ?_
  rintro e w1 ⟨rfl,hb⟩
  have hD:=ζ (hC.out.call hb)
  clear hb hC
  have AG:=hD.out.c 0 0
  have AA:=hD.out.f 0 0
  have AH:=hD.out.c 0 1
  have AB:=hD.out.f 0 1
  have AI:=hD.out.c 0 2
  have AC:=hD.out.f 0 2
  have AJ:=hD.out.c 1 0
  have AD:=hD.out.f 1 0
  have AK:=hD.out.c 1 1
  have AE:=hD.out.f 1 1
  have AL:=hD.out.c 1 2
  have AF:=hD.out.f 1 2
  go_wp2
  refine ret_sy (hD.out|>.set (j:=0) (v:= .slice sa sn sc) 0 rfl|>.set (j:=1) (v:= .int .i64 a) 0 rfl|>.set (j:=2) (v:= .int .i64 b) 0 rfl) (v:= .tuple #[.agg #[.slice sa sn sc,.int .i64 a,.int .i64 b],.int .i64 2]) (fun hF=>?_) rfl (fun hF=>⟨rfl,hF.be⟩)
  exact mW8_1
 ·have h0:0 < sn:=by have:=hs.n2;have:=(prof_iff.1 hb).two;omega
  have HA:=ζ (fun W (hW:Below w.heap.size w W)=>has_any W sa sn sc l a (hs.below hW) h0)
  have HB:=ζ (fun W (hW:Below w.heap.size w W)=>has_any W sa sn sc l b (hs.below hW) h0)
  have HY:=ζ (strErr_ok (a:=a) (b:=b) hb)
  have HN:=ζ (strErr_no (a:=a) (b:=b) hb)
  rw [profErr_yes hb]at HK
  have HS:=ζ (show strB l a b=(hasB l a && hasB l b && decide (a < b))from rfl)
  clear hb hs h0
  generalize strErr l a b=er at*
  generalize strB l a b=sb at*
  cases h1:hasB l a
  ·rw [h1]at HA HS
   have HE:=ζ (HN.out (by rw [HS.out];rfl))
   rw [HE.out]
   clear h1 HE HY HN HS HB
   go_enter Tryz.func74,Tryz.ntmps74
   go_wp2_with fail
   refine(HK.out _ hC.out.be).mono ?_
   rintro e w1 ⟨rfl,hb⟩
   have hD:=ζ (hC.out.call hb)
   clear hb hC
   have y1_0:=hD.out.c 1 0
   go_wp2_with fail
   refine(HA.out _ hD.out.be).mono ?_
   rintro e w2 ⟨rfl,hb⟩
   have hE:=ζ (hD.out.call hb)
   clear hb hD y1_0
   have AG:=hE.out.c 0 0
   have AA:=hE.out.f 0 0
   have AH:=hE.out.c 0 1
   have AB:=hE.out.f 0 1
   have AI:=hE.out.c 0 2
   have AC:=hE.out.f 0 2
   have AJ:=hE.out.c 1 0
   have AD:=hE.out.f 1 0
   have AK:=hE.out.c 1 1
   have AE:=hE.out.f 1 1
   have AL:=hE.out.c 1 2
   have AF:=hE.out.f 1 2
   go_wp2
   refine ret_sy (hE.out|>.set (j:=0) (v:= .slice sa sn sc) 0 rfl|>.set (j:=1) (v:= .int .i64 a) 0 rfl|>.set (j:=2) (v:= .int .i64 b) 0 rfl) (v:= .tuple #[.agg #[.slice sa sn sc,.int .i64 a,.int .i64 b],.int .i64 11]) (fun hF=>?_) rfl (fun hF=>⟨rfl,hF.be⟩)
   exact mW8_1
  ·rw [h1]at HA HS
   cases h2:hasB l b
   ·rw [h2]at HB HS
    have HE:=ζ (HN.out (by rw [HS.out];rfl))
    exact mW8_0
   ·rw [h2]at HB HS
    by_cases h3:a < b
    ·have HE:=ζ (HY.out (by rw [HS.out,decide_eq_true h3];rfl))
     rw [HE.out]
     clear h1 h2 HE HY HN HS
     go_enter Tryz.func74,Tryz.ntmps74
     go_wp2_with fail
     refine(HK.out _ hC.out.be).mono ?_
     rintro e w1 ⟨rfl,hb⟩
     have hD:=ζ (hC.out.call hb)
     clear hb hC
     have y1_0:=hD.out.c 1 0
     go_wp2_with fail
     refine(HA.out _ hD.out.be).mono ?_
     rintro e w2 ⟨rfl,hb⟩
     have hE:=ζ (hD.out.call hb)
     clear hb hD y1_0
     have y1_0:=hE.out.c 1 0
     go_wp2_with fail
     refine(HB.out _ hE.out.be).mono ?_
     rintro e w3 ⟨rfl,hb⟩
     have hG:=ζ (hE.out.call hb)
     clear hb hE y1_0
     have AG:=hG.out.c 0 0
     have AA:=hG.out.f 0 0
     have AH:=hG.out.c 0 1
     have AB:=hG.out.f 0 1
     have AI:=hG.out.c 0 2
     have AC:=hG.out.f 0 2
     have AJ:=hG.out.c 1 0
     have AD:=hG.out.f 1 0
     have AK:=hG.out.c 1 1
     have AE:=hG.out.f 1 1
     have AL:=hG.out.c 1 2
     have AF:=hG.out.f 1 2
     go_wp2
     refine ret_sy (hG.out|>.set (j:=0) (v:= .slice sa sn sc) 0 rfl|>.set (j:=1) (v:= .int .i64 a) 0 rfl|>.set (j:=2) (v:= .int .i64 b) 0 rfl) (v:= .tuple #[.agg #[.slice sa sn sc,.int .i64 a,.int .i64 b],.int .i64 0]) (fun hF=>?_) rfl (fun hF=>⟨rfl,hF.be⟩)
     exact mW8_1
    ·have HE:=ζ (HN.out (by rw [HS.out,decide_eq_false h3];rfl))
     exact mW8_0
end
section
variable (w:World)
theorem hAreas_bad (sa:OA) (sn sc:Nat) (l:List Pt) (a b:Int) (hs:Sx 2 w sa sn sc (L2 l)) (z er:Int) (he:strErr l a b=er) (h0:er≠0):Calls Tryz.prog 39 #[.slice sa sn sc,.int .i64 a,.int .i64 b,.int .i64 z] w (RetRRE w 0 0 er):=by
 have HK:=ζ (fun W (hW:Below w.heap.size w W)=>hstretched_any W sa sn sc l a b (hs.below hW))
 rw [he]at HK
 have e0:(er !=0)=true:=bne_iff_ne.2 h0
 have hC:=ζ (((Sy.enter w).al w.heap.size #[.slice none 0 0,.bool false,.slice none 0 0] 42 rfl).al (w.heap.size+1) #[.slice none 0 0,.bool false,.slice none 0 0] 42 (by simp))
 clear he hs h0
 go_enter Tryz.func39,Tryz.ntmps39
 go_wp2_with fail
 refine(HK.out _ hC.out.be).mono ?_
 rintro e w1 ⟨rfl,hb⟩
 have hD:=ζ (hC.out.call hb)
 clear hb hC
 have hE:=ζ (hD.out.al w1.heap.size #[.slice sa sn sc,.int .i64 a,.int .i64 b] 120 rfl)
 go_upto_region 2 with fail
 refine wp_geny hE.out ?_
 intro V1 hc
 obtain ⟨b2,hb2⟩:∃b2,w1.heap.size=b2:=⟨_,rfl⟩
 rw [hb2]at hc⊢
 have hG:Hid (Sy w V1 [(w.heap.size,#[.slice none 0 0,.bool false,.slice none 0 0],42),((w.heap.size+1),#[.slice none 0 0,.bool false,.slice none 0 0],42),(b2,#[.slice sa sn sc,.int .i64 a,.int .i64 b],120)] [] []):=ζ hc
 clear hc hD hE hb2
 have AK:=hG.out.c 0 0
 have AG:=hG.out.f 0 0
 have AL:=hG.out.c 0 1
 have AH:=hG.out.f 0 1
 have AM:=hG.out.c 0 2
 have AI:=hG.out.f 0 2
 have AV:=hG.out.c 1 0
 have AN:=hG.out.f 1 0
 have AW:=hG.out.c 1 1
 have AO:=hG.out.f 1 1
 have AX:=hG.out.c 1 2
 have AP:=hG.out.f 1 2
 go_wp2
 have hZ:=ζ ((hG.out|>.set (j:=0) (v:= .slice none 0 0) 0 rfl|>.set (j:=1) (v:= .bool false) 0 rfl|>.set (j:=2) (v:= .slice none 0 0) 0 rfl|>.set (j:=0) (v:= .slice none 0 0) 1 rfl|>.set (j:=1) (v:= .bool false) 1 rfl|>.set (j:=2) (v:= .slice none 0 0) 1 rfl).pR rfl rfl Rd.nil)
 refine ret_sy hZ.out (v:= .tuple #[.agg #[.slice none 0 0,.bool false,.slice none 0 0],.agg #[.slice none 0 0,.bool false,.slice none 0 0],.int .i64 er]) (fun hF=>?_) rfl (fun hF=>⟨_,_,_,_,_,_,_,_,_,_,_,_,_,_,rfl,hF.r 0 rfl,hF.r 0 rfl,hF.be⟩)
 have g0_0:=hF.c 0 0
 have g0_1:=hF.c 0 1
 have g0_2:=hF.c 0 2
 have g1_0:=hF.c 1 0
 have g1_1:=hF.c 1 1
 have g1_2:=hF.c 1 2
 simp [results,Tryz.results39,go_sem,g0_0,g0_1,g0_2,g1_0,g1_1,g1_2]
theorem hAreas_far (sa:OA) (sn sc:Nat) (l:List Pt) (a b:Int) (hs:Sx 2 w sa sn sc (L2 l)) (z:Int) (he:strErr l a b=0) (hz:inB z (-100000) 100000=false):Calls Tryz.prog 39 #[.slice sa sn sc,.int .i64 a,.int .i64 b,.int .i64 z] w (RetRRE w 0 0 3):=by
 have HK:=ζ (fun W (hW:Below w.heap.size w W)=>hstretched_any W sa sn sc l a b (hs.below hW))
 rw [he]at HK
 have hC:=ζ (((Sy.enter w).al w.heap.size #[.slice none 0 0,.bool false,.slice none 0 0] 42 rfl).al (w.heap.size+1) #[.slice none 0 0,.bool false,.slice none 0 0] 42 (by simp))
 clear he hs
 go_enter Tryz.func39,Tryz.ntmps39
 go_wp2_with fail
 refine(HK.out _ hC.out.be).mono ?_
 rintro e w1 ⟨rfl,hb⟩
 have hD:=ζ (hC.out.call hb)
 clear hb hC
 have hE:=ζ (hD.out.al w1.heap.size #[.slice sa sn sc,.int .i64 a,.int .i64 b] 120 rfl)
 go_upto_region 2 with fail
 refine wp_geny hE.out ?_
 intro V1 hc
 obtain ⟨b2,hb2⟩:∃b2,w1.heap.size=b2:=⟨_,rfl⟩
 rw [hb2]at hc⊢
 have hG:Hid (Sy w V1 [(w.heap.size,#[.slice none 0 0,.bool false,.slice none 0 0],42),((w.heap.size+1),#[.slice none 0 0,.bool false,.slice none 0 0],42),(b2,#[.slice sa sn sc,.int .i64 a,.int .i64 b],120)] [] []):=ζ hc
 clear hc hD hE hb2
 have AK:=hG.out.c 0 0
 have AG:=hG.out.f 0 0
 have AL:=hG.out.c 0 1
 have AH:=hG.out.f 0 1
 have AM:=hG.out.c 0 2
 have AI:=hG.out.f 0 2
 have AV:=hG.out.c 1 0
 have AN:=hG.out.f 1 0
 have AW:=hG.out.c 1 1
 have AO:=hG.out.f 1 1
 have AX:=hG.out.c 1 2
 have AP:=hG.out.f 1 2
 go_wp2_with ((with_reducible refine(hwithin_any _ _ _ _).mono ?_);rintro e w2 ⟨rfl,rfl⟩)
 have hZ:=ζ ((hG.out|>.set (j:=0) (v:= .slice none 0 0) 0 rfl|>.set (j:=1) (v:= .bool false) 0 rfl|>.set (j:=2) (v:= .slice none 0 0) 0 rfl|>.set (j:=0) (v:= .slice none 0 0) 1 rfl|>.set (j:=1) (v:= .bool false) 1 rfl|>.set (j:=2) (v:= .slice none 0 0) 1 rfl).pR rfl rfl Rd.nil)
 refine ret_sy hZ.out (v:= .tuple #[.agg #[.slice none 0 0,.bool false,.slice none 0 0],.agg #[.slice none 0 0,.bool false,.slice none 0 0],.int .i64 3]) (fun hF=>?_) rfl (fun hF=>⟨_,_,_,_,_,_,_,_,_,_,_,_,_,_,rfl,hF.r 0 rfl,hF.r 0 rfl,hF.be⟩)
 have g0_0:=hF.c 0 0
 have g0_1:=hF.c 0 1
 have g0_2:=hF.c 0 2
 have g1_0:=hF.c 1 0
 have g1_1:=hF.c 1 1
 have g1_2:=hF.c 1 2
 simp [results,Tryz.results39,go_sem,g0_0,g0_1,g0_2,g1_0,g1_1,g1_2]
theorem hAreas_ok (sa:OA) (sn sc:Nat) (l:List Pt) (a b:Int) (hs:Sx 2 w sa sn sc (L2 l)) (z:Int) (he:strErr l a b=0) (hz:inB z (-100000) 100000=true):Calls Tryz.prog 39 #[.slice sa sn sc,.int .i64 a,.int .i64 b,.int .i64 z] w (RetRRE w (above l a b z) (below l a b z) 0):=by
 have HK:=ζ (fun W (hW:Below w.heap.size w W)=>hstretched_any W sa sn sc l a b (hs.below hW))
 rw [he]at HK
 have hzz:InZ z:=by have:=inB_iff.1 hz;unfold InZ;omega
 have HA:=ζ (fun W (hW:Below w.heap.size w W)=>above_any W sa sn sc l a b z (strErr_zero he) hzz (hs.below hW))
 have HB:=ζ (fun W (hW:Below w.heap.size w W)=>below_any W sa sn sc l a b z (strErr_zero he) hzz (hs.below hW))
 have hC:=ζ (((Sy.enter w).al w.heap.size #[.slice none 0 0,.bool false,.slice none 0 0] 42 rfl).al (w.heap.size+1) #[.slice none 0 0,.bool false,.slice none 0 0] 42 (by simp))
 clear he hs hzz
 generalize above l a b z=ab at*
 generalize below l a b z=be at*
 go_enter Tryz.func39,Tryz.ntmps39
 go_wp2_with fail
 refine(HK.out _ hC.out.be).mono ?_
 rintro e w1 ⟨rfl,hb⟩
 have hD:=ζ (hC.out.call hb)
 clear hb hC
 have hE:=ζ (hD.out.al w1.heap.size #[.slice sa sn sc,.int .i64 a,.int .i64 b] 120 rfl)
 go_upto_region 6 with ((with_reducible refine(hwithin_any _ _ _ _).mono ?_);rintro e w2 ⟨rfl,rfl⟩)
 refine wp_geny hE.out ?_
 intro V1 hc
 obtain ⟨b2,hb2⟩:∃b2,w1.heap.size=b2:=⟨_,rfl⟩
 rw [hb2]at hc⊢
 obtain ⟨b1,hb1⟩:∃b1,w.heap.size+1=b1:=⟨_,rfl⟩
 obtain ⟨b0,hb0⟩:∃b0,w.heap.size=b0:=⟨_,rfl⟩
 have hG:Hid (Sy w V1 [(b0,#[.slice none 0 0,.bool false,.slice none 0 0],42),(b1,#[.slice none 0 0,.bool false,.slice none 0 0],42),(b2,#[.slice sa sn sc,.int .i64 a,.int .i64 b],120)] [] []):=ζ (by rw [<-hb1,<-hb0];exact hc)
 rw [hb1,hb0]
 clear hc hD hE hb0 hb1 hb2
 refine wp_region_held_drew (S:=(fun w'=>w'.cell? ⟨b2,0,none⟩=some (.slice sa sn sc)/\w'.cell? ⟨b2,1,none⟩=some (.int .i64 a)/\w'.cell? ⟨b2,2,none⟩=some (.int .i64 b)/\True)) (by kernel_rfl) ⟨hG.out.drew.c 2 0,hG.out.drew.c 2 1,hG.out.drew.c 2 2,trivial⟩ (fun hH=>?_)
 refine wpAnyH_geny (show Sy w _ [(b0,#[.slice none 0 0,.bool false,.slice none 0 0],42),(b1,#[.slice none 0 0,.bool false,.slice none 0 0],42),(b2,#[.slice sa sn sc,.int .i64 a,.int .i64 b],120)] [] []from hG.out.drew) hH ?_
 intro AZ hc AC
 have AE:=ζ hc
 clear hc hH hG
 refine tkA 0 rfl AC ?_
 try simp only [zP]
 refine tkA 1 rfl AC ?_
 try simp only [zP]
 refine tkA 3 rfl AC ?_
 try simp only [zP]
 refine tkA 4 rfl AC ?_
 try simp only [zP]
 refine rdy1 2 rfl (fun Kq AD=>?_)
 go_simp
 go_at_call 70
 refine(HA.out _ AE.out.be).mono ?_
 rintro e wT ⟨a5,n5,c5,m5,d5,e5,f5,rfl,hz,hb⟩
 (try go_wp2_with fail)
 refine stepZ AD (show Sy w _ [(b0,#[.slice none 0 0,.bool false,.slice none 0 0],42),(b1,#[.slice none 0 0,.bool false,.slice none 0 0],42),(b2,#[.slice sa sn sc,.int .i64 a,.int .i64 b],120)] [] [(fun V=>Rd V (.slice a5 n5 c5) m5 (.slice d5 e5 f5) (ab))]from((AE.out.call hb).pR rfl rfl hz)) (fun _ hX=>⟨hX.c 2 0,hX.c 2 1,hX.c 2 2,trivial⟩) ?_
 intro A0 AF AQ
 clear AD Kq AE hb hz AC
 try simp only [zP]
 refine rdy1 5 rfl (fun Kq AD=>?_)
 go_simp
 go_at_call 89
 refine(HB.out _ AF.out.be).mono ?_
 rintro e wT ⟨a6,n6,c6,m6,d6,e6,f6,rfl,hz,hb⟩
 (try go_wp2_with fail)
 refine stepZ AD (show Sy w _ [(b0,#[.slice none 0 0,.bool false,.slice none 0 0],42),(b1,#[.slice none 0 0,.bool false,.slice none 0 0],42),(b2,#[.slice sa sn sc,.int .i64 a,.int .i64 b],120)] [] [(fun V=>Rd V (.slice a5 n5 c5) m5 (.slice d5 e5 f5) (ab)),(fun V=>Rd V (.slice a6 n6 c6) m6 (.slice d6 e6 f6) (be))]from((AF.out.call hb).pR rfl rfl hz)) (fun _ hX=>⟨hX.c 2 0,hX.c 2 1,hX.c 2 2,trivial⟩) ?_
 intro A1 AA AR
 clear AD Kq AF hb hz AQ
 try simp only [zP]
 refine rdy1 6 rfl (fun Kq AD=>?_)
 have cQ0:=AA.out.c 0 0
 have fQ0:=AA.out.f 0 0
 have cQ1:=AA.out.c 0 1
 have fQ1:=AA.out.f 0 1
 have cQ2:=AA.out.c 0 2
 have fQ2:=AA.out.f 0 2
 go_simp
 refine stepZ AD (show Sy w _ [(b0,#[.slice a5 n5 c5,.bool m5,.slice d5 e5 f5],42),(b1,#[.slice none 0 0,.bool false,.slice none 0 0],42),(b2,#[.slice sa sn sc,.int .i64 a,.int .i64 b],120)] [] [(fun V=>Rd V (.slice a5 n5 c5) m5 (.slice d5 e5 f5) (ab)),(fun V=>Rd V (.slice a6 n6 c6) m6 (.slice d6 e6 f6) (be))]from(AA.out|>.set (j:=0) (v:= .slice a5 n5 c5) 0 rfl|>.set (j:=1) (v:= .bool m5) 0 rfl|>.set (j:=2) (v:= .slice d5 e5 f5) 0 rfl)) (fun _ hX=>⟨hX.c 2 0,hX.c 2 1,hX.c 2 2,trivial⟩) ?_
 intro A2 AB AS
 clear AD Kq AA cQ0 fQ0 cQ1 fQ1 cQ2 fQ2 AR
 try simp only [Act.put]
 refine rdy1 7 rfl (fun Kq AD=>?_)
 have cQ0:=AB.out.c 1 0
 have fQ0:=AB.out.f 1 0
 have cQ1:=AB.out.c 1 1
 have fQ1:=AB.out.f 1 1
 have cQ2:=AB.out.c 1 2
 have fQ2:=AB.out.f 1 2
 go_simp
 refine stepZ AD (show Sy w _ [(b0,#[.slice a5 n5 c5,.bool m5,.slice d5 e5 f5],42),(b1,#[.slice a6 n6 c6,.bool m6,.slice d6 e6 f6],42),(b2,#[.slice sa sn sc,.int .i64 a,.int .i64 b],120)] [] [(fun V=>Rd V (.slice a5 n5 c5) m5 (.slice d5 e5 f5) (ab)),(fun V=>Rd V (.slice a6 n6 c6) m6 (.slice d6 e6 f6) (be))]from(AB.out|>.set (j:=0) (v:= .slice a6 n6 c6) 1 rfl|>.set (j:=1) (v:= .bool m6) 1 rfl|>.set (j:=2) (v:= .slice d6 e6 f6) 1 rfl)) (fun _ hX=>⟨hX.c 2 0,hX.c 2 1,hX.c 2 2,trivial⟩) ?_
 intro A3 AJ AT
 clear AD Kq AB cQ0 fQ0 cQ1 fQ1 cQ2 fQ2 AS
 try simp only [Act.put]
 refine rdy1 8 rfl (fun Kq AD=>?_)
 go_simp
 refine stepZ AD (show Sy w _ [(b0,#[.slice a5 n5 c5,.bool m5,.slice d5 e5 f5],42),(b1,#[.slice a6 n6 c6,.bool m6,.slice d6 e6 f6],42),(b2,#[.slice sa sn sc,.int .i64 a,.int .i64 b],120)] [] [(fun V=>Rd V (.slice a5 n5 c5) m5 (.slice d5 e5 f5) (ab)),(fun V=>Rd V (.slice a6 n6 c6) m6 (.slice d6 e6 f6) (be))]from AJ.out) (fun _ hX=>⟨hX.c 2 0,hX.c 2 1,hX.c 2 2,trivial⟩) ?_
 intro A4 AU AY
 clear AD Kq AJ AT
 try simp only [zP]
 refine wpAnyH_done (by kernel_rfl) ?_ _
 go_wp2
 refine ret_sy AU.out (v:= .tuple #[.agg #[.slice a5 n5 c5,.bool m5,.slice d5 e5 f5],.agg #[.slice a6 n6 c6,.bool m6,.slice d6 e6 f6],.int .i64 0]) (fun hF=>?_) rfl (fun hF=>⟨a5,n5,c5,m5,d5,e5,f5,a6,n6,c6,m6,d6,e6,f6,rfl,hF.r 0 rfl,hF.r 1 rfl,hF.be⟩)
 have g0_0:=hF.c 0 0
 have g0_1:=hF.c 0 1
 have g0_2:=hF.c 0 2
 have g1_0:=hF.c 1 0
 have g1_1:=hF.c 1 1
 have g1_2:=hF.c 1 2
 simp [results,Tryz.results39,go_sem,g0_0,g0_1,g0_2,g1_0,g1_1,g1_2]
theorem hPool_of (sa:OA) (sn sc:Nat) (a b:Int) (z:Int) (p q:Rat) (k:Int) (hA:∀W,Below w.heap.size w W->Calls Tryz.prog 39 #[.slice sa sn sc,.int .i64 a,.int .i64 b,.int .i64 z] W (RetRRE W p q k)):Calls Tryz.prog 48 #[.slice sa sn sc,.int .i64 a,.int .i64 b,.int .i64 z] w (RetRE w q k):=by
 have HA:=ζ hA
 clear hA
 have hC:=ζ ((Sy.enter w).al w.heap.size #[.slice none 0 0,.bool false,.slice none 0 0] 42 rfl)
 go_enter Tryz.func48,Tryz.ntmps48
 go_wp2_with fail
 refine(HA.out _ hC.out.be).mono ?_
 rintro e w1 ⟨a5,n5,c5,m5,d5,e5,f5,a6,n6,c6,m6,d6,e6,f6,rfl,hz1,hz2,hb⟩
 have hD:=ζ ((hC.out.call hb).pR rfl rfl hz2)
 clear hb hC hz1 hz2
 have AK:=hD.out.c 0 0
 have AG:=hD.out.f 0 0
 have AL:=hD.out.c 0 1
 have AH:=hD.out.f 0 1
 have AM:=hD.out.c 0 2
 have AI:=hD.out.f 0 2
 have l0:=hD.out.lt 0 rfl
 go_wp2
 have hZ:=ζ (((hD.out|>.set (j:=0) (v:= .slice a6 n6 c6) 0 rfl|>.set (j:=1) (v:= .bool m6) 0 rfl|>.set (j:=2) (v:= .slice d6 e6 f6) 0 rfl).row (o:= .cells #[.slice a5 n5 c5,.bool m5,.slice d5 e5 f5] 42)).row (o:= .cells #[.slice a6 n6 c6,.bool m6,.slice d6 e6 f6] 42))
 refine ret_sy hZ.out (v:= .tuple #[.agg #[.slice a6 n6 c6,.bool m6,.slice d6 e6 f6],.int .i64 k]) (fun hF=>?_) rfl (fun hF=>⟨_,_,_,_,_,_,_,rfl,hF.r 0 rfl,hF.be⟩)
 have g0_0:=hF.c 0 0
 have g0_1:=hF.c 0 1
 have g0_2:=hF.c 0 2
 simp [results,Tryz.results48,go_sem,g0_0,g0_1,g0_2]
end
variable {l:List Pt} {a b:Int}
theorem Strt.in_pcs (hT:Strt l a b) {t:Int×Int} (ht:t∈Proofs.YthmdhlopeponcaaGreatDoor.pcs l a b):a<=t.1/\t.1 < t.2/\t.2<=b:=by
 obtain ⟨h1,h2,h3,_⟩:=hT.ok.stp_line (b:=b) 0 a (Nat.zero_le _) (Int.le_of_lt hT.lt) (fun h=>absurd h (Nat.lt_irrefl 0)) (fun _=>hT.lo) t ht
 exact⟨h1,h2,h3⟩
theorem Strt.below_mono (hT:Strt l a b) {y z:Int} (h:y<=z):below l a b y<=below l a b z:=by
 unfold below
 refine smQ_mono (fun t ht=>?_)
 obtain ⟨h1,h2,h3⟩:=hT.in_pcs ht
 have hc:=cast_le h
 unfold pieceB
 exact posQ_mono (by have:=cast_le (show(0:Int)<=t.2 - t.1 by omega);simpa using this) (by grind) (by grind)
theorem sums_bq {f:Int×Int->Rat} (hT:Strt l a b) (hf:∀t:Int×Int,a<=t.1->t.1 < t.2->t.2<=b->Bq 174 (f t)):Bq 7001 (smQ ((pcs l a b).map f)):=by
 have h:=smQ_bq (N:=174) (l:=(pcs l a b).map f) (by
  intro q hq
  obtain ⟨t,ht,rfl⟩:=List.mem_map.1 hq
  obtain ⟨h1,h2,h3⟩:=hT.in_pcs ht
  exact hf t h1 h2 h3)
 refine h.mono ?_
 have:=hT.ok.pcs_len a b
 rw [List.length_map]
 omega
theorem Strt.below_bq (hT:Strt l a b) {z:Int} (hz:InZ z):Bq 7001 (below l a b z):=sums_bq hT (pieceB_bq hT hz)
theorem Strt.above_bq (hT:Strt l a b) {z:Int} (hz:InZ z):Bq 7001 (above l a b z):=sums_bq hT (pieceA_bq hT hz)
theorem cmpQ_ge {x y:Rat} :0<=cmpQ x y↔y<=x:=by
 unfold cmpQ
 split
 ·rename_i h;constructor<;>intro _<;>first | omega | grind
 ·split
  ·constructor<;>intro _<;>first | omega | grind
  ·constructor<;>intro _<;>first | omega | grind
def poolB (l:List Pt) (a b area:Int) (n:Nat):Bool:=decide (0<=cmpQ (below l a b ((n:Int) - 100000)) (area:Rat))
def poolN (l:List Pt) (a b area:Int):Nat:=(List.range 200001).countP (fun i=> !poolB l a b area i)
theorem Strt.pool_mono (hT:Strt l a b) {area:Int} :∀x y,x<=y->y < 200001->poolB l a b area x=true->poolB l a b area y=true:=by
 intro x y h _ h1
 unfold poolB at*
 rw [decide_eq_true_eq,cmpQ_ge]at*
 have:=hT.below_mono (show(x:Int) - 100000<=(y:Int) - 100000 by omega)
 grind
def floodErr (l:List Pt) (a b area:Int):Int:=if strErr l a b=0 then(if inB area 1 1000000000000=true then(if poolN l a b area=200001 then 12 else 0)else 3)else strErr l a b
def floodLev (l:List Pt) (a b area:Int):Int:=if floodErr l a b area=0 then(poolN l a b area:Int) - 100000 else 0
section
variable (w:World)
theorem flood1_any (sa:OA) (sn sc:Nat) (l:List Pt) (a b:Int) (hs:Sx 2 w sa sn sc (L2 l)) (area:Int) (b0 b1:Nat) (n:Nat) (hn:n < 200001) (hT:Strt l a b) (ha:1<=area/\area<=1000000000000) (h0:w.cell? ⟨b0,0,none⟩=some (.slice sa sn sc)) (h1:w.cell? ⟨b0,1,none⟩=some (.int .i64 a)) (h2:w.cell? ⟨b0,2,none⟩=some (.int .i64 b))
  (h3:w.cell? ⟨b1,0,none⟩=some (.int .i64 area)) (l0:b0 < w.heap.size) (l1:b1 < w.heap.size):
  Calls Tryz.prog 88 #[.int .i64 n,.pointer (some ⟨b0,0,none⟩),.pointer (some ⟨b1,0,none⟩)] w (Gives (.bool (poolB l a b area n)) w):=by
 have HA0:=ζ (fun W (h:Below w.heap.size w W)=>(h.cell (p:=⟨b0,0,none⟩) l0).trans h0)
 have HA1:=ζ (fun W (h:Below w.heap.size w W)=>(h.cell (p:=⟨b0,1,none⟩) l0).trans h1)
 have HA2:=ζ (fun W (h:Below w.heap.size w W)=>(h.cell (p:=⟨b0,2,none⟩) l0).trans h2)
 have HA3:=ζ (fun W (h:Below w.heap.size w W)=>(h.cell (p:=⟨b1,0,none⟩) l1).trans h3)
 have hz:InZ ((n:Int) - 100000):=by unfold InZ;omega
 have HB:=ζ (fun W (hW:Below w.heap.size w W)=>below_any W sa sn sc l a b ((n:Int) - 100000) hT hz (hs.below hW))
 have B1:=ζ (hT.below_bq hz)
 have B2:=ζ (show Bq 41 (area:Rat)from Bq.int (n:=40) (by unfold Bd;omega))
 have HK:=ζ (show -9223372036854775808<=area/\area < 9223372036854775808 by omega)
 have HP:=ζ (show poolB l a b area n=decide (0<=cmpQ (below l a b ((n:Int) - 100000)) (area:Rat))from rfl)
 have wn:IntKind.i64.wrap ((n:Int) - 100000)=(n:Int) - 100000:=IntWalk.i64_in _ (by omega)
 rw [HP.out]
 generalize below l a b ((n:Int) - 100000)=bl at*
 clear hs hT ha h0 h1 h2 h3 l0 l1 hz HP
 have hC:=ζ (Sy.enter w)
 go_enter Tryz.func88,Tryz.ntmps88
 go_upto_region 1 with fail
 refine wp_geny hC.out ?_
 intro V1 hc
 have hS:=ζ hc
 clear hc hC
 refine wp_region_held_drew (S:=(fun w'=>w'.cell? ⟨b0,0,none⟩=some (.slice sa sn sc)/\w'.cell? ⟨b0,1,none⟩=some (.int .i64 a)/\w'.cell? ⟨b0,2,none⟩=some (.int .i64 b)/\w'.cell? ⟨b1,0,none⟩=some (.int .i64 area)/\True)) (by kernel_rfl) ⟨(HA0.out _ hS.out.drew.be),(HA1.out _ hS.out.drew.be),(HA2.out _ hS.out.drew.be),(HA3.out _ hS.out.drew.be),trivial⟩ (fun hH=>?_)
 refine wpAnyH_geny (show Sy w _ [] [] []from hS.out.drew) hH ?_
 intro AL hc AA
 have AC:=ζ hc
 clear hc hH hS
 refine tkA 0 rfl AA ?_
 try simp only [zP]
 refine tkA 1 rfl AA ?_
 try simp only [zP]
 refine tkA 2 rfl AA ?_
 try simp only [zP]
 refine tkA 4 rfl AA ?_
 try simp only [zP]
 refine rdy1 3 rfl (fun Kq AD=>?_)
 go_simp
 go_at_call 89
 refine(HB.out _ AC.out.be).mono ?_
 rintro e wT ⟨a5,n5,c5,m5,d5,e5,f5,rfl,hz,hb⟩
 (try go_wp2_with fail)
 refine stepZ AD (show Sy w _ [] [] [(fun V=>Rd V (.slice a5 n5 c5) m5 (.slice d5 e5 f5) (bl))]from((AC.out.call hb).pR rfl rfl hz)) (fun _ hX=>⟨(HA0.out _ hX.be),(HA1.out _ hX.be),(HA2.out _ hX.be),(HA3.out _ hX.be),trivial⟩) ?_
 intro AM AE AH
 clear AD Kq AC hb hz AA
 try simp only [zP]
 refine rdy1 5 rfl (fun Kq AD=>?_)
 go_simp
 go_at_call 45
 refine(of_any _ HK.out _).mono ?_
 rintro e wT ⟨a6,n6,c6,m6,d6,e6,f6,rfl,hz,hb⟩
 (try go_wp2_with fail)
 refine stepZ AD (show Sy w _ [] [] [(fun V=>Rd V (.slice a5 n5 c5) m5 (.slice d5 e5 f5) (bl)),(fun V=>Rd V (.slice a6 n6 c6) m6 (.slice d6 e6 f6) (area))]from((AE.out.call hb).pR rfl rfl hz)) (fun _ hX=>⟨(HA0.out _ hX.be),(HA1.out _ hX.be),(HA2.out _ hX.be),(HA3.out _ hX.be),trivial⟩) ?_
 intro AN AB AI
 clear AD Kq AE hb hz AH
 try simp only [zP]
 refine rdy1 6 rfl (fun Kq AD=>?_)
 go_simp
 go_at_call 41
 refine(hcmp_is (AB.out.r 0 rfl) (AB.out.r 1 rfl) B1.out B2.out (by omega) (by omega) rfl).mono ?_
 rintro e wT ⟨rfl,hb⟩
 (try go_wp2_with fail)
 refine stepZ AD (show Sy w _ [] [] [(fun V=>Rd V (.slice a5 n5 c5) m5 (.slice d5 e5 f5) (bl)),(fun V=>Rd V (.slice a6 n6 c6) m6 (.slice d6 e6 f6) (area))]from(AB.out.call hb)) (fun _ hX=>⟨(HA0.out _ hX.be),(HA1.out _ hX.be),(HA2.out _ hX.be),(HA3.out _ hX.be),trivial⟩) ?_
 intro AO AF AG
 clear AD Kq AB hb AI
 try simp only [zP]
 refine tkA 7 rfl AG ?_
 try simp only [zP]
 refine rdy1 8 rfl (fun Kq AD=>?_)
 go_simp
 refine stepZ AD (show Sy w _ [] [] [(fun V=>Rd V (.slice a5 n5 c5) m5 (.slice d5 e5 f5) (bl)),(fun V=>Rd V (.slice a6 n6 c6) m6 (.slice d6 e6 f6) (area))]from AF.out) (fun _ hX=>⟨(HA0.out _ hX.be),(HA1.out _ hX.be),(HA2.out _ hX.be),(HA3.out _ hX.be),trivial⟩) ?_
 intro AP AJ AK
 clear AD Kq AF AG
 try simp only [zP]
 refine wpAnyH_done (by kernel_rfl) ?_ _
 go_wp2
 go_ret
 exact⟨rfl,AJ.out.be⟩
theorem eg_flood1:EG 88:=enters_of Tryz.func88 (by kernel_rfl) rfl
theorem flood_any (sa:OA) (sn sc:Nat) (l:List Pt) (a b:Int) (hs:Sx 2 w sa sn sc (L2 l)) (area:Int) (hi: -9223372036854775808<=area/\area < 9223372036854775808):Calls Tryz.prog 37 #[.slice sa sn sc,.int .i64 a,.int .i64 b,.int .i64 area] w (Gives (.tuple #[.int .i64 (floodLev l a b area),.int .i64 (floodErr l a b area)]) w):=by
 have HK:=ζ (fun W (hW:Below w.heap.size w W)=>hstretched_any W sa sn sc l a b (hs.below hW))
 have HS:=ζ hs
 have HE:=ζ (show floodErr l a b area=if strErr l a b=0 then(if inB area 1 1000000000000=true then(if poolN l a b area=200001 then 12 else 0)else 3)else strErr l a b from rfl)
 have HL:=ζ (show floodLev l a b area=if floodErr l a b area=0 then(poolN l a b area:Int) - 100000 else 0 from rfl)
 have hC:=ζ ((Sy.enter w).al w.heap.size #[.int .i64 area] 2 rfl)
 have HSM:=ζ (fun(hT:Strt l a b) (ha:1<=area/\area<=1000000000000) W (hW:Below w.heap.size w W) (b0 b1:Nat) (h0:W.cell? ⟨b0,0,none⟩=some (.slice sa sn sc)) (h1:W.cell? ⟨b0,1,none⟩=some (.int .i64 a)) (h2:W.cell? ⟨b0,2,none⟩=some (.int .i64 b)) (h3:W.cell? ⟨b1,0,none⟩=some (.int .i64 area)) (l0:b0 < W.heap.size) (l1:b1 < W.heap.size)=>
  (show Calls Tryz.prog 87 #[.int .i64 (200001:Nat),.func (.func 88) #[] #[.pointer (some ⟨b0,0,none⟩),.pointer (some ⟨b1,0,none⟩)]] W (Gives (.int .i64 (poolN l a b area:Nat)) W)from
   search_any W 88 #[.pointer (some ⟨b0,0,none⟩),.pointer (some ⟨b1,0,none⟩)] 200001 (poolB l a b area) eg_flood1 (by omega)
    (fun V hV i hi=>flood1_any V sa sn sc l a b (hs.below (hW.trans (hV.mono hW.size))) area b0 b1 i hi hT ha ((hV.cell (p:=⟨b0,0,none⟩) l0).trans h0) ((hV.cell (p:=⟨b0,1,none⟩) l0).trans h1) ((hV.cell (p:=⟨b0,2,none⟩) l0).trans h2) ((hV.cell (p:=⟨b1,0,none⟩) l1).trans h3) (Nat.lt_of_lt_of_le l0 hV.size) (Nat.lt_of_lt_of_le l1 hV.size))
    hT.pool_mono))
 have hpn:poolN l a b area<=200001:=by have:=List.countP_le_length (p:=fun i=> !poolB l a b area i) (l:=List.range 200001);rw [List.length_range]at this;exact this
 have HT:=ζ (fun(h:strErr l a b=0)=>strErr_zero h)
 generalize floodLev l a b area=lev at*
 generalize floodErr l a b area=fe at*
 generalize poolN l a b area=pn at*
 generalize strErr l a b=er at*
 clear hs
 go_enter Tryz.func37,Tryz.ntmps37
 go_wp2_with fail
 refine(HK.out _ hC.out.be).mono ?_
 rintro e w1 ⟨rfl,hb⟩
 have hD:=ζ ((hC.out.call hb).al w1.heap.size #[.slice sa sn sc,.int .i64 a,.int .i64 b] 120 rfl)
 clear hb hC
 go_upto_region 2 with fail
 refine wp_geny hD.out ?_
 intro V1 hc
 obtain ⟨b2,hb2⟩:∃b2,w1.heap.size=b2:=⟨_,rfl⟩
 obtain ⟨b1,hb1⟩:∃b1,w.heap.size=b1:=⟨_,rfl⟩
 have hG:Hid (Sy w V1 [(b1,#[.int .i64 area],2),(b2,#[.slice sa sn sc,.int .i64 a,.int .i64 b],120)] [] []):=ζ (by rw [<-hb1,<-hb2];exact hc)
 rw [hb1,hb2]
 clear hc hD hb1 hb2
 by_cases h0:er=0
 rotate_left
 ·have e0:(er !=0)=true:=bne_iff_ne.2 h0
  have he:=HE.out
  rw [if_neg h0]at he
  have hv:=HL.out
  rw [if_neg (by rw [he];exact h0)]at hv
  clear HE HL HSM HT
  subst he
  subst hv
  go_wp2
  go_ret2
  exact⟨rfl,hG.out.be⟩
 subst h0
 have x1:=hG.out.c 0 0
 by_cases hin:inB area 1 1000000000000=true
 rotate_left
 ·have he:=HE.out
  rw [if_pos rfl,if_neg hin]at he
  have hv:=HL.out
  rw [if_neg (by rw [he];decide)]at hv
  clear HE HL HSM HT
  subst he
  subst hv
  have hq:area < 1\/1000000000000 < area:=by have:=mt inB_iff.2 hin;omega
  rcases Int.lt_or_le area 1 with q1 | q1
  ·go_wp2
   go_ret2
   exact⟨rfl,hG.out.be⟩
  ·have q2:1000000000000 < area:=by omega
   have q3:¬ area < 1:=by omega
   go_wp2
   go_ret2
   exact⟨rfl,hG.out.be⟩
 have hr:=inB_iff.1 hin
 have q1:¬ area < 1:=by omega
 have q2:¬ 1000000000000 < area:=by omega
 have he:=HE.out
 rw [if_pos rfl,if_pos hin]at he
 have HE2:=ζ he
 have HQ:=ζ (HSM.out (HT.out rfl) hr)
 clear HE HSM he hin HT
 have l1:=hG.out.lt 0 rfl
 have l2:=hG.out.lt 1 rfl
 have y0:=hG.out.c 1 0
 have y1:=hG.out.c 1 1
 have y2:=hG.out.c 1 2
 go_wp2_with fail
 refine(HQ.out _ hG.out.be b2 b1 y0 y1 y2 x1 l2 l1).mono ?_
 rintro e w2 ⟨rfl,hb⟩
 have hH:=ζ (hG.out.call hb)
 clear hb hG x1 y0 y1 y2 l1 l2 HQ
 by_cases hp:pn=200001
 ·have he:=HE2.out
  rw [if_pos hp]at he
  have hv:=HL.out
  rw [if_neg (by rw [he];decide)]at hv
  have p1:(pn:Int)=200001:=by omega
  clear HE2 HL
  subst he
  subst hv
  go_wp2
  go_ret2
  exact⟨rfl,hH.out.be⟩
 ·have he:=HE2.out
  rw [if_neg hp]at he
  have hv:=HL.out
  rw [if_pos he]at hv
  have p1:¬ (pn:Int)=200001:=by omega
  have wn:IntKind.i64.wrap ((pn:Int) - 100000)=(pn:Int) - 100000:=IntWalk.i64_in _ (by omega)
  clear HE2 HL
  subst he
  subst hv
  go_wp2
  go_ret2
  exact⟨rfl,hH.out.be⟩
end
def bX (l:List Int) (i:Nat):Int:=l.getD i 0
theorem bX_at {l:List Int} {i:Nat} (h:i < l.length):bX l i=l[i]:=by unfold bX;rw [List.getD_eq_getElem?_getD,List.getElem?_eq_getElem h];rfl
def upI (l:List Int):Bool:=(List.range (l.length - 1)).all fun i=>decide (bX l i < bX l (i+1))
theorem upI_iff {l:List Int} :upI l=true↔∀i,i+1 < l.length->bX l i < bX l (i+1):=by
 unfold upI
 simp only [List.all_eq_true,List.mem_range,decide_eq_true_eq]
 exact⟨fun h i hi=>h i (by omega),fun h i hi=>h i (by omega)⟩
def brkB (l:List Pt) (bs:List Int):Bool:=profB l && (inB bs.length 2 61 && (upI bs && bs.all (hasB l)))
def tdC (v:Value) (ts:List (Int×Int)):List Value:=ts.flatMap fun t=>[v,.int .i64 t.1,.int .i64 t.2]
theorem tdC_snoc (v:Value) (ts:List (Int×Int)) (t:Int×Int):tdC v (ts++ [t])=tdC v ts++ [v,.int .i64 t.1,.int .i64 t.2]:=by
 unfold tdC;rw [List.flatMap_append,List.flatMap_cons,List.flatMap_nil,List.append_nil]
theorem nbr_len:∀l:List Int,(nbr l).length=l.length - 1
 | []=>rfl
 | [_]=>rfl
 | x::y::r=>by rw [show nbr (x::y::r)=(x,y)::nbr (y::r)from rfl,List.length_cons,nbr_len (y::r)];simp
theorem nbr_snoc:∀ (l:List Int) (x y:Int),nbr (l++ [x,y])=nbr (l++ [x])++ [(x,y)]
 | [],_,_=>rfl
 | [_],_,_=>rfl
 | z::u::r,x,y=>by
   show(z,u)::nbr ((u::r)++ [x,y])=(z,u)::nbr ((u::r)++ [x])++ [(x,y)]
   rw [nbr_snoc (u::r) x y];rfl
theorem nbr_take {l:List Int} {k:Nat} (h:k+1 < l.length):nbr (l.take (k+1+1))=nbr (l.take (k+1))++ [(l[k],l[k+1])]:=by
 have e1:l.take (k+1+1)=l.take k++ [l[k],l[k+1]]:=by
  rw [List.take_succ_eq_append_getElem h,List.take_succ_eq_append_getElem (show k < l.length by omega),List.append_assoc];rfl
 have e2:l.take (k+1)=l.take k++ [l[k]]:=List.take_succ_eq_append_getElem (show k < l.length by omega)
 rw [e1,e2]
 exact nbr_snoc _ _ _
theorem nbr_get:∀ {l:List Int} {i:Nat} (h:i+1 < l.length),(nbr l)[i]? =some (l[i],l[i+1])
 | x::y::r,0,_=>rfl
 | x::y::r,i+1,h=>by
   show(nbr (y::r))[i]? =_
   rw [nbr_get (l:=y::r) (by simpa using h)];rfl
def RetTr (ok:Bool) (w:World) (v:Value) (bs:List Int) (e:Ending) (w':World):Prop:=
 (ok=true/\∃a c,e= .returned (.tuple #[.slice a (bs.length - 1) c,.int .i64 0])/\w'.ownsRow w.heap.size 120 3 (.slice a (bs.length - 1) c) (bs.length - 1) (tdC v (nbr bs))/\Below w.heap.size w w')\/
 (ok=false/\e= .returned (.tuple #[.slice none 0 0,.int .i64 2])/\Below w.heap.size w w')
theorem und_stretches:Tryz.prog.underlying 123=some (.slice 120):=Tryz.underlying123
theorem info_stretch:(Tryz.prog.info? 120).map (fun i=>(i.zero,i.size,i.bytes))=some (some (.agg #[.slice none 0 0,.int .i64 0,.int .i64 0]),3,40):=by kernel_rfl
section
variable (w:World)
theorem treads1_any (x y:Int):Calls Tryz.prog 128 #[.int .i64 x,.int .i64 y] w (Gives (.bool (decide (x < y))) w):=by
 go_enter Tryz.func128,Tryz.ntmps128
 go_wp2
 go_ret
 exact⟨rfl,Below.refl _ _⟩
theorem risingI_any (a:OA) (n c:Nat) (l:List Int) (hs:Sx 1 w a n c (L1 l)) (hn:n<=1000000):
  Calls Tryz.prog 127 #[.slice a n c,.func (.func 128) #[] #[]] w (Gives (.bool (upI l)) w):=by
 obtain rfl:=hs.n1
 have HS:=ζ hs
 have HE:=ζ (upI_iff (l:=l))
 clear hs
 generalize upI l=r at*
 go_enter Tryz.func127,Tryz.ntmps127
 go_wp2
 go_loopw [5] (fun iv wr=>∃k:Nat,1<=k/\(k<=l.length\/k=1)/\iv= .int .i64 k/\Hid (∀i,i+1 < k->bX l i < bX l (i+1))/\Hid (Sy w wr [] [] [])) (fun iv _=>l.length - (intOf iv).toNat)
 case atStart=>exact⟨1,by omega,.inr rfl,rfl,ζ (fun i h=>by omega),ζ (Sy.enter w)⟩
 case round=>
  obtain ⟨k,hk1,hk,rfl,HI,hC⟩:=hrel
  by_cases hlt:k < l.length
  ·obtain ⟨j,rfl⟩:∃j,k=j+1:=⟨k - 1,by omega⟩
   obtain ⟨g0,o0,rfl⟩:=HS.out.addr (by omega)
   have hj:j < l.length:=by omega
   have HA:=ζ (fun W (hW:Below w.heap.size w W)=>(HS.out.below hW).at1 hj)
   have HB:=ζ (fun W (hW:Below w.heap.size w W)=>(HS.out.below hW).at1 hlt)
   have HX:=ζ (show bX l j=l[j]/\bX l (j+1)=l[j+1]from⟨bX_at hj,bX_at hlt⟩)
   have HK:=ζ (fun W=>treads1_any W l[j] l[j+1])
   have HJ:=ζ hlt
   generalize l[j]=p at*
   generalize l[j+1]=q at*
   obtain ⟨n1,hn1⟩:∃n1:Nat,n1=j+1:=⟨_,rfl⟩
   rw [<-hn1]at HB
   have e0:(((j+1:Nat):Int))=(n1:Int):=by omega
   rw [e0]
   have i2:IntKind.i64.wrap ((n1:Int) - 1)=(j:Int):=by rw [IntWalk.i64_in _ (by omega)];omega
   have i0:(0:Int)<=(j:Int):=by omega
   have i1:(j:Int) < (l.length:Int):=by omega
   have i3:(0:Int)<=(n1:Int):=by omega
   have i4:(n1:Int) < (l.length:Int):=by omega
   have HN1:=ζ hn1
   clear hn1 e0 hlt hk hk1 hj
   cases hp:decide (p < q)
   ·rw [hp]at HK
    have HR:=ζ (show r=false by
     cases r with
     | false=>rfl
     | true=>
       have:=(HE.out.1 rfl) j HJ.out
       rw [HX.out.1,HX.out.2]at this
       rw [decide_eq_true this]at hp;cases hp)
    clear hp HI HE
    go_upto_region 4 with fail
    refine wp_region_held_drew (S:=(fun w'=>w'.cell? ⟨g0,o0+j,none⟩=some (.int .i64 p)/\w'.cell? ⟨g0,o0+n1,none⟩=some (.int .i64 q)/\True)) (by kernel_rfl) ⟨(HA.out _ hC.out.drew.be),(HB.out _ hC.out.drew.be),trivial⟩ (fun hH=>?_)
    refine wpAnyH_geny (show Sy w _ [] [] []from hC.out.drew) hH ?_
    intro AJ hc AA
    have AC:=ζ hc
    clear hc hH hC
    refine tkA 0 rfl AA ?_
    try simp only [zP]
    refine tkA 1 rfl AA ?_
    try simp only [zP]
    refine tkA 2 rfl AA ?_
    try simp only [zP]
    refine tkA 3 rfl AA ?_
    try simp only [zP]
    refine tkA 4 rfl AA ?_
    try simp only [zP]
    refine tkA 5 rfl AA ?_
    try simp only [zP]
    refine tkA 6 rfl AA ?_
    try simp only [zP]
    refine tkA 7 rfl AA ?_
    try simp only [zP]
    refine tkA 8 rfl AA ?_
    try simp only [zP]
    refine tkA 9 rfl AA ?_
    try simp only [zP]
    refine rdy1 10 rfl (fun Kq AE=>?_)
    go_simp
    go_at_call 128
    refine(HK.out _).mono ?_
    rintro e wT ⟨rfl,hb⟩
    (try go_wp2_with fail)
    refine stepZ AE (show Sy w _ [] [] []from(AC.out.call hb)) (fun _ hX=>⟨(HA.out _ hX.be),(HB.out _ hX.be),trivial⟩) ?_
    intro AK AF AG
    clear AE Kq AC hb AA
    try simp only [zP]
    refine tkA 11 rfl AG ?_
    try simp only [zP]
    refine wpAnyH_done (by kernel_rfl) ?_ _
    go_wp2
    go_ret
    exact⟨ret_bool HR.out.symm,AF.out.be⟩
   ·rw [hp]at HK
    have HI2:=ζ (show ∀i,i+1 < (j+1)+1->bX l i < bX l (i+1)from fun i hi=>by
     rcases Nat.lt_or_ge i j with h | h
     ·exact HI.out i (by omega)
     ·obtain rfl:i=j:=by omega
      rw [HX.out.1,HX.out.2];exact of_decide_eq_true hp)
    clear hp HI
    go_upto_region 4 with fail
    refine wp_region_held_drew (S:=(fun w'=>w'.cell? ⟨g0,o0+j,none⟩=some (.int .i64 p)/\w'.cell? ⟨g0,o0+n1,none⟩=some (.int .i64 q)/\True)) (by kernel_rfl) ⟨(HA.out _ hC.out.drew.be),(HB.out _ hC.out.drew.be),trivial⟩ (fun hH=>?_)
    refine wpAnyH_geny (show Sy w _ [] [] []from hC.out.drew) hH ?_
    intro AL hc AB
    have AD:=ζ hc
    clear hc hH hC
    refine tkA 0 rfl AB ?_
    try simp only [zP]
    refine tkA 1 rfl AB ?_
    try simp only [zP]
    refine tkA 2 rfl AB ?_
    try simp only [zP]
    refine tkA 3 rfl AB ?_
    try simp only [zP]
    refine tkA 4 rfl AB ?_
    try simp only [zP]
    refine tkA 5 rfl AB ?_
    try simp only [zP]
    refine tkA 6 rfl AB ?_
    try simp only [zP]
    refine tkA 7 rfl AB ?_
    try simp only [zP]
    refine tkA 8 rfl AB ?_
    try simp only [zP]
    refine tkA 9 rfl AB ?_
    try simp only [zP]
    refine rdy1 10 rfl (fun Kq AE=>?_)
    go_simp
    go_at_call 128
    refine(HK.out _).mono ?_
    rintro e wT ⟨rfl,hb⟩
    (try go_wp2_with fail)
    refine stepZ AE (show Sy w _ [] [] []from(AD.out.call hb)) (fun _ hX=>⟨(HA.out _ hX.be),(HB.out _ hX.be),trivial⟩) ?_
    intro AM AH AI
    clear AE Kq AD hb AB
    try simp only [zP]
    refine tkA 11 rfl AI ?_
    try simp only [zP]
    refine wpAnyH_done (by kernel_rfl) ?_ _
    go_wp2
    go_roundw
    case rel=>exact⟨(j+1)+1,by omega,.inl (by have:=HJ.out;omega),by have:=HN1.out;subst this;go_num,HI2,AH⟩
    case measure=>have:=HN1.out;have:=HJ.out;simp [intOf];omega
  ·have HR:=ζ (show r=true from HE.out.2 fun i hi=>HI.out i (by omega))
   go_wp2
   go_ret
   exact⟨ret_bool HR.out.symm,hC.out.be⟩
theorem treads_any (sa:OA) (sn sc:Nat) (l:List Pt) (hs:Sx 2 w sa sn sc (L2 l)) (ba:OA) (bn bc:Nat) (bs:List Int) (hb:Sx 1 w ba bn bc (L1 bs)):
  Calls Tryz.prog 68 #[.slice sa sn sc,.slice ba bn bc] w (RetTr (brkB l bs) w (.slice sa sn sc) bs):=by
 obtain rfl:=hb.n1
 have hcap:=hb.cap
 unfold maxLen at hcap
 have HC:=ζ (fun W (hW:Below w.heap.size w W)=>hcheck_any W sa sn sc l (hs.below hW))
 have HU:=ζ (fun W (hW:Below w.heap.size w W) hn=>risingI_any W ba bs.length bc bs (hb.below hW) hn)
 have HK:=ζ (show brkB l bs=(profB l && (inB bs.length 2 61 && (upI bs && bs.all (hasB l))))from rfl)
 have HH:=ζ (fun(hp:profB l=true) W (hW:Below w.heap.size w W) x=>has_any W sa sn sc l x (hs.below hW) (by have:=hs.n2;have:=(prof_iff.1 hp).two;omega))
 have HB:=ζ hb
 have HPE:=ζ (show profErr l=if profB l=true then 0 else 2 from rfl)
 generalize profErr l=pe at*
 generalize brkB l bs=ok at*
 generalize profB l=pb at*
 clear hs hb
 have hC:=ζ (Sy.enter w)
 cases pb
 ·have HF:=ζ (show ok=false by rw [HK.out];rfl)
  have HPE2:=HPE.out
  rw [if_neg (by decide)]at HPE2
  subst HPE2
  clear HK HH HPE HU HB
  go_enter Tryz.func68,Tryz.ntmps68
  go_wp2_with fail
  refine(HC.out _ hC.out.be).mono ?_
  rintro e w1 ⟨rfl,h1⟩
  have hD:=ζ (hC.out.call h1)
  clear h1 hC HC
  go_wp2
  go_ret2
  exact .inr ⟨HF.out,rfl,hD.out.be⟩
 have HPE2:=HPE.out
 rw [if_pos rfl]at HPE2
 subst HPE2
 have HH2:=ζ (HH.out rfl)
 clear HH HPE
 cases h1:inB bs.length 2 61
 ·have HF:=ζ (show ok=false by rw [HK.out,h1];rfl)
  clear HK HH2 HU HB
  go_enter Tryz.func68,Tryz.ntmps68
  go_wp2_with fail
  refine(HC.out _ hC.out.be).mono ?_
  rintro e w1 ⟨rfl,h2⟩
  have hD:=ζ (hC.out.call h2)
  clear h2 hC HC
  go_wp2_with ((with_reducible refine(hwithin_any _ _ _ _).mono ?_);rintro e w2 ⟨rfl,rfl⟩)
  go_ret2
  exact .inr ⟨HF.out,rfl,hD.out.be⟩
 have hln:=inB_iff.1 h1
 cases h2:upI bs
 ·have HF:=ζ (show ok=false by rw [HK.out,h2];simp)
  rw [h2]at HU
  clear HK HH2 HB h2
  go_enter Tryz.func68,Tryz.ntmps68
  go_wp2_with fail
  refine(HC.out _ hC.out.be).mono ?_
  rintro e w1 ⟨rfl,h2⟩
  have hD:=ζ (hC.out.call h2)
  clear h2 hC HC
  go_wp2_with ((with_reducible refine(hwithin_any _ _ _ _).mono ?_);rintro e w2 ⟨rfl,rfl⟩)
  refine(HU.out _ hD.out.be (by omega)).mono ?_
  rintro e w2 ⟨rfl,h2⟩
  have hE:=ζ (hD.out.call h2)
  clear h2 hD HU
  go_wp2
  go_ret2
  exact .inr ⟨HF.out,rfl,hE.out.be⟩
 have HO:=ζ (show ok=bs.all (hasB l)by rw [HK.out,h1,h2];rfl)
 rw [h2]at HU
 clear HK h2
 go_enter Tryz.func68,Tryz.ntmps68
 go_wp2_with fail
 refine(HC.out _ hC.out.be).mono ?_
 rintro e w1 ⟨rfl,h2⟩
 have hD:=ζ (hC.out.call h2)
 clear h2 hC HC
 go_wp2_with ((with_reducible refine(hwithin_any _ _ _ _).mono ?_);rintro e w2 ⟨rfl,rfl⟩)
 refine(HU.out _ hD.out.be (by omega)).mono ?_
 rintro e w2 ⟨rfl,h2⟩
 have hE:=ζ ((hD.out.call h2).onil 120 3)
 clear h2 hD HU h1
 go_wp2
 obtain ⟨g0,o0,rfl⟩:=HB.out.addr (by omega)
 go_loopw [25,6] (fun iv sv wr=>∃k:Nat,∃a c,k<=bs.length/\iv= .int .i64 k/\sv= .slice a (k - 1) c/\Hid (∀i (hi:i < k),hasB l (bX bs i)=true)/\Hid (Sy w wr [] [⟨.slice a (k - 1) c,120,3,k - 1,tdC (.slice sa sn sc) (nbr (bs.take k))⟩] [])) (fun iv _ _=>bs.length - (intOf iv).toNat)
 case atStart=>exact⟨0,none,0,Nat.zero_le _,rfl,rfl,ζ (fun i hi=>absurd hi (Nat.not_lt_zero _)),hE⟩
 case round=>
  clear hE
  obtain ⟨k,a,c,hk,rfl,rfl,HI,hS⟩:=hrel
  by_cases hkl:k < bs.length
  ·have i0:(0:Int)<=(k:Int):=by omega
   have i1:(k:Int) < (bs.length:Int):=by omega
   have c0:=(HB.out.below hS.out.be).at1 hkl
   have HX:=ζ (bX_at hkl)
   have HQ:=ζ (HH2.out _ hS.out.be bs[k])
   have HG:=ζ (show bs[k]=bX bs k from(bX_at hkl).symm)
   cases hh:hasB l bs[k]
   ·have HF:=ζ (show ok=false by
     rw [HO.out,List.all_eq_false]
     exact⟨_,List.getElem_mem hkl,by rw [hh];decide⟩)
    rw [hh]at HQ
    generalize bs[k]=b at*
    clear hh HG HX HO HI
    go_wp2_with fail
    refine HQ.out.mono ?_
    rintro e w3 ⟨rfl,h3⟩
    have hT:=ζ (hS.out.call h3)
    clear h3 hS c0
    go_wp2
    go_ret2
    exact .inr ⟨HF.out,rfl,hT.out.be⟩
   ·have HI2:=ζ (show ∀i,i < k+1->hasB l (bX bs i)=true from fun i hi=>by
     rcases Nat.lt_or_ge i k with h | h
     ·exact HI.out i h
     ·obtain rfl:i=k:=by omega
      rw [HX.out];exact hh)
    rw [hh]at HQ
    rcases Nat.eq_zero_or_pos k with hk0 | hk0
    ·subst hk0
     generalize bs[0]=b at*
     rw [Nat.add_zero]at c0
     clear hh HG HX HI
     go_wp2_with fail
     refine HQ.out.mono ?_
     rintro e w3 ⟨rfl,h3⟩
     have hT:=ζ (hS.out.call h3)
     clear h3 hS c0
     go_wp2
     go_roundw
     case rel=>exact⟨1,a,c,by omega,rfl,rfl,HI2,ζ (by
      have:=hT.out
      have e:tdC (.slice sa sn sc) (nbr (bs.take 1))=tdC (.slice sa sn sc) (nbr (bs.take 0)):=by
       rw [List.take_zero,show bs.take 1= [bs[0]]by rw [List.take_succ_eq_append_getElem (by omega)];rfl];rfl
      rw [e];exact this)⟩
     case measure=>simp [intOf];omega
    ·obtain ⟨j,rfl⟩:∃j,k=j+1:=⟨k - 1,by omega⟩
     have HT:=ζ (show tdC (.slice sa sn sc) (nbr (bs.take (j+1+1)))=tdC (.slice sa sn sc) (nbr (bs.take (j+1)))++ [.slice sa sn sc,.int .i64 bs[j],.int .i64 bs[j+1]]by rw [nbr_take hkl,tdC_snoc])
     have HA:=ζ (fun W (hW:Below w.heap.size w W)=>(HB.out.below hW).at1 (show j < bs.length by omega))
     generalize bs[j+1]=b at*
     generalize bs[j]=b' at*
     obtain ⟨n1,hn1⟩:∃n1:Nat,n1=j+1:=⟨_,rfl⟩
     rw [<-hn1]at c0 HI2 HT i0 i1 hk hS
     rw [<-hn1]
     have i2:IntKind.i64.wrap ((n1:Int) - 1)=(j:Int):=by rw [IntWalk.i64_in _ (by omega)];omega
     have i3:(0:Int)<=(j:Int):=by omega
     have i4:(j:Int) < (bs.length:Int):=by omega
     have i5:(0:Int) < (n1:Int):=by omega
     have HN1:=ζ hn1
     clear hh HG HX HI hkl hn1
     go_wp2_with fail
     refine HQ.out.mono ?_
     rintro e w3 ⟨rfl,h3⟩
     have hT:=ζ (hS.out.call h3)
     clear h3 hS c0
     have c1:=HA.out _ hT.out.be
     go_wp2_with (refine wpList_append_sy (o:=⟨some 46,_,_,_,_,_⟩) rfl (hT.out.onew w3.heap.size #[.slice sa sn sc,.int .i64 b',.int .i64 b] 120 3 1 rfl (by omega) rfl) 0 1 rfl rfl _ _ _ rfl und_stretches info_stretch rfl (by omega) rfl rfl (by intro u hu;simp at hu;rcases hu with rfl | rfl | rfl<;>rfl) (by omega) (by omega) ?_;intro a3 c3 V3 hV3;have hJ:=ζ hV3;clear hV3 hT c1)
     have hK:=ζ (hJ.out.thin (bs':=[]) (List.Sublist.refl _) (List.Sublist.cons_cons _ (List.nil_sublist _)))
     clear hJ
     go_roundw
     case rel=>exact⟨n1+1,a3,c3,by omega,by go_num,by have:=HN1.out;congr 1;omega,HI2,by
      have e:n1 - 1+1=n1+1 - 1:=by have:=HN1.out;omega
      rw [HT.out,<-e];exact hK⟩
     case measure=>simp [intOf];omega
  ·obtain rfl:k=bs.length:=by omega
   have HF:=ζ (show ok=true by
    rw [HO.out,List.all_eq_true]
    intro x hx
    obtain ⟨i,hi,rfl⟩:=List.getElem_of_mem hx
    rw [<-bX_at hi];exact HI.out i hi)
   have HTS:=ζ (show nbr (bs.take bs.length)=nbr bs by rw [List.take_length])
   go_wp2
   go_ret2
   refine .inl ⟨HF.out,a,c,rfl,?_,hS.out.be⟩
   have:=hS.out.orow 0 rfl
   rwa [HTS.out]at this
end
theorem ceil_neg (q:Rat): -((-q).floor)=q.ceil:=by
 have h:∀k:Int,-((-q).floor)<=k↔q.ceil<=k:=fun k=>by
  rw [Rat.ceil_le_iff,show(-((-q).floor)<=k)↔(-k<=(-q).floor)by omega,Rat.le_floor_iff,Rat.intCast_neg]
  constructor<;>intro h<;>grind
 exact Int.le_antisymm ((h _).2 (Int.le_refl _)) ((h _).1 (Int.le_refl _))
section
variable (w:World)
theorem small_any (a:OA) (n c:Nat) (m:Bool) (z:Int) (h:Zd w (.slice a n c) m z) (hz: -1000000<=z/\z<=1000000):Calls Tryz.prog 122 #[.agg #[.slice a n c,.bool m]] w (Gives (.int .i64 z) w):=by
 have hC:=ζ (((Sy.enter w).pZ rfl rfl h).al w.heap.size #[.slice a n c,.bool m] 40 rfl)
 have HB:=ζ (show Bd 20 z by unfold Bd;omega)
 have HR:=ζ (show i64res z=(z,true)by unfold i64res;rw [if_pos (by omega)])
 clear h hz
 go_enter Tryz.func122,Tryz.ntmps122
 go_wp2_with fail
 refine(int64_any _ _ _ _ z _ (hC.out.r 0 rfl) 20 HB.out (by omega)).mono ?_
 rintro e w1 ⟨rfl,hb⟩
 rw [HR.out]
 have hD:=ζ (hC.out.call hb)
 clear hb hC
 go_wp2
 go_ret
 exact⟨rfl,hD.out.be⟩
theorem rceil_b {w:World} {a1:OA} {n1 c1:Nat} {m1:Bool} {d1:OA} {e1 f1:Nat} {q1:Rat} {k1:Nat} (h1:Rd w (.slice a1 n1 c1) m1 (.slice d1 e1 f1) q1) (b1:Bq k1 q1) (hk1:k1<=40000):
  Calls Tryz.prog 123 #[.agg #[.slice a1 n1 c1,.bool m1,.slice d1 e1 f1]] w (RetZ w q1.ceil):=by
 rw [<-ceil_neg];exact rceil_any _ _ _ _ _ _ _ _ _ h1 k1 b1 hk1
theorem foot_any (sa:OA) (sn sc:Nat) (l:List Pt) (a b d:Int) (hT:Strt l a b) (hd: -100000<=d/\d<=100000) (hs:Sx 2 w sa sn sc (L2 l)):Calls Tryz.prog 61 #[.agg #[.slice sa sn sc,.int .i64 a,.int .i64 b],.int .i64 d] w (Gives (.int .i64 (footI l a b d)) w):=by
 have HB:=ζ (fun W (hW:Below w.heap.size w W)=>callsIn_wide.1 (hbounds_in W 4 (Nat.le_refl _) sa sn sc l a b hT (hs.below hW)))
 have HG:=ζ hT.lo_gd.bq
 have HF:=ζ hT.lo_gd.floor
 have HI:=ζ (show footI l a b d=(loQ l a b).floor - d from rfl)
 rw [HI.out]
 have hC:=ζ ((Sy.enter w).al w.heap.size #[.slice sa sn sc,.int .i64 a,.int .i64 b] 120 rfl)
 generalize loQ l a b=lo at*
 generalize hiQ l a b=hi at*
 generalize hz:Rat.floor lo=z at*
 have HZ:=ζ hz
 have hf:=HF.out
 have w1:IntKind.i64.wrap (z - d)=z - d:=IntWalk.i64_in _ (by omega)
 clear hs hT HI hz
 go_enter Tryz.func61,Tryz.ntmps61
 have k0:=hC.out.c 0 0
 have k1:=hC.out.c 0 1
 have k2:=hC.out.c 0 2
 go_wp2_with fail
 refine(HB.out _ hC.out.be).mono ?_
 rintro e w2 ⟨a5,n5,c5,m5,d5,e5,f5,a6,n6,c6,m6,d6,e6,f6,rfl,hz1,hz2,hb⟩
 have hD:=ζ ((((hC.out.call hb).pR rfl rfl hz1).pR rfl rfl hz2).al w2.heap.size #[.slice a5 n5 c5,.bool m5,.slice d5 e5 f5] 42 rfl|>.al (w2.heap.size+1) #[.slice a6 n6 c6,.bool m6,.slice d6 e6 f6] 42 (by simp))
 clear hb hz1 hz2 hC k0 k1 k2
 go_upto_region 2 with fail
 refine wp_geny hD.out ?_
 intro V1 hc
 have hG:=ζ hc
 clear hc hD
 generalize w2.heap.size=bb at*
 have k0:=hG.out.c 1 0
 have k1:=hG.out.c 1 1
 have k2:=hG.out.c 1 2
 go_wp2_with fail
 refine(rfloor_b (hG.out.r 0 rfl) HG.out (by omega)).mono ?_
 rintro e w3 ⟨a7,n7,c7,m7,rfl,hz,hb⟩
 rw [HZ.out]at hz
 have hH:=ζ ((hG.out.call hb).pZ rfl rfl hz)
 clear hb hz hG k0 k1 k2
 go_wp2_with fail
 refine(small_any _ _ _ _ _ _ (hH.out.r 2 rfl) (by omega)).mono ?_
 rintro e w4 ⟨rfl,hb⟩
 have hI:=ζ (hH.out.call hb)
 clear hb hH
 go_wp2
 go_ret
 exact⟨rfl,hI.out.be⟩
theorem head_any (sa:OA) (sn sc:Nat) (l:List Pt) (a b d:Int) (hT:Strt l a b) (hd: -100000<=d/\d<=100000) (hs:Sx 2 w sa sn sc (L2 l)):Calls Tryz.prog 63 #[.agg #[.slice sa sn sc,.int .i64 a,.int .i64 b],.int .i64 d] w (Gives (.int .i64 (headI l a b d)) w):=by
 have HB:=ζ (fun W (hW:Below w.heap.size w W)=>callsIn_wide.1 (hbounds_in W 4 (Nat.le_refl _) sa sn sc l a b hT (hs.below hW)))
 have HG:=ζ hT.hi_gd.bq
 have HF:=ζ hT.hi_gd.ceil
 have HI:=ζ (show headI l a b d=(hiQ l a b).ceil+d from rfl)
 rw [HI.out]
 have hC:=ζ ((Sy.enter w).al w.heap.size #[.slice sa sn sc,.int .i64 a,.int .i64 b] 120 rfl)
 generalize loQ l a b=lo at*
 generalize hiQ l a b=hi at*
 generalize hz:Rat.ceil hi=z at*
 have HZ:=ζ hz
 have hf:=HF.out
 have w1:IntKind.i64.wrap (z+d)=z+d:=IntWalk.i64_in _ (by omega)
 clear hs hT HI hz
 go_enter Tryz.func63,Tryz.ntmps63
 have k0:=hC.out.c 0 0
 have k1:=hC.out.c 0 1
 have k2:=hC.out.c 0 2
 go_wp2_with fail
 refine(HB.out _ hC.out.be).mono ?_
 rintro e w2 ⟨a5,n5,c5,m5,d5,e5,f5,a6,n6,c6,m6,d6,e6,f6,rfl,hz1,hz2,hb⟩
 have hD:=ζ ((((hC.out.call hb).pR rfl rfl hz1).pR rfl rfl hz2).al w2.heap.size #[.slice a5 n5 c5,.bool m5,.slice d5 e5 f5] 42 rfl|>.al (w2.heap.size+1) #[.slice a6 n6 c6,.bool m6,.slice d6 e6 f6] 42 (by simp))
 clear hb hz1 hz2 hC k0 k1 k2
 go_upto_region 2 with fail
 refine wp_geny hD.out ?_
 intro V1 hc
 have hG:=ζ hc
 clear hc hD
 generalize w2.heap.size=bb at*
 have k0:=hG.out.c 2 0
 have k1:=hG.out.c 2 1
 have k2:=hG.out.c 2 2
 go_wp2_with fail
 refine(rceil_b (hG.out.r 1 rfl) HG.out (by omega)).mono ?_
 rintro e w3 ⟨a7,n7,c7,m7,rfl,hz,hb⟩
 rw [HZ.out]at hz
 have hH:=ζ ((hG.out.call hb).pZ rfl rfl hz)
 clear hb hz hG k0 k1 k2
 go_wp2_with fail
 refine(small_any _ _ _ _ _ _ (hH.out.r 2 rfl) (by omega)).mono ?_
 rintro e w4 ⟨rfl,hb⟩
 have hI:=ζ (hH.out.call hb)
 clear hb hH
 go_wp2
 go_ret
 exact⟨rfl,hI.out.be⟩
end
def fwG (op:Int->Int->Int) (l:Nat->Int) (s:Int):Nat->Int
 | 0=>l 0
 | i+1=>op (l (i+1)) (fwG op l s i+s)
def bkG (op:Int->Int->Int) (l:Nat->Int) (s:Int) (n:Nat):Nat->Int
 | 0=>fwG op l s (n - 1)
 | i+1=>op (fwG op l s (n - 1 - (i+1))) (bkG op l s n i+s)
def folL (op:Int->Int->Int) (s:Int) (l:List Int):List Int:=(List.range l.length).map fun i=>bkG op (bX l) s l.length (l.length - 1 - i)
theorem folL_len (op:Int->Int->Int) (s:Int) (l:List Int):(folL op s l).length=l.length:=by unfold folL;rw [List.length_map,List.length_range]
theorem folL_at {op:Int->Int->Int} {s:Int} {l:List Int} {i:Nat} (h:i < l.length):bX (folL op s l) i=bkG op (bX l) s l.length (l.length - 1 - i):=by
 rw [bX_at (by rw [folL_len];exact h)];unfold folL;rw [List.getElem_map,List.getElem_range]
theorem bX_set {L:List Int} {k i:Nat} {v:Int} (hk:k < L.length):bX (L.set k v) i=if i=k then v else bX L i:=by
 unfold bX
 rw [List.getD_eq_getElem?_getD,List.getD_eq_getElem?_getD,List.getElem?_set]
 split
 ·rename_i h;subst h;rw [if_pos rfl];simp
 ·rename_i h;rw [if_neg (fun e=>h e.symm)]
theorem bX_ext {L K:List Int} (h:L.length=K.length) (he:∀i,i < L.length->bX L i=bX K i):L=K:=by
 refine List.ext_getElem h fun i h1 h2=>?_
 have:=he i h1
 rwa [bX_at h1,bX_at h2]at this
variable {op:Int->Int->Int} {l L:List Int} {s:Int}
theorem fol_step1 {k:Nat} (hl:L.length=l.length) (hk:k+1 < l.length) (h:∀i,i < l.length->bX L i=if i < k+1 then fwG op (bX l) s i else bX l i) {x y:Int} (hx:bX L (k+1)=x) (hy:bX L k=y):
  ∀i,i < l.length->bX (L.set (k+1) (op x (y+s))) i=if i < k+1+1 then fwG op (bX l) s i else bX l i:=fun i hi=>by
 rw [bX_set (by omega)]
 rw [h _ hk,if_neg (by omega)]at hx
 rw [h _ (by omega),if_pos (by omega)]at hy
 split
 ·rename_i e;subst e;rw [if_pos (by omega),<-hx,<-hy];rfl
 ·rename_i e
  rw [h i hi]
  by_cases e1:i < k+1
  ·rw [if_pos e1,if_pos (by omega)]
  ·rw [if_neg e1,if_neg (by omega)]
theorem fol_step2 {m:Nat} (hl:L.length=l.length) (hm:m+1 < l.length) (h:∀i,i < l.length->bX L i=if m+1<=i then bkG op (bX l) s l.length (l.length - 1 - i)else fwG op (bX l) s i) {x y:Int} (hx:bX L m=x) (hy:bX L (m+1)=y):
  ∀i,i < l.length->bX (L.set m (op x (y+s))) i=if m<=i then bkG op (bX l) s l.length (l.length - 1 - i)else fwG op (bX l) s i:=fun i hi=>by
 rw [bX_set (by omega)]
 rw [h _ (by omega),if_neg (by omega)]at hx
 rw [h _ hm,if_pos (Nat.le_refl _)]at hy
 split
 ·rename_i e
  subst e
  rw [if_pos (Nat.le_refl _),<-hx,<-hy,show l.length - 1 - i=(l.length - 1 - (i+1))+1 by omega]
  show _=op (fwG op (bX l) s (l.length - 1 - (l.length - 1 - (i+1)+1))) _
  rw [show l.length - 1 - (l.length - 1 - (i+1)+1)=i by omega]
 ·rename_i e
  rw [h i hi]
  by_cases e1:m+1<=i
  ·rw [if_pos e1,if_pos (by omega)]
  ·rw [if_neg e1,if_neg (by omega)]
def Picks (op:Int->Int->Int):Prop:=∀x y,op x y=x\/op x y=y
theorem fwG_bd (ho:Picks op) {f:Nat->Int} (hf:∀i,-200000<=f i/\f i<=200000) (hs: -3000<=s/\s<=3000):∀i:Nat,-200000 - 3000*(i:Int)<=fwG op f s i/\fwG op f s i<=200000+3000*(i:Int)
 | 0=>by have:=hf 0;unfold fwG;omega
 | i+1=>by
   have h1:=hf (i+1)
   have h2:=fwG_bd ho hf hs i
   unfold fwG
   rcases ho (f (i+1)) (fwG op f s i+s)with e | e<;>rw [e]<;>omega
theorem bkG_bd (ho:Picks op) {f:Nat->Int} (hf:∀i,-200000<=f i/\f i<=200000) (hs: -3000<=s/\s<=3000) {n:Nat} (hn:n<=100):∀i:Nat,-500000 - 3000*(i:Int)<=bkG op f s n i/\bkG op f s n i<=500000+3000*(i:Int)
 | 0=>by have:=fwG_bd ho hf hs (n - 1);unfold bkG;omega
 | i+1=>by
   have h1:=fwG_bd ho hf hs (n - 1 - (i+1))
   have h2:=bkG_bd ho hf hs hn i
   unfold bkG
   rcases ho (fwG op f s (n - 1 - (i+1))) (bkG op f s n i+s)with e | e<;>rw [e]<;>omega
theorem fol_bd {m:Nat} (ho:Picks op) (hf:∀i,-200000<=bX l i/\bX l i<=200000) (hs: -3000<=s/\s<=3000) (hn:l.length<=100) (h:∀i,i < l.length->bX L i=if m<=i then bkG op (bX l) s l.length (l.length - 1 - i)else fwG op (bX l) s i) {i:Nat} (hi:i < l.length): -1000000<=bX L i/\bX L i<=1000000:=by
 rw [h i hi]
 have h1:=bkG_bd ho hf hs hn (l.length - 1 - i)
 have h2:=fwG_bd ho hf hs i
 split<;>omega
theorem fol_bd1 {k:Nat} (ho:Picks op) (hf:∀i,-200000<=bX l i/\bX l i<=200000) (hs: -3000<=s/\s<=3000) (hn:l.length<=100) (h:∀i,i < l.length->bX L i=if i < k then fwG op (bX l) s i else bX l i) {i:Nat} (hi:i < l.length): -1000000<=bX L i/\bX L i<=1000000:=by
 rw [h i hi]
 have h1:=hf i
 have h2:=fwG_bd ho hf hs i
 split<;>omega
end Go.Proofs.YthmdhlopeponcaaGreatDoor

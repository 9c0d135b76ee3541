/- the least and the greatest ground of a stretch -/
import Derived.Test.YthmdhlopeponcaaGreatDoorX1
import Derived.Test.YthmdhlopeponcaaGreatDoorX24
import Derived.Test.YthmdhlopeponcaaGreatDoorX0
set_option maxRecDepth 100000
set_option maxHeartbeats 32000000
namespace Go.Proofs.YthmdhlopeponcaaGreatDoor
open Go.RowKit Go.Shelf Dig
attribute [local go_sem] Oper.semAt_some
def RetRR (w:World) (p q:Rat) (e:Ending) (w':World):Prop:=∃ (a5:Option Addr) (n5 c5:Nat) (m5:Bool) (d5:Option Addr) (e5 f5:Nat) (a6:Option Addr) (n6 c6:Nat) (m6:Bool) (d6:Option Addr) (e6 f6:Nat),e= .returned (.tuple #[.agg #[.slice a5 n5 c5,.bool m5,.slice d5 e5 f5],.agg #[.slice a6 n6 c6,.bool m6,.slice d6 e6 f6]])∧Rd w' (.slice a5 n5 c5) m5 (.slice d5 e5 f5) (p)∧Rd w' (.slice a6 n6 c6) m6 (.slice d6 e6 f6) (q)∧Below w.heap.size w w'
theorem foldl_bq {op:Rat→Rat→Rat} (hop:∀x y,op x y=x∨op x y=y) {N:Nat} :∀ {qs:List Rat} {q:Rat},Bq N q→(∀x∈qs,Bq N x)→Bq N (qs.foldl op q)
 | [],_,h,_=>h
 | x::qs,q,h,hq=>by
   rw [List.foldl_cons]
   refine foldl_bq hop ?_ (fun y hy=>hq y (List.mem_cons_of_mem _ hy))
   rcases hop q x with e | e
   ·rw [e];exact h
   ·rw [e];exact hq x (List.mem_cons_self ..)
theorem minQ_or (x y:Rat):minQ x y=x∨minQ x y=y:=by unfold minQ;split;exact .inr rfl;exact .inl rfl
theorem maxQ_or (x y:Rat):maxQ x y=x∨maxQ x y=y:=by unfold maxQ;split;exact .inr rfl;exact .inl rfl
section
variable (w:World)
theorem mW7_0 {P_ : Prop} (h : P_ := by
 rintro e wT ⟨a9,n9,c9,m9,d9,e9,f9,rfl,hz,hb⟩
 (try go_wp2_with fail)
 refine stepZ hKq ((hVA_5.out.call hb).pR rfl rfl hz) (fun _=>HSL _ _ _ _) ?_
 intro VA_6 hVA_6 hHA_6
 clear hKq Kq hVA_5 hb hz hHA_5
 try simp only [Act.put,zI,z0,zS]
 refine rdy1 10 rfl (fun Kq hKq=>?_)
 have cQ0:=hVA_6.out.cell 1 0 rfl rfl
 have fQ0:=hVA_6.out.free 1 0 rfl
 have cQ1:=hVA_6.out.cell 1 1 rfl rfl
 have fQ1:=hVA_6.out.free 1 1 rfl
 have cQ2:=hVA_6.out.cell 1 2 rfl rfl
 have fQ2:=hVA_6.out.free 1 2 rfl
 go_simp
 refine stepZ hKq (hVA_6.out|>.set (j:=0) (v:= .slice a8 n8 c8) 1 rfl|>.set (j:=1) (v:= .bool m8) 1 rfl|>.set (j:=2) (v:= .slice d8 e8 f8) 1 rfl) (fun _ hX=>⟨hX.cell 3 0 rfl rfl,hX.cell 3 1 rfl rfl,hX.cell 3 2 rfl rfl,hX.cell 3 3 rfl rfl,hX.cell 3 4 rfl rfl,hX.cell 3 5 rfl rfl,hX.cell 3 6 rfl rfl,trivial⟩) ?_
 intro VA_7 hVA_7 hHA_7
 clear hKq Kq hVA_6 cQ0 fQ0 cQ1 fQ1 cQ2 fQ2 hHA_6
 try simp only [Act.put]
 refine rdy1 11 rfl (fun Kq hKq=>?_)
 have cQ0:=hVA_7.out.cell 2 0 rfl rfl
 have fQ0:=hVA_7.out.free 2 0 rfl
 have cQ1:=hVA_7.out.cell 2 1 rfl rfl
 have fQ1:=hVA_7.out.free 2 1 rfl
 have cQ2:=hVA_7.out.cell 2 2 rfl rfl
 have fQ2:=hVA_7.out.free 2 2 rfl
 go_simp
 refine stepZ hKq (hVA_7.out|>.set (j:=0) (v:= .slice a9 n9 c9) 2 rfl|>.set (j:=1) (v:= .bool m9) 2 rfl|>.set (j:=2) (v:= .slice d9 e9 f9) 2 rfl) (fun _ hX=>⟨hX.cell 3 0 rfl rfl,hX.cell 3 1 rfl rfl,hX.cell 3 2 rfl rfl,hX.cell 3 3 rfl rfl,hX.cell 3 4 rfl rfl,hX.cell 3 5 rfl rfl,hX.cell 3 6 rfl rfl,trivial⟩) ?_
 intro VA_8 hVA_8 hHA_8
 clear hKq Kq hVA_7 cQ0 fQ0 cQ1 fQ1 cQ2 fQ2 hHA_7
 try simp only [Act.put]
 refine wpAnyH_done (by kernel_rfl) ?_ _
 refine⟨rfl,ζ ⟨keepsFrom_away hS6.out (hVA_8.out.r 3 rfl) _,?_,a8,n8,c8,m8,d8,e8,f8,a9,n9,c9,m9,d9,e9,f9,((hVA_8.out.thin (List.sublist_append_left [_,_,_] _) (List.nil_sublist _)).pick [] rfl),?_,?_,Nat.le_trans H4.out (hVA_8.out.r 3 rfl).1,?_⟩⟩
 ·have hA:=hVA_8.out.r 3 rfl
  refine⟨hA.1,fun k o hk ho hn=>?_⟩
  by_cases e6:k=b7
  ·subst e6;exact((hVA_8.out.at_ 3 rfl).2).trans (by rw [HC6.out]at hk;exact hk)
  ·exact(hA.2 k (Array.getElem?_eq_some_iff.1 hk).1 (by simp at hn⊢;omega)).trans hk
 ·rw [HLO.out];exact hVA_8.out.r 4 rfl
 ·rw [HHI.out];exact hVA_8.out.r 5 rfl
 ·intro y hy
  rcases List.mem_append.1 hy with hy | hy
  ·exact H5.out y hy
  ·rcases List.mem_singleton.1 hy with rfl
   exact HGE.out) : P_ := h
theorem mW7_3 {P_ : Prop} (h : P_ := by
 try simp only [Act.put,zI,z0,zS]
 refine rdy1 9 rfl (fun Kq hKq=>?_)
 go_simp
 go_at_call 158
 refine(max_two (rowR_two ((World.ownsRow.lt (hVA_5.out.orow 1 rfl) _ rfl).2) (hVA_5.out.rcell 1 rfl (k:=0) rfl) (hVA_5.out.rcell 1 rfl (k:=1) rfl) (hVA_5.out.rcell 1 rfl (k:=2) rfl) (hVA_5.out.rcell 1 rfl (k:=3) rfl) (hVA_5.out.rcell 1 rfl (k:=4) rfl) (hVA_5.out.rcell 1 rfl (k:=5) rfl) (hVA_5.out.r 1 rfl) (hVA_5.out.r 2 rfl)) (BHI.out.mono (by omega)) (BGR.out.mono (by omega))).mono ?_
 exact mW7_0) : P_ := h
theorem mW7_5 {P_ : Prop} (h : P_ := by
 try simp only [Act.put,zI,z0,zS]
 refine rdy1 8 rfl (fun Kq hKq=>?_)
 go_simp
 refine stepZ hKq (hVA_4.out.onew VA_4.heap.size #[.slice a6 n6 c6,.bool m6,.slice d6 e6 f6,.slice a2 n2 c2,.bool m2,.slice d2 e2 f2] 42 3 2 rfl (by omega) rfl) (fun _=>HSL _ _ _ _) ?_
 intro VA_5 hVA_5 hHA_5
 clear hKq Kq hVA_4 hHA_4
 exact mW7_3) : P_ := h
theorem mW7_1 {P_ : Prop} (h : P_ := by
 try simp only [Act.put,zI,z0,zS]
 refine rdyL [4,8] ?_
 refine arc rfl (fun Kq hKq=>?_) ?_
 ·go_simp
  go_at_call 157
  refine(min_two (rowR_two ((World.ownsRow.lt (hVA_3.out.orow 0 rfl) _ rfl).2) (hVA_3.out.rcell 0 rfl (k:=0) rfl) (hVA_3.out.rcell 0 rfl (k:=1) rfl) (hVA_3.out.rcell 0 rfl (k:=2) rfl) (hVA_3.out.rcell 0 rfl (k:=3) rfl) (hVA_3.out.rcell 0 rfl (k:=4) rfl) (hVA_3.out.rcell 0 rfl (k:=5) rfl) (hVA_3.out.r 0 rfl) (hVA_3.out.r 2 rfl)) (BLO.out.mono (by omega)) (BGR.out.mono (by omega))).mono ?_
  rintro e wT ⟨a8,n8,c8,m8,d8,e8,f8,rfl,hz,hb⟩
  (try go_wp2_with fail)
  refine stepZ hKq ((hVA_3.out.call hb).pR rfl rfl hz) (fun _=>HSL _ _ _ _) ?_
  intro VA_4 hVA_4 hHA_4
  clear hKq Kq hVA_3 hb hz hHA_3
  exact mW7_5
 refine arc rfl (fun Kq hKq=>?_) ?_
 ·go_simp
  refine stepZ hKq (hVA_3.out.onew VA_3.heap.size #[.slice a6 n6 c6,.bool m6,.slice d6 e6 f6,.slice a2 n2 c2,.bool m2,.slice d2 e2 f2] 42 3 2 rfl (by omega) rfl) (fun _=>HSL _ _ _ _) ?_
  intro VA_4 hVA_4 hHA_4
  clear hKq Kq hVA_3 hHA_3
  try simp only [Act.put,zI,z0,zS]
  refine rdy1 4 rfl (fun Kq hKq=>?_)
  go_simp
  go_at_call 157
  refine(min_two (rowR_two ((World.ownsRow.lt (hVA_4.out.orow 0 rfl) _ rfl).2) (hVA_4.out.rcell 0 rfl (k:=0) rfl) (hVA_4.out.rcell 0 rfl (k:=1) rfl) (hVA_4.out.rcell 0 rfl (k:=2) rfl) (hVA_4.out.rcell 0 rfl (k:=3) rfl) (hVA_4.out.rcell 0 rfl (k:=4) rfl) (hVA_4.out.rcell 0 rfl (k:=5) rfl) (hVA_4.out.r 0 rfl) (hVA_4.out.r 2 rfl)) (BLO.out.mono (by omega)) (BGR.out.mono (by omega))).mono ?_
  rintro e wT ⟨a8,n8,c8,m8,d8,e8,f8,rfl,hz,hb⟩
  (try go_wp2_with fail)
  refine stepZ hKq ((hVA_4.out.call hb).pR rfl rfl hz) (fun _=>HSL _ _ _ _) ?_
  intro VA_5 hVA_5 hHA_5
  clear hKq Kq hVA_4 hb hz hHA_4
  exact mW7_3
 exact AllReadyH.nil) : P_ := h
theorem mW7_2 {P_ : Prop} (h : P_ := by
 try simp only [Act.put,zI,z0,zS]
 refine rdy1 3 rfl (fun Kq hKq=>?_)
 go_simp
 refine stepZ hKq (hVA_3.out.onew VA_3.heap.size #[.slice a5 n5 c5,.bool m5,.slice d5 e5 f5,.slice a2 n2 c2,.bool m2,.slice d2 e2 f2] 42 3 2 rfl (by omega) rfl) (fun _=>HSL _ _ _ _) ?_
 intro VA_4 hVA_4 hHA_4
 clear hKq Kq hVA_3 hHA_3
 try simp only [Act.put,zI,z0,zS]
 refine rdy1 4 rfl (fun Kq hKq=>?_)
 go_simp
 go_at_call 157
 refine(min_two (rowR_two ((World.ownsRow.lt (hVA_4.out.orow 1 rfl) _ rfl).2) (hVA_4.out.rcell 1 rfl (k:=0) rfl) (hVA_4.out.rcell 1 rfl (k:=1) rfl) (hVA_4.out.rcell 1 rfl (k:=2) rfl) (hVA_4.out.rcell 1 rfl (k:=3) rfl) (hVA_4.out.rcell 1 rfl (k:=4) rfl) (hVA_4.out.rcell 1 rfl (k:=5) rfl) (hVA_4.out.r 0 rfl) (hVA_4.out.r 2 rfl)) (BLO.out.mono (by omega)) (BGR.out.mono (by omega))).mono ?_
 rintro e wT ⟨a8,n8,c8,m8,d8,e8,f8,rfl,hz,hb⟩
 (try go_wp2_with fail)
 refine stepZ hKq ((hVA_4.out.call hb).pR rfl rfl hz) (fun _=>HSL _ _ _ _) ?_
 intro VA_5 hVA_5 hHA_5
 clear hKq Kq hVA_4 hb hz hHA_4
 try simp only [Act.put,zI,z0,zS]
 refine rdy1 9 rfl (fun Kq hKq=>?_)
 go_simp
 go_at_call 158
 refine(max_two (rowR_two ((World.ownsRow.lt (hVA_5.out.orow 0 rfl) _ rfl).2) (hVA_5.out.rcell 0 rfl (k:=0) rfl) (hVA_5.out.rcell 0 rfl (k:=1) rfl) (hVA_5.out.rcell 0 rfl (k:=2) rfl) (hVA_5.out.rcell 0 rfl (k:=3) rfl) (hVA_5.out.rcell 0 rfl (k:=4) rfl) (hVA_5.out.rcell 0 rfl (k:=5) rfl) (hVA_5.out.r 1 rfl) (hVA_5.out.r 2 rfl)) (BHI.out.mono (by omega)) (BGR.out.mono (by omega))).mono ?_
 exact mW7_0) : P_ := h
theorem mW7_4 {P_ : Prop} (h : P_ := by
 go_simp
 refine stepZ hKq hVA_1.out (fun _=>HSL _ _ _ _) ?_
 intro VA_2 hVA_2 hHA_2
 clear hKq Kq hVA_1 cQ0 cQ1 cQ2 hHA_1
 try simp only [Act.put,zI,z0,zS]
 refine rdyL [3,8] ?_
 refine arc rfl (fun Kq hKq=>?_) ?_
 ·go_simp
  refine stepZ hKq (hVA_2.out.onew VA_2.heap.size #[.slice a5 n5 c5,.bool m5,.slice d5 e5 f5,.slice a2 n2 c2,.bool m2,.slice d2 e2 f2] 42 3 2 rfl (by omega) rfl) (fun _=>HSL _ _ _ _) ?_
  intro VA_3 hVA_3 hHA_3
  clear hKq Kq hVA_2 hHA_2
  exact mW7_1
 refine arc rfl (fun Kq hKq=>?_) ?_
 ·go_simp
  refine stepZ hKq (hVA_2.out.onew VA_2.heap.size #[.slice a6 n6 c6,.bool m6,.slice d6 e6 f6,.slice a2 n2 c2,.bool m2,.slice d2 e2 f2] 42 3 2 rfl (by omega) rfl) (fun _=>HSL _ _ _ _) ?_
  intro VA_3 hVA_3 hHA_3
  clear hKq Kq hVA_2 hHA_2
  exact mW7_2
 exact AllReadyH.nil) : P_ := h
theorem hbounds_in (n:Nat) (hn:4≤n) (sa:Option Addr) (sn sc:Nat) (l:List Pt) (a b:Int) (hT:Strt l a b) (hs:Sx 2 w sa sn sc (L2 l)):
  CallsIn Fence.wide n Tryz.prog 109 #[.agg #[.slice sa sn sc,.int .i64 a,.int .i64 b]] w (RetRR w (loQ l a b) (hiQ l a b)):=by
 have HS:=ζ hs
 have HT:=ζ hT
 have HGA:=ζ (show Gd (grd l a)from hT.gd (Int.le_refl _) (Int.le_of_lt hT.lt))
 have hlt:=hT.lt
 clear hs hT
 refine callsIn_of_wp_marks Tryz.func109 rfl trivial ?_ rfl
 simp only [Tryz.ntmps109,List.size_toArray,List.length_cons,List.length_nil,Nat.reduceAdd,Nat.reduceSub,Array.replicate_succ,Array.replicate_zero,List.push_toArray,List.append_toArray,List.nil_append,List.cons_append]
 have hS3:=ζ ((((Sy.enter w).al w.heap.size #[.slice sa sn sc,.int .i64 a,.int .i64 b] 120 rfl).al (w.heap.size+1) #[.slice none 0 0,.bool false,.slice none 0 0] 42 (by simp)).al (w.heap.size+1+1) #[.slice none 0 0,.bool false,.slice none 0 0] 42 (by simp))
 gi_wp2_with fail
 refine⟨trivial,fun _=>by omega,(callsIn_wide.2 (ground_any _ sa sn sc l a (HS.out.below hS3.out.be) HT.out.ok HT.out.lo (Int.le_trans (Int.le_of_lt hlt) HT.out.hi))).mono ?_⟩
 rintro e w3 ⟨a4,n4,c4,m4,d4,e4,f4,rfl,hz,hb⟩
 have hS4:=ζ ((hS3.out.call hb).pR rfl rfl hz)
 clear hb hz hS3
 have x1_0:=hS4.out.cell 1 0 rfl rfl
 have xf1_0:=hS4.out.free 1 0 rfl
 have x1_1:=hS4.out.cell 1 1 rfl rfl
 have xf1_1:=hS4.out.free 1 1 rfl
 have x1_2:=hS4.out.cell 1 2 rfl rfl
 have xf1_2:=hS4.out.free 1 2 rfl
 have x2_0:=hS4.out.cell 2 0 rfl rfl
 have xf2_0:=hS4.out.free 2 0 rfl
 have x2_1:=hS4.out.cell 2 1 rfl rfl
 have xf2_1:=hS4.out.free 2 1 rfl
 have x2_2:=hS4.out.cell 2 2 rfl rfl
 have xf2_2:=hS4.out.free 2 2 rfl
 have y0:=hS4.out.cell 0 0 rfl rfl
 have y1:=hS4.out.cell 0 1 rfl rfl
 have y2:=hS4.out.cell 0 2 rfl rfl
 gi_wp2_with fail
 have hS5:=ζ (hS4.out|>.set (j:=0) (v:= .slice a4 n4 c4) 1 rfl|>.set (j:=1) (v:= .bool m4) 1 rfl|>.set (j:=2) (v:= .slice d4 e4 f4) 1 rfl|>.set (j:=0) (v:= .slice a4 n4 c4) 2 rfl|>.set (j:=1) (v:= .bool m4) 2 rfl|>.set (j:=2) (v:= .slice d4 e4 f4) 2 rfl)
 obtain ⟨w4,hw4⟩:∃w4,((((((w3.setCell ⟨w.heap.size+1,0,none⟩ (.slice a4 n4 c4)).setCell ⟨w.heap.size+1,1,none⟩ (.bool m4)).setCell ⟨w.heap.size+1,2,none⟩ (.slice d4 e4 f4)).setCell ⟨w.heap.size+1+1,0,none⟩ (.slice a4 n4 c4)).setCell ⟨w.heap.size+1+1,1,none⟩ (.bool m4)).setCell ⟨w.heap.size+1+1,2,none⟩ (.slice d4 e4 f4))=w4:=⟨_,rfl⟩
 rw [hw4]at hS5⊢
 clear hw4 x1_0 xf1_0 x1_1 xf1_1 x1_2 xf1_2 x2_0 xf2_0 x2_1 xf2_1 x2_2 xf2_2 y0 y1 y2 hS4
 refine⟨trivial,fun _=>by omega,(pieces_in _ (n - 1) sa sn sc a b).mono ?_⟩
 rintro e w' ⟨rfl,rfl⟩
 gi_wp2_with fail
 have hSW:=ζ (hS5.out.row (o:= .cells #[.slice sa sn sc,.int .i64 a,.int .i64 b] 120))
 obtain ⟨W0,hW0⟩:∃W0,w4.alloc (.cells #[.slice sa sn sc,.int .i64 a,.int .i64 b] 120)=W0:=⟨_,rfl⟩
 have hnew:W0.heap[w4.heap.size]? =some (.cells #[.slice sa sn sc,.int .i64 a,.int .i64 b] 120 (0,0)):=by rw [←hW0];exact World.alloc_heap_new _ _
 have hbig:W0.heap.size=w4.heap.size+1:=by rw [←hW0];simp
 have hlt4:∀i bb cs t,[(w.heap.size,(#[.slice sa sn sc,.int .i64 a,.int .i64 b]:Array Value),(120:TypeId)),(w.heap.size+1,(#[.slice a4 n4 c4,.bool m4,.slice d4 e4 f4]:Array Value),(42:TypeId)),(w.heap.size+1+1,(#[.slice a4 n4 c4,.bool m4,.slice d4 e4 f4]:Array Value),(42:TypeId))][i]? =some (bb,cs,t)→bb < w4.heap.size:=fun i bb cs t h=>hS5.out.lt i h
 have g1:=hlt4 0 _ _ _ rfl
 have g2:=hlt4 1 _ _ _ rfl
 have g3:=hlt4 2 _ _ _ rfl
 rw [hW0]at hSW⊢
 obtain ⟨bS,hbS⟩:∃bS,w4.heap.size=bS:=⟨_,rfl⟩
 rw [hbS]at hnew hbig g1 g2 g3⊢
 obtain ⟨b3,hb3⟩:∃b3,w.heap.size+1+1=b3:=⟨_,rfl⟩
 obtain ⟨b2,hb2⟩:∃b2,w.heap.size+1=b2:=⟨_,rfl⟩
 obtain ⟨b1,hb1⟩:∃b1,w.heap.size=b1:=⟨_,rfl⟩
 have hS0:Hid (Sy w W0 [(b1,#[.slice sa sn sc,.int .i64 a,.int .i64 b],120),(b2,#[.slice a4 n4 c4,.bool m4,.slice d4 e4 f4],42),(b3,#[.slice a4 n4 c4,.bool m4,.slice d4 e4 f4],42)] [] [(fun V=>Rd V (.slice a4 n4 c4) m4 (.slice d4 e4 f4) (grd l a))]):=ζ (by rw [←hb3,←hb2,←hb1];exact hSW.out)
 rw [hb3,hb2,hb1]
 rw [hb3]at g3
 rw [hb2]at g2
 rw [hb1]at g1
 have hle:w.heap.size≤W0.heap.size:=hS0.out.be.size
 have hSR:SRd W0 bS sa sn sc l a b:=⟨by simp [World.cell?,hnew],by simp [World.cell?,hnew],by simp [World.cell?,hnew],HS.out.below hS0.out.be⟩
 have hown:∀k∈ [b1,b2,b3],k < bS:=by intro k hk;simp at hk;omega
 have hrow:∀g o,sa=some ⟨g,o,none⟩→g∉ [b1,b2,b3]:=by
  intro g o e hm
  obtain ⟨g',o',e',hg,_⟩:=HS.out.2.2.2 (by have:=HS.out.n2;have:=HT.out.ok.two;omega)
  rw [e]at e'
  simp only [Option.some.injEq,Addr.mk.injEq,and_true]at e'
  simp at hm
  omega
 have HZ:=ζ (show b1=w.heap.size∧b2=w.heap.size+1∧b3=w.heap.size+2∧W0.heap.size=bS+1∧b3 < bS from by omega)
 have hbS1:bS∉ [b1,b2,b3]:=fun hm=>by have:=hown _ hm;omega
 have hown1:∀k∈ [b1,b2,b3],k < W0.heap.size:=fun k hk=>by have:=hown k hk;omega
 clear hSW hW0 hnew hbS hbig hb2 hb3 hb1 hown g1 g2 g3 hlt4 hS5
 refine wpIn_rangeFunc_at (gf:=177) (lb:=#[.pointer (some ⟨bS,0,none⟩)]) (w0:=W0) (by omega) rfl (enters_of Tryz.func177 (by kernel_rfl) rfl)
  (pieces1_at (n - 1) (by omega) bS sa sn sc l a b W0 HT.out [b1,b2,b3] hSR hbS1 hrow hown1) (Below.refl _ _) (fun _=>rfl)
  keepsC_t (fun W k o o' _ hl ho=>keepsC_p W k o o' hl ho)
  (fun pre W=>Hid (∃ (a5:Option Addr) (n5 c5:Nat) (m5:Bool) (d5:Option Addr) (e5 f5:Nat) (a6:Option Addr) (n6 c6:Nat) (m6:Bool) (d6:Option Addr) (e6 f6:Nat),Sy w W [(b1,#[.slice sa sn sc,.int .i64 a,.int .i64 b],120),(b2,#[.slice a5 n5 c5,.bool m5,.slice d5 e5 f5],42),(b3,#[.slice a6 n6 c6,.bool m6,.slice d6 e6 f6],42)] [] []∧Rd W (.slice a5 n5 c5) m5 (.slice d5 e5 f5) (((pre).map fun x=>grd l x.t.2).foldl minQ (grd l a))∧Rd W (.slice a6 n6 c6) m6 (.slice d6 e6 f6) (((pre).map fun x=>grd l x.t.2).foldl maxQ (grd l a))∧W0.heap.size≤W.heap.size∧∀y∈pre,a≤y.t.1∧y.t.1 < y.t.2∧y.t.2≤b))
  (fun s A B hs hAB=>by
   obtain ⟨a5,n5,c5,m5,d5,e5,f5,a6,n6,c6,m6,d6,e6,f6,h1,h2,h3,h4,h5⟩:=hs.out
   exact ζ ⟨a5,n5,c5,m5,d5,e5,f5,a6,n6,c6,m6,d6,e6,f6,h1.call hAB,h2.keep (Below.keeps hAB),h3.keep (Below.keeps hAB),Nat.le_trans h4 hAB.size,h5⟩)
  (fun s W k o o' hs hk hl ho=>by
   obtain ⟨a5,n5,c5,m5,d5,e5,f5,a6,n6,c6,m6,d6,e6,f6,h1,h2,h3,h4,h5⟩:=hs.out
   exact ζ ⟨a5,n5,c5,m5,d5,e5,f5,a6,n6,c6,m6,d6,e6,f6,h1.put (Nat.le_trans hle hk) hl ho,h2.putObj k o o' hl ho,h3.putObj k o o' hl ho,by simpa using h4,h5⟩)
  (ζ ⟨a4,n4,c4,m4,d4,e4,f4,a4,n4,c4,m4,d4,e4,f4,hS0.out.pick [] rfl,hS0.out.r 0 rfl,hS0.out.r 0 rfl,Nat.le_refl _,fun y hy=>by cases hy⟩)
  (fun x a' W=>∃b6,a'= { tmps:=#[.agg #[.slice sa sn sc,.int .i64 a,.int .i64 b],.pointer (some ⟨b1,0,none⟩),.pointer (some ⟨b2,0,none⟩),.pointer (some ⟨b3,0,none⟩),.pointer (some ⟨b6,0,none⟩),.pointer (some ⟨b1,0,none⟩),.slice sa sn sc,.pointer (some ⟨b1,1,none⟩),.int .i64 a,.agg #[.slice a4 n4 c4,.bool m4,.slice d4 e4 f4],.agg #[.slice a4 n4 c4,.bool m4,.slice d4 e4 f4],.agg #[.slice sa sn sc,.int .i64 a,.int .i64 b],.func (.func 177) #[] #[.pointer (some ⟨bS,0,none⟩)],encP x,undef,undef,undef,undef,undef,undef,undef,undef,undef,undef,undef,undef],defers:=[] } ∧W0.heap.size≤b6∧W.heap[b6]? =some (.cells #[.int .i64 (x.t.2 - x.t.1),.slice x.a1 x.n1 x.c1,.bool x.m1,.slice x.d1 x.e1 x.f1,.slice x.a2 x.n2 x.c2,.bool x.m2,.slice x.d2 x.e2 x.f2] 179 (0,0))∧EP l a b x W)
  (fun x a' W k o o' hA hl ho=>by
   obtain ⟨b6,h1,h2,h3,h4⟩:=hA
   exact⟨b6,h1,h2,(World.putObj_heap_other (fun e=>by subst e;rw [hl]at h3;cases h3;cases ho)).trans h3,h4.putObj k o o' hl ho⟩)
  ?assign ?body ?done
 case assign=>
  intro lr pre x W K hi hx hK
  gi_wp2
  have hal:Below W.heap.size W (W.alloc (.cells #[.int .i64 (x.t.2 - x.t.1),.slice x.a1 x.n1 x.c1,.bool x.m1,.slice x.d1 x.e1 x.f1,.slice x.a2 x.n2 x.c2,.bool x.m2,.slice x.d2 x.e2 x.f2] 179)):=(Below.refl _ _).alloc (Nat.le_refl _) _
  obtain ⟨a5,n5,c5,m5,d5,e5,f5,a6,n6,c6,m6,d6,e6,f6,h1,h2,h3,h4,h5⟩:=hi.out
  exact hK _ _ ⟨hal.size,fun k o _ hk _=>heap_below hal hk⟩ (keepsC_below hal) (ζ ⟨a5,n5,c5,m5,d5,e5,f5,a6,n6,c6,m6,d6,e6,f6,h1.call hal,h2.keep (Below.keeps hal),h3.keep (Below.keeps hal),Nat.le_trans h4 hal.size,h5⟩) ⟨W.heap.size,rfl,h4,World.alloc_heap_new _ _,hx.below hal⟩
 case body=>
  rintro lr pre ⟨⟨u1,u2⟩,a1,n1,c1,m1,d1,e1,f1,a2,n2,c2,m2,d2,e2,f2⟩ a' W hi ⟨b7,rfl,hb7,hc7,hE⟩ hlen
  obtain ⟨a5,n5,c5,m5,d5,e5,f5,a6,n6,c6,m6,d6,e6,f6,h1,h2,h3,h4,h5⟩:=hi.out
  clear hi
  have hl6:w.heap.size≤b7:=Nat.le_trans hle hb7
  have hn6:b7∉ownOf [(b1,#[.slice sa sn sc,.int .i64 a,.int .i64 b],120),(b2,#[.slice a5 n5 c5,.bool m5,.slice d5 e5 f5],42),(b3,#[.slice a6 n6 c6,.bool m6,.slice d6 e6 f6],42)] []:=by
   intro hm
   simp [ownOf]at hm
   have:=HZ.out
   omega
  have hS6:=ζ (h1.addB hl6 hc7 hn6)
  have hall:∀q∈(pre.map fun x=>grd l x.t.2),Bq 36 q:=by
   intro q hq
   obtain ⟨y,hy,rfl⟩:=List.mem_map.1 hq
   obtain ⟨y1,y2,y3⟩:=h5 y hy
   exact(HT.out.gd (x:=y.t.2) (by omega) y3).bq
  have BLO:=ζ (foldl_bq minQ_or HGA.out.bq hall)
  have BHI:=ζ (foldl_bq maxQ_or HGA.out.bq hall)
  have BGR:=ζ (show Bq 36 (grd l u2)from(HT.out.gd (x:=u2) (Int.le_of_lt (Int.lt_of_le_of_lt hE.ge hE.lt)) hE.le).bq)
  have HLO:=ζ (show((pre++ [(⟨(u1,u2),a1,n1,c1,m1,d1,e1,f1,a2,n2,c2,m2,d2,e2,f2⟩:Pcv)]).map fun x=>grd l x.t.2).foldl minQ (grd l a)=minQ (((pre).map fun x=>grd l x.t.2).foldl minQ (grd l a)) (grd l u2)from by rw [List.map_append,List.foldl_append];rfl)
  have HHI:=ζ (show((pre++ [(⟨(u1,u2),a1,n1,c1,m1,d1,e1,f1,a2,n2,c2,m2,d2,e2,f2⟩:Pcv)]).map fun x=>grd l x.t.2).foldl maxQ (grd l a)=maxQ (((pre).map fun x=>grd l x.t.2).foldl maxQ (grd l a)) (grd l u2)from by rw [List.map_append,List.foldl_append];rfl)
  have HGE:=ζ (show a≤u1∧u1 < u2∧u2≤b from⟨hE.ge,hE.lt,hE.le⟩)
  have HC6:=ζ hc7
  have H4:=ζ h4
  have H5:=ζ h5
  have hE2:=hE.last
  dsimp only at hE2
  generalize ((pre).map fun x=>grd l x.t.2).foldl minQ (grd l a)=lo at*
  generalize ((pre).map fun x=>grd l x.t.2).foldl maxQ (grd l a)=hi at*
  generalize grd l u2=gr at*
  have hS7:Hid (Sy w W [(b1,#[.slice sa sn sc,.int .i64 a,.int .i64 b],120),(b2,#[.slice a5 n5 c5,.bool m5,.slice d5 e5 f5],42),(b3,#[.slice a6 n6 c6,.bool m6,.slice d6 e6 f6],42),(b7,#[.int .i64 (u2 - u1),.slice a1 n1 c1,.bool m1,.slice d1 e1 f1,.slice a2 n2 c2,.bool m2,.slice d2 e2 f2],179)] [] [(fun V=>Rd V (.slice a5 n5 c5) m5 (.slice d5 e5 f5) (lo)),(fun V=>Rd V (.slice a6 n6 c6) m6 (.slice d6 e6 f6) (hi)),(fun V=>Rd V (.slice a2 n2 c2) m2 (.slice d2 e2 f2) (gr)),(fun V=>Away [b1,b2,b3,b7] W V)]):=ζ ((((hS6.out.pR rfl rfl h2).pR rfl rfl h3).pR rfl rfl hE2).push (fun V hV=>hV))
  clear h1 h2 h3 h4 h5 hc7 hE hE2 hn6 hall
  gi_wp2_with fail
  refine wpIn_mono (Q:=fun e _ W'=>e= .normal∧Hid (KeepsFrom W0.heap.size W W'∧KeepsC [b1,b2,b3] W W'∧∃ (a5:Option Addr) (n5 c5:Nat) (m5:Bool) (d5:Option Addr) (e5 f5:Nat) (a6:Option Addr) (n6 c6:Nat) (m6:Bool) (d6:Option Addr) (e6 f6:Nat),Sy w W' [(b1,#[.slice sa sn sc,.int .i64 a,.int .i64 b],120),(b2,#[.slice a5 n5 c5,.bool m5,.slice d5 e5 f5],42),(b3,#[.slice a6 n6 c6,.bool m6,.slice d6 e6 f6],42)] [] []∧Rd W' (.slice a5 n5 c5) m5 (.slice d5 e5 f5) (((pre++ [(⟨(u1,u2),a1,n1,c1,m1,d1,e1,f1,a2,n2,c2,m2,d2,e2,f2⟩:Pcv)]).map fun x=>grd l x.t.2).foldl minQ (grd l a))∧Rd W' (.slice a6 n6 c6) m6 (.slice d6 e6 f6) (((pre++ [(⟨(u1,u2),a1,n1,c1,m1,d1,e1,f1,a2,n2,c2,m2,d2,e2,f2⟩:Pcv)]).map fun x=>grd l x.t.2).foldl maxQ (grd l a))∧W0.heap.size≤W'.heap.size∧∀y∈pre++ [(⟨(u1,u2),a1,n1,c1,m1,d1,e1,f1,a2,n2,c2,m2,d2,e2,f2⟩:Pcv)],a≤y.t.1∧y.t.1 < y.t.2∧y.t.2≤b)) ?reg ?rest
  case reg=>
   have HSL:∀V ex os rs,Sy w V ([(b1,#[.slice sa sn sc,.int .i64 a,.int .i64 b],120),(b2,#[.slice a5 n5 c5,.bool m5,.slice d5 e5 f5],42),(b3,#[.slice a6 n6 c6,.bool m6,.slice d6 e6 f6],42),(b7,#[.int .i64 (u2 - u1),.slice a1 n1 c1,.bool m1,.slice d1 e1 f1,.slice a2 n2 c2,.bool m2,.slice d2 e2 f2],179)]++ex) os rs→(fun w'=>w'.cell? ⟨b7,0,none⟩=some (.int .i64 (u2 - u1))∧w'.cell? ⟨b7,1,none⟩=some (.slice a1 n1 c1)∧w'.cell? ⟨b7,2,none⟩=some (.bool m1)∧w'.cell? ⟨b7,3,none⟩=some (.slice d1 e1 f1)∧w'.cell? ⟨b7,4,none⟩=some (.slice a2 n2 c2)∧w'.cell? ⟨b7,5,none⟩=some (.bool m2)∧w'.cell? ⟨b7,6,none⟩=some (.slice d2 e2 f2)∧True) V:=fun V ex os rs hX=>⟨hX.cell 3 0 rfl rfl,hX.cell 3 1 rfl rfl,hX.cell 3 2 rfl rfl,hX.cell 3 3 rfl rfl,hX.cell 3 4 rfl rfl,hX.cell 3 5 rfl rfl,hX.cell 3 6 rfl rfl,trivial⟩
   refine wpIn_region_round (S:=(fun w'=>w'.cell? ⟨b7,0,none⟩=some (.int .i64 (u2 - u1))∧w'.cell? ⟨b7,1,none⟩=some (.slice a1 n1 c1)∧w'.cell? ⟨b7,2,none⟩=some (.bool m1)∧w'.cell? ⟨b7,3,none⟩=some (.slice d1 e1 f1)∧w'.cell? ⟨b7,4,none⟩=some (.slice a2 n2 c2)∧w'.cell? ⟨b7,5,none⟩=some (.bool m2)∧w'.cell? ⟨b7,6,none⟩=some (.slice d2 e2 f2)∧True)) ?_ (by kernel_rfl) ⟨hS7.out.drew.cell 3 0 rfl rfl,hS7.out.drew.cell 3 1 rfl rfl,hS7.out.drew.cell 3 2 rfl rfl,hS7.out.drew.cell 3 3 rfl rfl,hS7.out.drew.cell 3 4 rfl rfl,hS7.out.drew.cell 3 5 rfl rfl,hS7.out.drew.cell 3 6 rfl rfl,trivial⟩ (fun hH=>?_)
   ·kernel_rfl
   refine wpAnyH_geny (show Sy w _ [(b1,#[.slice sa sn sc,.int .i64 a,.int .i64 b],120),(b2,#[.slice a5 n5 c5,.bool m5,.slice d5 e5 f5],42),(b3,#[.slice a6 n6 c6,.bool m6,.slice d6 e6 f6],42),(b7,#[.int .i64 (u2 - u1),.slice a1 n1 c1,.bool m1,.slice d1 e1 f1,.slice a2 n2 c2,.bool m2,.slice d2 e2 f2],179)] [] [(fun V=>Rd V (.slice a5 n5 c5) m5 (.slice d5 e5 f5) (lo)),(fun V=>Rd V (.slice a6 n6 c6) m6 (.slice d6 e6 f6) (hi)),(fun V=>Rd V (.slice a2 n2 c2) m2 (.slice d2 e2 f2) (gr)),(fun V=>Away [b1,b2,b3,b7] W V)]from hS7.out.drew) hH ?_
   intro VA_0 hc hHA_0
   have hVA_0:=ζ hc
   clear hc hH hS7
   refine tkA 1 rfl hHA_0 ?_
   try simp only [Act.put,zI,z0,zS]
   refine tkA 2 rfl hHA_0 ?_
   try simp only [Act.put,zI,z0,zS]
   refine tkA 6 rfl hHA_0 ?_
   try simp only [Act.put,zI,z0,zS]
   refine tkA 7 rfl hHA_0 ?_
   try simp only [Act.put,zI,z0,zS]
   refine rdyL [0,5] ?_
   refine arc rfl (fun Kq hKq=>?_) ?_
   ·have cQ0:=hVA_0.out.cell 1 0 rfl rfl
    have cQ1:=hVA_0.out.cell 1 1 rfl rfl
    have cQ2:=hVA_0.out.cell 1 2 rfl rfl
    go_simp
    refine stepZ hKq hVA_0.out (fun _=>HSL _ _ _ _) ?_
    intro VA_1 hVA_1 hHA_1
    clear hKq Kq hVA_0 cQ0 cQ1 cQ2 hHA_0
    try simp only [Act.put,zI,z0,zS]
    refine rdyL [3,5] ?_
    refine arc rfl (fun Kq hKq=>?_) ?_
    ·go_simp
     refine stepZ hKq (hVA_1.out.onew VA_1.heap.size #[.slice a5 n5 c5,.bool m5,.slice d5 e5 f5,.slice a2 n2 c2,.bool m2,.slice d2 e2 f2] 42 3 2 rfl (by omega) rfl) (fun _=>HSL _ _ _ _) ?_
     intro VA_2 hVA_2 hHA_2
     clear hKq Kq hVA_1 hHA_1
     try simp only [Act.put,zI,z0,zS]
     refine rdyL [4,5] ?_
     refine arc rfl (fun Kq hKq=>?_) ?_
     ·go_simp
      go_at_call 157
      refine(min_two (rowR_two ((World.ownsRow.lt (hVA_2.out.orow 0 rfl) _ rfl).2) (hVA_2.out.rcell 0 rfl (k:=0) rfl) (hVA_2.out.rcell 0 rfl (k:=1) rfl) (hVA_2.out.rcell 0 rfl (k:=2) rfl) (hVA_2.out.rcell 0 rfl (k:=3) rfl) (hVA_2.out.rcell 0 rfl (k:=4) rfl) (hVA_2.out.rcell 0 rfl (k:=5) rfl) (hVA_2.out.r 0 rfl) (hVA_2.out.r 2 rfl)) (BLO.out.mono (by omega)) (BGR.out.mono (by omega))).mono ?_
      rintro e wT ⟨a8,n8,c8,m8,d8,e8,f8,rfl,hz,hb⟩
      (try go_wp2_with fail)
      refine stepZ hKq ((hVA_2.out.call hb).pR rfl rfl hz) (fun _=>HSL _ _ _ _) ?_
      intro VA_3 hVA_3 hHA_3
      clear hKq Kq hVA_2 hb hz hHA_2
      try simp only [Act.put,zI,z0,zS]
      refine rdy1 5 rfl (fun Kq hKq=>?_)
      have cQ0:=hVA_3.out.cell 2 0 rfl rfl
      have cQ1:=hVA_3.out.cell 2 1 rfl rfl
      have cQ2:=hVA_3.out.cell 2 2 rfl rfl
      go_simp
      refine stepZ hKq hVA_3.out (fun _=>HSL _ _ _ _) ?_
      intro VA_4 hVA_4 hHA_4
      clear hKq Kq hVA_3 cQ0 cQ1 cQ2 hHA_3
      exact mW7_5
     refine arc rfl (fun Kq hKq=>?_) ?_
     ·have cQ0:=hVA_2.out.cell 2 0 rfl rfl
      have cQ1:=hVA_2.out.cell 2 1 rfl rfl
      have cQ2:=hVA_2.out.cell 2 2 rfl rfl
      go_simp
      refine stepZ hKq hVA_2.out (fun _=>HSL _ _ _ _) ?_
      intro VA_3 hVA_3 hHA_3
      clear hKq Kq hVA_2 cQ0 cQ1 cQ2 hHA_2
      exact mW7_1
     exact AllReadyH.nil
    refine arc rfl (fun Kq hKq=>?_) ?_
    ·have cQ0:=hVA_1.out.cell 2 0 rfl rfl
     have cQ1:=hVA_1.out.cell 2 1 rfl rfl
     have cQ2:=hVA_1.out.cell 2 2 rfl rfl
     exact mW7_4
    exact AllReadyH.nil
   refine arc rfl (fun Kq hKq=>?_) ?_
   ·have cQ0:=hVA_0.out.cell 2 0 rfl rfl
    have cQ1:=hVA_0.out.cell 2 1 rfl rfl
    have cQ2:=hVA_0.out.cell 2 2 rfl rfl
    go_simp
    refine stepZ hKq hVA_0.out (fun _=>HSL _ _ _ _) ?_
    intro VA_1 hVA_1 hHA_1
    clear hKq Kq hVA_0 cQ0 cQ1 cQ2 hHA_0
    try simp only [Act.put,zI,z0,zS]
    refine rdyL [0,8] ?_
    refine arc rfl (fun Kq hKq=>?_) ?_
    ·have cQ0:=hVA_1.out.cell 1 0 rfl rfl
     have cQ1:=hVA_1.out.cell 1 1 rfl rfl
     have cQ2:=hVA_1.out.cell 1 2 rfl rfl
     exact mW7_4
    refine arc rfl (fun Kq hKq=>?_) ?_
    ·go_simp
     refine stepZ hKq (hVA_1.out.onew VA_1.heap.size #[.slice a6 n6 c6,.bool m6,.slice d6 e6 f6,.slice a2 n2 c2,.bool m2,.slice d2 e2 f2] 42 3 2 rfl (by omega) rfl) (fun _=>HSL _ _ _ _) ?_
     intro VA_2 hVA_2 hHA_2
     clear hKq Kq hVA_1 hHA_1
     try simp only [Act.put,zI,z0,zS]
     refine rdy1 0 rfl (fun Kq hKq=>?_)
     have cQ0:=hVA_2.out.cell 1 0 rfl rfl
     have cQ1:=hVA_2.out.cell 1 1 rfl rfl
     have cQ2:=hVA_2.out.cell 1 2 rfl rfl
     go_simp
     refine stepZ hKq hVA_2.out (fun _=>HSL _ _ _ _) ?_
     intro VA_3 hVA_3 hHA_3
     clear hKq Kq hVA_2 cQ0 cQ1 cQ2 hHA_2
     exact mW7_2
    exact AllReadyH.nil
   exact AllReadyH.nil
  case rest=>
   rintro e a' W' ⟨rfl,h⟩
   exact⟨rfl,h.out.1,h.out.2.1,ζ h.out.2.2⟩
 case done=>
  rintro D xs W hD hxs hi hdef
  obtain ⟨a5,n5,c5,m5,d5,e5,f5,a6,n6,c6,m6,d6,e6,f6,h1,h2,h3,h4,h5⟩:=hi.out
  clear hi
  have HX:=ζ (show((xs).map fun x=>grd l x.t.2).foldl minQ (grd l a)=loQ l a b∧((xs).map fun x=>grd l x.t.2).foldl maxQ (grd l a)=hiQ l a b from by
   unfold loQ hiQ
   rw [←hxs,List.map_map];exact⟨rfl,rfl⟩)
  have hS:=ζ ((h1.pR rfl rfl h2).pR rfl rfl h3|>.push (r:=fun V=>Away [b1,b2,b3] W V) (fun V hV=>hV))
  have hDs:=ζ hdef
  have HD:=ζ hD
  clear h1 h2 h3 h4 h5 hdef hxs hD
  gi_wp2_with fail
  refine wpIn_mono (Q:=fun e a' W'=>e= .normal∧Hid (∃v24 v25:Value,a'= { tmps:=#[.agg #[.slice sa sn sc,.int .i64 a,.int .i64 b],.pointer (some ⟨b1,0,none⟩),.pointer (some ⟨b2,0,none⟩),.pointer (some ⟨b3,0,none⟩),undef,.pointer (some ⟨b1,0,none⟩),.slice sa sn sc,.pointer (some ⟨b1,1,none⟩),.int .i64 a,.agg #[.slice a4 n4 c4,.bool m4,.slice d4 e4 f4],.agg #[.slice a4 n4 c4,.bool m4,.slice d4 e4 f4],.agg #[.slice sa sn sc,.int .i64 a,.int .i64 b],.func (.func 177) #[] #[.pointer (some ⟨bS,0,none⟩)],undef,undef,undef,undef,undef,undef,undef,undef,undef,undef,undef,v24,v25],defers:=[{ target:= .collected D,args:=#[] }] } ∧Sy w W' [(b1,#[.slice sa sn sc,.int .i64 a,.int .i64 b],120),(b2,#[.slice a5 n5 c5,.bool m5,.slice d5 e5 f5],42),(b3,#[.slice a6 n6 c6,.bool m6,.slice d6 e6 f6],42)] [] [(fun V=>Rd V (.slice a5 n5 c5) m5 (.slice d5 e5 f5) (((xs).map fun x=>grd l x.t.2).foldl minQ (grd l a))),(fun V=>Rd V (.slice a6 n6 c6) m6 (.slice d6 e6 f6) (((xs).map fun x=>grd l x.t.2).foldl maxQ (grd l a))),(fun V=>Away [b1,b2,b3] W V)])) ?reg2 ?rest2
  case reg2=>
   have HSL:∀V ex os rs,Sy w V ([(b1,#[.slice sa sn sc,.int .i64 a,.int .i64 b],120),(b2,#[.slice a5 n5 c5,.bool m5,.slice d5 e5 f5],42),(b3,#[.slice a6 n6 c6,.bool m6,.slice d6 e6 f6],42)]++ex) os rs→(fun w'=>w'.cell? ⟨b2,0,none⟩=some (.slice a5 n5 c5)∧w'.cell? ⟨b2,1,none⟩=some (.bool m5)∧w'.cell? ⟨b2,2,none⟩=some (.slice d5 e5 f5)∧w'.cell? ⟨b3,0,none⟩=some (.slice a6 n6 c6)∧w'.cell? ⟨b3,1,none⟩=some (.bool m6)∧w'.cell? ⟨b3,2,none⟩=some (.slice d6 e6 f6)∧True) V:=fun V ex os rs hX=>⟨hX.cell 1 0 rfl rfl,hX.cell 1 1 rfl rfl,hX.cell 1 2 rfl rfl,hX.cell 2 0 rfl rfl,hX.cell 2 1 rfl rfl,hX.cell 2 2 rfl rfl,trivial⟩
   refine wpIn_region_wide (S:=(fun w'=>w'.cell? ⟨b2,0,none⟩=some (.slice a5 n5 c5)∧w'.cell? ⟨b2,1,none⟩=some (.bool m5)∧w'.cell? ⟨b2,2,none⟩=some (.slice d5 e5 f5)∧w'.cell? ⟨b3,0,none⟩=some (.slice a6 n6 c6)∧w'.cell? ⟨b3,1,none⟩=some (.bool m6)∧w'.cell? ⟨b3,2,none⟩=some (.slice d6 e6 f6)∧True)) ?_ (by kernel_rfl) ⟨hS.out.drew.cell 1 0 rfl rfl,hS.out.drew.cell 1 1 rfl rfl,hS.out.drew.cell 1 2 rfl rfl,hS.out.drew.cell 2 0 rfl rfl,hS.out.drew.cell 2 1 rfl rfl,hS.out.drew.cell 2 2 rfl rfl,trivial⟩ (fun hH=>?_)
   ·kernel_rfl
   refine wpAnyH_geny (show Sy w _ [(b1,#[.slice sa sn sc,.int .i64 a,.int .i64 b],120),(b2,#[.slice a5 n5 c5,.bool m5,.slice d5 e5 f5],42),(b3,#[.slice a6 n6 c6,.bool m6,.slice d6 e6 f6],42)] [] [(fun V=>Rd V (.slice a5 n5 c5) m5 (.slice d5 e5 f5) (((xs).map fun x=>grd l x.t.2).foldl minQ (grd l a))),(fun V=>Rd V (.slice a6 n6 c6) m6 (.slice d6 e6 f6) (((xs).map fun x=>grd l x.t.2).foldl maxQ (grd l a))),(fun V=>Away [b1,b2,b3] W V)]from hS.out.drew) hH ?_
   intro VZ_0 hc hHZ_0
   have hVZ_0:=ζ hc
   clear hc hH hS
   refine wpAnyH_take (i:=0) (oi:=⟨_,_,_,_,_,_⟩) (v:=?_) rfl (by kernel_rfl) (by kernel_rfl) (by kernel_rfl) (fun _ _ _ h=>by cases h.1) (Or.inl ⟨by rfl,?_⟩) hHZ_0 ?_
   rotate_left
   ·intro wS hSw;(try dsimp only at hSw);go_simp;try with_reducible rfl
   try simp only [Act.put,zI,z0,zS]
   refine wpAnyH_take (i:=1) (oi:=⟨_,_,_,_,_,_⟩) (v:=?_) rfl (by kernel_rfl) (by kernel_rfl) (by kernel_rfl) (fun _ _ _ h=>by cases h.1) (Or.inl ⟨by rfl,?_⟩) hHZ_0 ?_
   rotate_left
   ·intro wS hSw;(try dsimp only at hSw);go_simp;try with_reducible rfl
   try simp only [Act.put,zI,z0,zS]
   refine rdy1 2 rfl (fun Kq hKq=>?_)
   have cQ0:=hVZ_0.out.cell 1 0 rfl rfl
   have fQ0:=hVZ_0.out.free 1 0 rfl
   have cQ1:=hVZ_0.out.cell 1 1 rfl rfl
   have fQ1:=hVZ_0.out.free 1 1 rfl
   have cQ2:=hVZ_0.out.cell 1 2 rfl rfl
   have fQ2:=hVZ_0.out.free 1 2 rfl
   go_simp
   refine stepZ hKq (hVZ_0.out|>.set (j:=0) (v:= .slice a5 n5 c5) 1 rfl|>.set (j:=1) (v:= .bool m5) 1 rfl|>.set (j:=2) (v:= .slice d5 e5 f5) 1 rfl) (fun _=>HSL _ _ _ _) ?_
   intro VZ_1 hVZ_1 hHZ_1
   clear hKq Kq hVZ_0 cQ0 fQ0 cQ1 fQ1 cQ2 fQ2 hHZ_0
   try simp only [Act.put]
   refine rdy1 3 rfl (fun Kq hKq=>?_)
   have cQ0:=hVZ_1.out.cell 2 0 rfl rfl
   have fQ0:=hVZ_1.out.free 2 0 rfl
   have cQ1:=hVZ_1.out.cell 2 1 rfl rfl
   have fQ1:=hVZ_1.out.free 2 1 rfl
   have cQ2:=hVZ_1.out.cell 2 2 rfl rfl
   have fQ2:=hVZ_1.out.free 2 2 rfl
   go_simp
   refine stepZ hKq (hVZ_1.out|>.set (j:=0) (v:= .slice a6 n6 c6) 2 rfl|>.set (j:=1) (v:= .bool m6) 2 rfl|>.set (j:=2) (v:= .slice d6 e6 f6) 2 rfl) (fun _=>HSL _ _ _ _) ?_
   intro VZ_2 hVZ_2 hHZ_2
   clear hKq Kq hVZ_1 cQ0 fQ0 cQ1 fQ1 cQ2 fQ2 hHZ_1
   try simp only [Act.put]
   refine wpAnyH_done (by kernel_rfl) ?_ _
   exact⟨rfl,ζ ⟨_,_,rfl,hVZ_2.out⟩⟩
  case rest2=>
   rintro e a' W' ⟨rfl,h⟩
   obtain ⟨v24,v25,rfl,hZ⟩:=h.out
   have hdf:W'.heap[D]? =some (.deferred (some [])):=by
    refine((hZ.r 2 rfl).2 D (Array.getElem?_eq_some_iff.1 hDs.out).1 (fun hm=>?_)).trans hDs.out
    simp at hm
    have:=HZ.out
    have:=HD.out
    omega
   have hY:=(hZ.pick [] rfl).put (o':= .deferred none) (show w.heap.size≤D from Nat.le_trans hle HD.out) hdf rfl
   gi_wp2
   refine⟨by simp,.inl ⟨_,_,rfl,run_takeDeferred hdf,?_⟩⟩
   have q0:=hY.cell 1 0 rfl rfl
   have q1:=hY.cell 1 1 rfl rfl
   have q2:=hY.cell 1 2 rfl rfl
   have q3:=hY.cell 2 0 rfl rfl
   have q4:=hY.cell 2 1 rfl rfl
   have q5:=hY.cell 2 2 rfl rfl
   exact⟨_,by simp [results,Tryz.results109,go_sem,q0,q1,q2,q3,q4,q5],a5,n5,c5,m5,d5,e5,f5,a6,n6,c6,m6,d6,e6,f6,rfl,by rw [←HX.out.1];exact(hZ.r 0 rfl).putObj D _ _ hdf rfl,by rw [←HX.out.2];exact(hZ.r 1 rfl).putObj D _ _ hdf rfl,hY.be⟩
end
def strB (l:List Pt) (a b:Int):Bool:=hasB l a && hasB l b && decide (a < b)
def strErr (l:List Pt) (a b:Int):Int:=if profB l=true then(if strB l a b=true then 0 else 11)else 2
theorem strErr_bad {l:List Pt} {a b:Int} (h:profB l=false):strErr l a b=2:=by unfold strErr;rw [h];rfl
theorem strErr_no {l:List Pt} {a b:Int} (h:profB l=true) (h2:strB l a b=false):strErr l a b=11:=by unfold strErr;rw [if_pos h,h2];rfl
theorem strErr_ok {l:List Pt} {a b:Int} (h:profB l=true) (h2:strB l a b=true):strErr l a b=0:=by unfold strErr;rw [if_pos h,if_pos h2]
theorem strErr_zero {l:List Pt} {a b:Int} (h:strErr l a b=0):Strt l a b:=by
 unfold strErr at h
 split at h
 ·rename_i h1
  split at h
  ·rename_i h2
   unfold strB at h2
   simp only [Bool.and_eq_true,decide_eq_true_eq]at h2
   exact⟨prof_iff.1 h1,(inB_iff.1 h2.1.1).1,h2.2,(inB_iff.1 h2.1.2).2⟩
  ·cases h
 ·cases h
def RetRRE (w:World) (p q:Rat) (k:Int) (e:Ending) (w':World):Prop:=∃ (a5:Option Addr) (n5 c5:Nat) (m5:Bool) (d5:Option Addr) (e5 f5:Nat) (a6:Option Addr) (n6 c6:Nat) (m6:Bool) (d6:Option Addr) (e6 f6:Nat),e= .returned (.tuple #[.agg #[.slice a5 n5 c5,.bool m5,.slice d5 e5 f5],.agg #[.slice a6 n6 c6,.bool m6,.slice d6 e6 f6],.int .i64 k])∧Rd w' (.slice a5 n5 c5) m5 (.slice d5 e5 f5) (p)∧Rd w' (.slice a6 n6 c6) m6 (.slice d6 e6 f6) (q)∧Below w.heap.size w w'
section
variable (w:World)
theorem mW8_1 {P_ : Prop} (h : P_ := by
 have g0:=hF.cell 0 0 rfl rfl
 have g1:=hF.cell 0 1 rfl rfl
 have g2:=hF.cell 0 2 rfl rfl
 simp [results,Tryz.results74,go_sem,g0,g1,g2]) : P_ := h
theorem mW8_0 {P_ : Prop} (h : P_ := by
 rw [HE.out]
 clear h1 h2 HE HY HN HS
 go_enter Tryz.func74,Tryz.ntmps74
 go_wp2_with fail
 refine(HK.out _ hC.out.be).mono ?_
 rintro e w1 ⟨rfl,hb⟩
 have hD:=ζ (hC.out.call hb)
 clear hb hC
 have y1_0:=hD.out.cell 1 0 rfl rfl
 go_wp2_with fail
 refine(HA.out _ hD.out.be).mono ?_
 rintro e w2 ⟨rfl,hb⟩
 have hE:=ζ (hD.out.call hb)
 clear hb hD y1_0
 have y1_0:=hE.out.cell 1 0 rfl rfl
 go_wp2_with fail
 refine(HB.out _ hE.out.be).mono ?_
 rintro e w3 ⟨rfl,hb⟩
 have hG:=ζ (hE.out.call hb)
 clear hb hE y1_0
 have x0_0:=hG.out.cell 0 0 rfl rfl
 have xf0_0:=hG.out.free 0 0 rfl
 have x0_1:=hG.out.cell 0 1 rfl rfl
 have xf0_1:=hG.out.free 0 1 rfl
 have x0_2:=hG.out.cell 0 2 rfl rfl
 have xf0_2:=hG.out.free 0 2 rfl
 have x1_0:=hG.out.cell 1 0 rfl rfl
 have xf1_0:=hG.out.free 1 0 rfl
 have x1_1:=hG.out.cell 1 1 rfl rfl
 have xf1_1:=hG.out.free 1 1 rfl
 have x1_2:=hG.out.cell 1 2 rfl rfl
 have xf1_2:=hG.out.free 1 2 rfl
 go_wp2
 refine ret_sy (hG.out|>.set (j:=0) (v:= .slice sa sn sc) 0 rfl|>.set (j:=1) (v:= .int .i64 a) 0 rfl|>.set (j:=2) (v:= .int .i64 b) 0 rfl) (v:= .tuple #[.agg #[.slice sa sn sc,.int .i64 a,.int .i64 b],.int .i64 11]) (fun hF=>?_) rfl (fun hF=>⟨rfl,hF.be⟩)
 exact mW8_1) : P_ := h
theorem mW8_2 {P_ : Prop} (h : P_ := by
 have g0_0:=hF.cell 0 0 rfl rfl
 have g0_1:=hF.cell 0 1 rfl rfl
 have g0_2:=hF.cell 0 2 rfl rfl
 simp [results,Tryz.results42,go_sem,g0_0,g0_1,g0_2]) : P_ := h
theorem hground_bad (sa:Option Addr) (sn sc:Nat) (l:List Pt) (x:Int) (hs:Sx 2 w sa sn sc (L2 l)) (hb:profB l=false):Calls Tryz.prog 42 #[.slice sa sn sc,.int .i64 x] w (RetRE w 0 2):=by
 have hC:=ζ ((Sy.enter w).al w.heap.size #[.slice none 0 0,.bool false,.slice none 0 0] 42 rfl)
 have HK:=ζ (fun W (hW:Below w.heap.size w W)=>hcheck_any W sa sn sc l (hs.below hW))
 rw [profErr_no hb]at HK
 clear hb hs
 go_enter Tryz.func42,Tryz.ntmps42
 go_wp2_with fail
 refine(HK.out _ hC.out.be).mono ?_
 rintro e w1 ⟨rfl,hb⟩
 have hD:=ζ (hC.out.call hb)
 clear hb hC
 have x0_0:=hD.out.cell 0 0 rfl rfl
 have xf0_0:=hD.out.free 0 0 rfl
 have x0_1:=hD.out.cell 0 1 rfl rfl
 have xf0_1:=hD.out.free 0 1 rfl
 have x0_2:=hD.out.cell 0 2 rfl rfl
 have xf0_2:=hD.out.free 0 2 rfl
 go_wp2
 have hZ:=ζ ((hD.out|>.set (j:=0) (v:= .slice none 0 0) 0 rfl|>.set (j:=1) (v:= .bool false) 0 rfl|>.set (j:=2) (v:= .slice none 0 0) 0 rfl).pR rfl rfl Rd.nil)
 clear hD
 refine ret_sy hZ.out (v:= .tuple #[.agg #[.slice none 0 0,.bool false,.slice none 0 0],.int .i64 2]) (fun hF=>?_) rfl (fun hF=>⟨_,_,_,_,_,_,_,rfl,hF.r 0 rfl,hF.be⟩)
 exact mW8_2
theorem hground_out (sa:Option Addr) (sn sc:Nat) (l:List Pt) (x:Int) (hs:Sx 2 w sa sn sc (L2 l)) (hb:profB l=true) (hx:hasB l x=false):Calls Tryz.prog 42 #[.slice sa sn sc,.int .i64 x] w (RetRE w 0 11):=by
 have hC:=ζ ((Sy.enter w).al w.heap.size #[.slice none 0 0,.bool false,.slice none 0 0] 42 rfl)
 have HK:=ζ (fun W (hW:Below w.heap.size w W)=>hcheck_any W sa sn sc l (hs.below hW))
 have HH:=ζ (fun W (hW:Below w.heap.size w W)=>has_any W sa sn sc l x (hs.below hW) (by have:=hs.n2;have:=(prof_iff.1 hb).two;omega))
 rw [profErr_yes hb]at HK
 rw [hx]at HH
 clear hb hs hx
 go_enter Tryz.func42,Tryz.ntmps42
 go_wp2_with fail
 refine(HK.out _ hC.out.be).mono ?_
 rintro e w1 ⟨rfl,hb⟩
 have hD:=ζ (hC.out.call hb)
 clear hb hC
 go_wp2_with fail
 refine(HH.out _ hD.out.be).mono ?_
 rintro e w2 ⟨rfl,hb⟩
 have hE:=ζ (hD.out.call hb)
 clear hb hD
 have x0_0:=hE.out.cell 0 0 rfl rfl
 have xf0_0:=hE.out.free 0 0 rfl
 have x0_1:=hE.out.cell 0 1 rfl rfl
 have xf0_1:=hE.out.free 0 1 rfl
 have x0_2:=hE.out.cell 0 2 rfl rfl
 have xf0_2:=hE.out.free 0 2 rfl
 go_wp2
 have hZ:=ζ ((hE.out|>.set (j:=0) (v:= .slice none 0 0) 0 rfl|>.set (j:=1) (v:= .bool false) 0 rfl|>.set (j:=2) (v:= .slice none 0 0) 0 rfl).pR rfl rfl Rd.nil)
 clear hE
 refine ret_sy hZ.out (v:= .tuple #[.agg #[.slice none 0 0,.bool false,.slice none 0 0],.int .i64 11]) (fun hF=>?_) rfl (fun hF=>⟨_,_,_,_,_,_,_,rfl,hF.r 0 rfl,hF.be⟩)
 exact mW8_2
theorem hground_ok (sa:Option Addr) (sn sc:Nat) (l:List Pt) (x:Int) (hs:Sx 2 w sa sn sc (L2 l)) (hb:profB l=true) (hx:hasB l x=true):Calls Tryz.prog 42 #[.slice sa sn sc,.int .i64 x] w (RetRE w (grd l x) 0):=by
 have hC:=ζ ((Sy.enter w).al w.heap.size #[.slice none 0 0,.bool false,.slice none 0 0] 42 rfl)
 have HK:=ζ (fun W (hW:Below w.heap.size w W)=>hcheck_any W sa sn sc l (hs.below hW))
 have HH:=ζ (fun W (hW:Below w.heap.size w W)=>has_any W sa sn sc l x (hs.below hW) (by have:=hs.n2;have:=(prof_iff.1 hb).two;omega))
 rw [profErr_yes hb]at HK
 have HG:=ζ (fun W (hW:Below w.heap.size w W)=>ground_any W sa sn sc l x (hs.below hW) (prof_iff.1 hb) (inB_iff.1 hx).1 (inB_iff.1 hx).2)
 rw [hx]at HH
 clear hb hs hx
 go_enter Tryz.func42,Tryz.ntmps42
 go_wp2_with fail
 refine(HK.out _ hC.out.be).mono ?_
 rintro e w1 ⟨rfl,hb⟩
 have hD:=ζ (hC.out.call hb)
 clear hb hC
 go_wp2_with fail
 refine(HH.out _ hD.out.be).mono ?_
 rintro e w2 ⟨rfl,hb⟩
 have hE:=ζ (hD.out.call hb)
 clear hb hD
 go_wp2_with fail
 refine(HG.out _ hE.out.be).mono ?_
 rintro e w3 ⟨a3,n3,c3,m3,d3,e3,f3,rfl,hz,hb⟩
 have hG:=ζ ((hE.out.call hb).pR rfl rfl hz)
 clear hb hE hz
 have x0_0:=hG.out.cell 0 0 rfl rfl
 have xf0_0:=hG.out.free 0 0 rfl
 have x0_1:=hG.out.cell 0 1 rfl rfl
 have xf0_1:=hG.out.free 0 1 rfl
 have x0_2:=hG.out.cell 0 2 rfl rfl
 have xf0_2:=hG.out.free 0 2 rfl
 go_wp2
 have hZ:=ζ (hG.out|>.set (j:=0) (v:= .slice a3 n3 c3) 0 rfl|>.set (j:=1) (v:= .bool m3) 0 rfl|>.set (j:=2) (v:= .slice d3 e3 f3) 0 rfl)
 clear hG
 refine ret_sy hZ.out (v:= .tuple #[.agg #[.slice a3 n3 c3,.bool m3,.slice d3 e3 f3],.int .i64 0]) (fun hF=>?_) rfl (fun hF=>⟨_,_,_,_,_,_,_,rfl,hF.r 0 rfl,hF.be⟩)
 exact mW8_2
theorem hstretched_any (sa:Option Addr) (sn sc:Nat) (l:List Pt) (a b:Int) (hs:Sx 2 w sa sn sc (L2 l)):Calls Tryz.prog 74 #[.slice sa sn sc,.int .i64 a,.int .i64 b] w (Gives (.tuple #[.agg #[.slice sa sn sc,.int .i64 a,.int .i64 b],.int .i64 (strErr l a b)]) w):=by
 have HK:=ζ (fun W (hW:Below w.heap.size w W)=>hcheck_any W sa sn sc l (hs.below hW))
 have hC:=ζ (((Sy.enter w).al w.heap.size #[.slice none 0 0,.int .i64 0,.int .i64 0] 120 rfl).al (w.heap.size+1) #[.slice sa sn sc,.int .i64 a,.int .i64 b] 120 (by simp))
 cases hb:profB l
 ·have HE:=ζ (strErr_bad (a:=a) (b:=b) hb)
  rw [profErr_no hb]at HK
  rw [HE.out]
  clear hb hs HE
  go_enter Tryz.func74,Tryz.ntmps74
  go_wp2_with fail
  refine(HK.out _ hC.out.be).mono ?_
  rintro e w1 ⟨rfl,hb⟩
  have hD:=ζ (hC.out.call hb)
  clear hb hC
  have x0_0:=hD.out.cell 0 0 rfl rfl
  have xf0_0:=hD.out.free 0 0 rfl
  have x0_1:=hD.out.cell 0 1 rfl rfl
  have xf0_1:=hD.out.free 0 1 rfl
  have x0_2:=hD.out.cell 0 2 rfl rfl
  have xf0_2:=hD.out.free 0 2 rfl
  have x1_0:=hD.out.cell 1 0 rfl rfl
  have xf1_0:=hD.out.free 1 0 rfl
  have x1_1:=hD.out.cell 1 1 rfl rfl
  have xf1_1:=hD.out.free 1 1 rfl
  have x1_2:=hD.out.cell 1 2 rfl rfl
  have xf1_2:=hD.out.free 1 2 rfl
  go_wp2
  refine ret_sy (hD.out|>.set (j:=0) (v:= .slice sa sn sc) 0 rfl|>.set (j:=1) (v:= .int .i64 a) 0 rfl|>.set (j:=2) (v:= .int .i64 b) 0 rfl) (v:= .tuple #[.agg #[.slice sa sn sc,.int .i64 a,.int .i64 b],.int .i64 2]) (fun hF=>?_) rfl (fun hF=>⟨rfl,hF.be⟩)
  exact mW8_1
 ·have h0:0 < sn:=by have:=hs.n2;have:=(prof_iff.1 hb).two;omega
  have HA:=ζ (fun W (hW:Below w.heap.size w W)=>has_any W sa sn sc l a (hs.below hW) h0)
  have HB:=ζ (fun W (hW:Below w.heap.size w W)=>has_any W sa sn sc l b (hs.below hW) h0)
  have HY:=ζ (strErr_ok (a:=a) (b:=b) hb)
  have HN:=ζ (strErr_no (a:=a) (b:=b) hb)
  rw [profErr_yes hb]at HK
  have HS:=ζ (show strB l a b=(hasB l a && hasB l b && decide (a < b))from rfl)
  clear hb hs h0
  generalize strErr l a b=er at*
  generalize strB l a b=sb at*
  cases h1:hasB l a
  ·rw [h1]at HA HS
   have HE:=ζ (HN.out (by rw [HS.out];rfl))
   rw [HE.out]
   clear h1 HE HY HN HS HB
   go_enter Tryz.func74,Tryz.ntmps74
   go_wp2_with fail
   refine(HK.out _ hC.out.be).mono ?_
   rintro e w1 ⟨rfl,hb⟩
   have hD:=ζ (hC.out.call hb)
   clear hb hC
   have y1_0:=hD.out.cell 1 0 rfl rfl
   go_wp2_with fail
   refine(HA.out _ hD.out.be).mono ?_
   rintro e w2 ⟨rfl,hb⟩
   have hE:=ζ (hD.out.call hb)
   clear hb hD y1_0
   have x0_0:=hE.out.cell 0 0 rfl rfl
   have xf0_0:=hE.out.free 0 0 rfl
   have x0_1:=hE.out.cell 0 1 rfl rfl
   have xf0_1:=hE.out.free 0 1 rfl
   have x0_2:=hE.out.cell 0 2 rfl rfl
   have xf0_2:=hE.out.free 0 2 rfl
   have x1_0:=hE.out.cell 1 0 rfl rfl
   have xf1_0:=hE.out.free 1 0 rfl
   have x1_1:=hE.out.cell 1 1 rfl rfl
   have xf1_1:=hE.out.free 1 1 rfl
   have x1_2:=hE.out.cell 1 2 rfl rfl
   have xf1_2:=hE.out.free 1 2 rfl
   go_wp2
   refine ret_sy (hE.out|>.set (j:=0) (v:= .slice sa sn sc) 0 rfl|>.set (j:=1) (v:= .int .i64 a) 0 rfl|>.set (j:=2) (v:= .int .i64 b) 0 rfl) (v:= .tuple #[.agg #[.slice sa sn sc,.int .i64 a,.int .i64 b],.int .i64 11]) (fun hF=>?_) rfl (fun hF=>⟨rfl,hF.be⟩)
   exact mW8_1
  ·rw [h1]at HA HS
   cases h2:hasB l b
   ·rw [h2]at HB HS
    have HE:=ζ (HN.out (by rw [HS.out];rfl))
    exact mW8_0
   ·rw [h2]at HB HS
    by_cases h3:a < b
    ·have HE:=ζ (HY.out (by rw [HS.out,decide_eq_true h3];rfl))
     rw [HE.out]
     clear h1 h2 HE HY HN HS
     go_enter Tryz.func74,Tryz.ntmps74
     go_wp2_with fail
     refine(HK.out _ hC.out.be).mono ?_
     rintro e w1 ⟨rfl,hb⟩
     have hD:=ζ (hC.out.call hb)
     clear hb hC
     have y1_0:=hD.out.cell 1 0 rfl rfl
     go_wp2_with fail
     refine(HA.out _ hD.out.be).mono ?_
     rintro e w2 ⟨rfl,hb⟩
     have hE:=ζ (hD.out.call hb)
     clear hb hD y1_0
     have y1_0:=hE.out.cell 1 0 rfl rfl
     go_wp2_with fail
     refine(HB.out _ hE.out.be).mono ?_
     rintro e w3 ⟨rfl,hb⟩
     have hG:=ζ (hE.out.call hb)
     clear hb hE y1_0
     have x0_0:=hG.out.cell 0 0 rfl rfl
     have xf0_0:=hG.out.free 0 0 rfl
     have x0_1:=hG.out.cell 0 1 rfl rfl
     have xf0_1:=hG.out.free 0 1 rfl
     have x0_2:=hG.out.cell 0 2 rfl rfl
     have xf0_2:=hG.out.free 0 2 rfl
     have x1_0:=hG.out.cell 1 0 rfl rfl
     have xf1_0:=hG.out.free 1 0 rfl
     have x1_1:=hG.out.cell 1 1 rfl rfl
     have xf1_1:=hG.out.free 1 1 rfl
     have x1_2:=hG.out.cell 1 2 rfl rfl
     have xf1_2:=hG.out.free 1 2 rfl
     go_wp2
     refine ret_sy (hG.out|>.set (j:=0) (v:= .slice sa sn sc) 0 rfl|>.set (j:=1) (v:= .int .i64 a) 0 rfl|>.set (j:=2) (v:= .int .i64 b) 0 rfl) (v:= .tuple #[.agg #[.slice sa sn sc,.int .i64 a,.int .i64 b],.int .i64 0]) (fun hF=>?_) rfl (fun hF=>⟨rfl,hF.be⟩)
     exact mW8_1
    ·have HE:=ζ (HN.out (by rw [HS.out,decide_eq_false h3];rfl))
     exact mW8_0
end
end Go.Proofs.YthmdhlopeponcaaGreatDoor

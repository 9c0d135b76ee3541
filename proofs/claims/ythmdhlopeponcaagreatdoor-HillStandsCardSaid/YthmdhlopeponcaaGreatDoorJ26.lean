/- Ground, Bounds, Areas, Pool: with their errors -/
/- Bounds, Areas, Pool -/
/- below grows with the level; the level of a pool -/
/- the level of a pool -/
import Derived.Test.YthmdhlopeponcaaGreatDoorJ25
import Derived.Test.YthmdhlopeponcaaGreatDoorJ0
namespace Go.Proofs.YthmdhlopeponcaaGreatDoor
open Go.RowKit Go.Shelf Dig
def strB (l:List Pt) (a b:Int):Bool:=hasB l a && hasB l b && decide (a < b)
def strErr (l:List Pt) (a b:Int):Int:=if profB l=true then(if strB l a b=true then 0 else 11)else 2
theorem strErr_bad {l:List Pt} {a b:Int} (h:profB l=false):strErr l a b=2:=by unfold strErr;rw [h];rfl
theorem strErr_no {l:List Pt} {a b:Int} (h:profB l=true) (h2:strB l a b=false):strErr l a b=11:=by unfold strErr;rw [if_pos h,h2];rfl
theorem strErr_ok {l:List Pt} {a b:Int} (h:profB l=true) (h2:strB l a b=true):strErr l a b=0:=by unfold strErr;rw [if_pos h,if_pos h2]
theorem strErr_zero {l:List Pt} {a b:Int} (h:strErr l a b=0):Strt l a b:=by
 unfold strErr at h
 split at h
 ·rename_i h1
  split at h
  ·rename_i h2
   unfold strB at h2
   simp only [Bool.and_eq_true,decide_eq_true_eq]at h2
   exact⟨prof_iff.1 h1,(inB_iff.1 h2.1.1).1,h2.2,(inB_iff.1 h2.1.2).2⟩
  ·cases h
 ·cases h
def RetRRE (w:World) (p q:Rat) (k:Int) (e:Ending) (w':World):Prop:=∃ (a5:Option Addr) (n5 c5:Nat) (m5:Bool) (d5:Option Addr) (e5 f5:Nat) (a6:Option Addr) (n6 c6:Nat) (m6:Bool) (d6:Option Addr) (e6 f6:Nat),e= .returned (.tuple #[.agg #[.slice a5 n5 c5,.bool m5,.slice d5 e5 f5],.agg #[.slice a6 n6 c6,.bool m6,.slice d6 e6 f6],.int .i64 k])∧Rd w' (.slice a5 n5 c5) m5 (.slice d5 e5 f5) (p)∧Rd w' (.slice a6 n6 c6) m6 (.slice d6 e6 f6) (q)∧Below w.heap.size w w'
section
variable (w:World)
set_option maxHeartbeats 8000000 in
set_option maxRecDepth 100000 in
theorem hground_ok (sa:Option Addr) (sn sc:Nat) (l:List Pt) (x:Int) (hs:Sx 2 w sa sn sc (L2 l)) (hb:profB l=true) (hx:hasB l x=true):Calls Tryz.prog 42 #[.slice sa sn sc,.int .i64 x] w (RetRE w (grd l x) 0):=by
 have hC:=Lib.hid ((Sy.enter w).al w.heap.size #[.slice none 0 0,.bool false,.slice none 0 0] 42 rfl)
 have HK:=Lib.hid (fun W (hW:Below w.heap.size w W)=>hcheck_any W sa sn sc l (hs.below hW))
 have HH:=Lib.hid (fun W (hW:Below w.heap.size w W)=>has_any W sa sn sc l x (hs.below hW) (by have:=hs.n2;have:=(prof_iff.1 hb).two;omega))
 rw [profErr_yes hb]at HK
 have HG:=Lib.hid (fun W (hW:Below w.heap.size w W)=>ground_any W sa sn sc l x (hs.below hW) (prof_iff.1 hb) (inB_iff.1 hx).1 (inB_iff.1 hx).2)
 rw [hx]at HH
 clear hb hs hx
 go_enter Tryz.func42,Tryz.ntmps42
 go_wp2_with fail
 refine(HK.out _ hC.out.be).mono ?_
 rintro e w1 ⟨rfl,hb⟩
 have hD:=Lib.hid (hC.out.call hb)
 clear hb hC
 go_wp2_with fail
 refine(HH.out _ hD.out.be).mono ?_
 rintro e w2 ⟨rfl,hb⟩
 have hE:=Lib.hid (hD.out.call hb)
 clear hb hD
 go_wp2_with fail
 refine(HG.out _ hE.out.be).mono ?_
 rintro e w3 ⟨a3,n3,c3,m3,d3,e3,f3,rfl,hz,hb⟩
 have hG:=Lib.hid ((hE.out.call hb).pR rfl rfl hz)
 clear hb hE hz
 have x0_0:=hG.out.cell 0 0 rfl rfl
 have xf0_0:=hG.out.free 0 0 rfl
 have x0_1:=hG.out.cell 0 1 rfl rfl
 have xf0_1:=hG.out.free 0 1 rfl
 have x0_2:=hG.out.cell 0 2 rfl rfl
 have xf0_2:=hG.out.free 0 2 rfl
 go_wp2
 have hZ:=Lib.hid (hG.out|>.set (j:=0) (v:= .slice a3 n3 c3) 0 rfl|>.set (j:=1) (v:= .bool m3) 0 rfl|>.set (j:=2) (v:= .slice d3 e3 f3) 0 rfl)
 clear hG
 refine ret_sy hZ.out (v:= .tuple #[.agg #[.slice a3 n3 c3,.bool m3,.slice d3 e3 f3],.int .i64 0]) (fun hF=>?_) rfl (fun hF=>⟨_,_,_,_,_,_,_,rfl,hF.r 0 rfl,hF.be⟩)
 have g0_0:=hF.cell 0 0 rfl rfl
 have g0_1:=hF.cell 0 1 rfl rfl
 have g0_2:=hF.cell 0 2 rfl rfl
 simp [results,Tryz.results42,go_sem,g0_0,g0_1,g0_2]
set_option maxHeartbeats 8000000 in
set_option maxRecDepth 100000 in
theorem hstretched_any (sa:Option Addr) (sn sc:Nat) (l:List Pt) (a b:Int) (hs:Sx 2 w sa sn sc (L2 l)):Calls Tryz.prog 74 #[.slice sa sn sc,.int .i64 a,.int .i64 b] w (Gives (.tuple #[.agg #[.slice sa sn sc,.int .i64 a,.int .i64 b],.int .i64 (strErr l a b)]) w):=by
 have HK:=Lib.hid (fun W (hW:Below w.heap.size w W)=>hcheck_any W sa sn sc l (hs.below hW))
 have hC:=Lib.hid (((Sy.enter w).al w.heap.size #[.slice none 0 0,.int .i64 0,.int .i64 0] 120 rfl).al (w.heap.size+1) #[.slice sa sn sc,.int .i64 a,.int .i64 b] 120 (by simp))
 cases hb:profB l
 ·have HE:=Lib.hid (strErr_bad (a:=a) (b:=b) hb)
  rw [profErr_no hb]at HK
  rw [HE.out]
  clear hb hs HE
  go_enter Tryz.func74,Tryz.ntmps74
  go_wp2_with fail
  refine(HK.out _ hC.out.be).mono ?_
  rintro e w1 ⟨rfl,hb⟩
  have hD:=Lib.hid (hC.out.call hb)
  clear hb hC
  have x0_0:=hD.out.cell 0 0 rfl rfl
  have xf0_0:=hD.out.free 0 0 rfl
  have x0_1:=hD.out.cell 0 1 rfl rfl
  have xf0_1:=hD.out.free 0 1 rfl
  have x0_2:=hD.out.cell 0 2 rfl rfl
  have xf0_2:=hD.out.free 0 2 rfl
  have x1_0:=hD.out.cell 1 0 rfl rfl
  have xf1_0:=hD.out.free 1 0 rfl
  have x1_1:=hD.out.cell 1 1 rfl rfl
  have xf1_1:=hD.out.free 1 1 rfl
  have x1_2:=hD.out.cell 1 2 rfl rfl
  have xf1_2:=hD.out.free 1 2 rfl
  go_wp2
  refine ret_sy (hD.out|>.set (j:=0) (v:= .slice sa sn sc) 0 rfl|>.set (j:=1) (v:= .int .i64 a) 0 rfl|>.set (j:=2) (v:= .int .i64 b) 0 rfl) (v:= .tuple #[.agg #[.slice sa sn sc,.int .i64 a,.int .i64 b],.int .i64 2]) (fun hF=>?_) rfl (fun hF=>⟨rfl,hF.be⟩)
  have g0:=hF.cell 0 0 rfl rfl
  have g1:=hF.cell 0 1 rfl rfl
  have g2:=hF.cell 0 2 rfl rfl
  simp [results,Tryz.results74,go_sem,g0,g1,g2]
 ·have h0:0 < sn:=by have:=hs.n2;have:=(prof_iff.1 hb).two;omega
  have HA:=Lib.hid (fun W (hW:Below w.heap.size w W)=>has_any W sa sn sc l a (hs.below hW) h0)
  have HB:=Lib.hid (fun W (hW:Below w.heap.size w W)=>has_any W sa sn sc l b (hs.below hW) h0)
  have HY:=Lib.hid (strErr_ok (a:=a) (b:=b) hb)
  have HN:=Lib.hid (strErr_no (a:=a) (b:=b) hb)
  rw [profErr_yes hb]at HK
  have HS:=Lib.hid (show strB l a b=(hasB l a && hasB l b && decide (a < b))from rfl)
  clear hb hs h0
  generalize strErr l a b=er at*
  generalize strB l a b=sb at*
  cases h1:hasB l a
  ·rw [h1]at HA HS
   have HE:=Lib.hid (HN.out (by rw [HS.out];rfl))
   rw [HE.out]
   clear h1 HE HY HN HS HB
   go_enter Tryz.func74,Tryz.ntmps74
   go_wp2_with fail
   refine(HK.out _ hC.out.be).mono ?_
   rintro e w1 ⟨rfl,hb⟩
   have hD:=Lib.hid (hC.out.call hb)
   clear hb hC
   have y1_0:=hD.out.cell 1 0 rfl rfl
   go_wp2_with fail
   refine(HA.out _ hD.out.be).mono ?_
   rintro e w2 ⟨rfl,hb⟩
   have hE:=Lib.hid (hD.out.call hb)
   clear hb hD y1_0
   have x0_0:=hE.out.cell 0 0 rfl rfl
   have xf0_0:=hE.out.free 0 0 rfl
   have x0_1:=hE.out.cell 0 1 rfl rfl
   have xf0_1:=hE.out.free 0 1 rfl
   have x0_2:=hE.out.cell 0 2 rfl rfl
   have xf0_2:=hE.out.free 0 2 rfl
   have x1_0:=hE.out.cell 1 0 rfl rfl
   have xf1_0:=hE.out.free 1 0 rfl
   have x1_1:=hE.out.cell 1 1 rfl rfl
   have xf1_1:=hE.out.free 1 1 rfl
   have x1_2:=hE.out.cell 1 2 rfl rfl
   have xf1_2:=hE.out.free 1 2 rfl
   go_wp2
   refine ret_sy (hE.out|>.set (j:=0) (v:= .slice sa sn sc) 0 rfl|>.set (j:=1) (v:= .int .i64 a) 0 rfl|>.set (j:=2) (v:= .int .i64 b) 0 rfl) (v:= .tuple #[.agg #[.slice sa sn sc,.int .i64 a,.int .i64 b],.int .i64 11]) (fun hF=>?_) rfl (fun hF=>⟨rfl,hF.be⟩)
   have g0:=hF.cell 0 0 rfl rfl
   have g1:=hF.cell 0 1 rfl rfl
   have g2:=hF.cell 0 2 rfl rfl
   simp [results,Tryz.results74,go_sem,g0,g1,g2]
  ·rw [h1]at HA HS
   cases h2:hasB l b
   ·rw [h2]at HB HS
    have HE:=Lib.hid (HN.out (by rw [HS.out];rfl))
    rw [HE.out]
    clear h1 h2 HE HY HN HS
    go_enter Tryz.func74,Tryz.ntmps74
    go_wp2_with fail
    refine(HK.out _ hC.out.be).mono ?_
    rintro e w1 ⟨rfl,hb⟩
    have hD:=Lib.hid (hC.out.call hb)
    clear hb hC
    have y1_0:=hD.out.cell 1 0 rfl rfl
    go_wp2_with fail
    refine(HA.out _ hD.out.be).mono ?_
    rintro e w2 ⟨rfl,hb⟩
    have hE:=Lib.hid (hD.out.call hb)
    clear hb hD y1_0
    have y1_0:=hE.out.cell 1 0 rfl rfl
    go_wp2_with fail
    refine(HB.out _ hE.out.be).mono ?_
    rintro e w3 ⟨rfl,hb⟩
    have hG:=Lib.hid (hE.out.call hb)
    clear hb hE y1_0
    have x0_0:=hG.out.cell 0 0 rfl rfl
    have xf0_0:=hG.out.free 0 0 rfl
    have x0_1:=hG.out.cell 0 1 rfl rfl
    have xf0_1:=hG.out.free 0 1 rfl
    have x0_2:=hG.out.cell 0 2 rfl rfl
    have xf0_2:=hG.out.free 0 2 rfl
    have x1_0:=hG.out.cell 1 0 rfl rfl
    have xf1_0:=hG.out.free 1 0 rfl
    have x1_1:=hG.out.cell 1 1 rfl rfl
    have xf1_1:=hG.out.free 1 1 rfl
    have x1_2:=hG.out.cell 1 2 rfl rfl
    have xf1_2:=hG.out.free 1 2 rfl
    go_wp2
    refine ret_sy (hG.out|>.set (j:=0) (v:= .slice sa sn sc) 0 rfl|>.set (j:=1) (v:= .int .i64 a) 0 rfl|>.set (j:=2) (v:= .int .i64 b) 0 rfl) (v:= .tuple #[.agg #[.slice sa sn sc,.int .i64 a,.int .i64 b],.int .i64 11]) (fun hF=>?_) rfl (fun hF=>⟨rfl,hF.be⟩)
    have g0:=hF.cell 0 0 rfl rfl
    have g1:=hF.cell 0 1 rfl rfl
    have g2:=hF.cell 0 2 rfl rfl
    simp [results,Tryz.results74,go_sem,g0,g1,g2]
   ·rw [h2]at HB HS
    by_cases h3:a < b
    ·have HE:=Lib.hid (HY.out (by rw [HS.out,decide_eq_true h3];rfl))
     rw [HE.out]
     clear h1 h2 HE HY HN HS
     go_enter Tryz.func74,Tryz.ntmps74
     go_wp2_with fail
     refine(HK.out _ hC.out.be).mono ?_
     rintro e w1 ⟨rfl,hb⟩
     have hD:=Lib.hid (hC.out.call hb)
     clear hb hC
     have y1_0:=hD.out.cell 1 0 rfl rfl
     go_wp2_with fail
     refine(HA.out _ hD.out.be).mono ?_
     rintro e w2 ⟨rfl,hb⟩
     have hE:=Lib.hid (hD.out.call hb)
     clear hb hD y1_0
     have y1_0:=hE.out.cell 1 0 rfl rfl
     go_wp2_with fail
     refine(HB.out _ hE.out.be).mono ?_
     rintro e w3 ⟨rfl,hb⟩
     have hG:=Lib.hid (hE.out.call hb)
     clear hb hE y1_0
     have x0_0:=hG.out.cell 0 0 rfl rfl
     have xf0_0:=hG.out.free 0 0 rfl
     have x0_1:=hG.out.cell 0 1 rfl rfl
     have xf0_1:=hG.out.free 0 1 rfl
     have x0_2:=hG.out.cell 0 2 rfl rfl
     have xf0_2:=hG.out.free 0 2 rfl
     have x1_0:=hG.out.cell 1 0 rfl rfl
     have xf1_0:=hG.out.free 1 0 rfl
     have x1_1:=hG.out.cell 1 1 rfl rfl
     have xf1_1:=hG.out.free 1 1 rfl
     have x1_2:=hG.out.cell 1 2 rfl rfl
     have xf1_2:=hG.out.free 1 2 rfl
     go_wp2
     refine ret_sy (hG.out|>.set (j:=0) (v:= .slice sa sn sc) 0 rfl|>.set (j:=1) (v:= .int .i64 a) 0 rfl|>.set (j:=2) (v:= .int .i64 b) 0 rfl) (v:= .tuple #[.agg #[.slice sa sn sc,.int .i64 a,.int .i64 b],.int .i64 0]) (fun hF=>?_) rfl (fun hF=>⟨rfl,hF.be⟩)
     have g0:=hF.cell 0 0 rfl rfl
     have g1:=hF.cell 0 1 rfl rfl
     have g2:=hF.cell 0 2 rfl rfl
     simp [results,Tryz.results74,go_sem,g0,g1,g2]
    ·have HE:=Lib.hid (HN.out (by rw [HS.out,decide_eq_false h3];rfl))
     rw [HE.out]
     clear h1 h2 HE HY HN HS
     go_enter Tryz.func74,Tryz.ntmps74
     go_wp2_with fail
     refine(HK.out _ hC.out.be).mono ?_
     rintro e w1 ⟨rfl,hb⟩
     have hD:=Lib.hid (hC.out.call hb)
     clear hb hC
     have y1_0:=hD.out.cell 1 0 rfl rfl
     go_wp2_with fail
     refine(HA.out _ hD.out.be).mono ?_
     rintro e w2 ⟨rfl,hb⟩
     have hE:=Lib.hid (hD.out.call hb)
     clear hb hD y1_0
     have y1_0:=hE.out.cell 1 0 rfl rfl
     go_wp2_with fail
     refine(HB.out _ hE.out.be).mono ?_
     rintro e w3 ⟨rfl,hb⟩
     have hG:=Lib.hid (hE.out.call hb)
     clear hb hE y1_0
     have x0_0:=hG.out.cell 0 0 rfl rfl
     have xf0_0:=hG.out.free 0 0 rfl
     have x0_1:=hG.out.cell 0 1 rfl rfl
     have xf0_1:=hG.out.free 0 1 rfl
     have x0_2:=hG.out.cell 0 2 rfl rfl
     have xf0_2:=hG.out.free 0 2 rfl
     have x1_0:=hG.out.cell 1 0 rfl rfl
     have xf1_0:=hG.out.free 1 0 rfl
     have x1_1:=hG.out.cell 1 1 rfl rfl
     have xf1_1:=hG.out.free 1 1 rfl
     have x1_2:=hG.out.cell 1 2 rfl rfl
     have xf1_2:=hG.out.free 1 2 rfl
     go_wp2
     refine ret_sy (hG.out|>.set (j:=0) (v:= .slice sa sn sc) 0 rfl|>.set (j:=1) (v:= .int .i64 a) 0 rfl|>.set (j:=2) (v:= .int .i64 b) 0 rfl) (v:= .tuple #[.agg #[.slice sa sn sc,.int .i64 a,.int .i64 b],.int .i64 11]) (fun hF=>?_) rfl (fun hF=>⟨rfl,hF.be⟩)
     have g0:=hF.cell 0 0 rfl rfl
     have g1:=hF.cell 0 1 rfl rfl
     have g2:=hF.cell 0 2 rfl rfl
     simp [results,Tryz.results74,go_sem,g0,g1,g2]
end
end Go.Proofs.YthmdhlopeponcaaGreatDoor
namespace Go.Proofs.YthmdhlopeponcaaGreatDoor
open Go.RowKit Go.Shelf Dig
section
variable (w:World)
set_option maxHeartbeats 8000000 in
set_option maxRecDepth 100000 in
theorem hBounds_ok (sa:Option Addr) (sn sc:Nat) (l:List Pt) (a b:Int) (hs:Sx 2 w sa sn sc (L2 l)) (he:strErr l a b=0):Calls Tryz.prog 51 #[.slice sa sn sc,.int .i64 a,.int .i64 b] w (RetRRE w (loQ l a b) (hiQ l a b) 0):=by
 have HK:=Lib.hid (fun W (hW:Below w.heap.size w W)=>hstretched_any W sa sn sc l a b (hs.below hW))
 rw [he]at HK
 have HB:=Lib.hid (fun W (hW:Below w.heap.size w W)=>callsIn_wide.1 (hbounds_in W 4 (Nat.le_refl _) sa sn sc l a b (strErr_zero he) (hs.below hW)))
 have hC:=Lib.hid (((Sy.enter w).al w.heap.size #[.slice none 0 0,.bool false,.slice none 0 0] 42 rfl).al (w.heap.size+1) #[.slice none 0 0,.bool false,.slice none 0 0] 42 (by simp))
 clear he hs
 generalize loQ l a b=lo at*
 generalize hiQ l a b=hi at*
 go_enter Tryz.func51,Tryz.ntmps51
 go_wp2_with fail
 refine(HK.out _ hC.out.be).mono ?_
 rintro e w1 ⟨rfl,hb⟩
 have hD:=Lib.hid (hC.out.call hb)
 clear hb hC
 have hE:=Lib.hid (hD.out.al w1.heap.size #[.slice sa sn sc,.int .i64 a,.int .i64 b] 120 rfl)
 go_upto_region 4 with fail
 refine wp_geny hE.out ?_
 intro V1 hc
 obtain ⟨b2,hb2⟩:∃b2,w1.heap.size=b2:=⟨_,rfl⟩
 rw [hb2]at hc⊢
 have hG:Hid (Sy w V1 [(w.heap.size,#[.slice none 0 0,.bool false,.slice none 0 0],42),((w.heap.size+1),#[.slice none 0 0,.bool false,.slice none 0 0],42),(b2,#[.slice sa sn sc,.int .i64 a,.int .i64 b],120)] [] []):=Lib.hid hc
 clear hc hD hE hb2
 have x2_0:=hG.out.cell 2 0 rfl rfl
 have xf2_0:=hG.out.free 2 0 rfl
 have x2_1:=hG.out.cell 2 1 rfl rfl
 have xf2_1:=hG.out.free 2 1 rfl
 have x2_2:=hG.out.cell 2 2 rfl rfl
 have xf2_2:=hG.out.free 2 2 rfl
 go_wp2_with fail
 refine(HB.out _ hG.out.be).mono ?_
 rintro e w2 ⟨a5,n5,c5,m5,d5,e5,f5,a6,n6,c6,m6,d6,e6,f6,rfl,hz1,hz2,hb⟩
 have hI:=Lib.hid (((hG.out.call hb).pR rfl rfl hz1).pR rfl rfl hz2)
 clear hb hG hz1 hz2 x2_0 xf2_0 x2_1 xf2_1 x2_2 xf2_2
 have x0_0:=hI.out.cell 0 0 rfl rfl
 have xf0_0:=hI.out.free 0 0 rfl
 have x0_1:=hI.out.cell 0 1 rfl rfl
 have xf0_1:=hI.out.free 0 1 rfl
 have x0_2:=hI.out.cell 0 2 rfl rfl
 have xf0_2:=hI.out.free 0 2 rfl
 have x1_0:=hI.out.cell 1 0 rfl rfl
 have xf1_0:=hI.out.free 1 0 rfl
 have x1_1:=hI.out.cell 1 1 rfl rfl
 have xf1_1:=hI.out.free 1 1 rfl
 have x1_2:=hI.out.cell 1 2 rfl rfl
 have xf1_2:=hI.out.free 1 2 rfl
 go_upto_region 5 with fail
 have hJ:=Lib.hid (hI.out|>.set (j:=0) (v:= .slice a5 n5 c5) 0 rfl|>.set (j:=1) (v:= .bool m5) 0 rfl|>.set (j:=2) (v:= .slice d5 e5 f5) 0 rfl|>.set (j:=0) (v:= .slice a6 n6 c6) 1 rfl|>.set (j:=1) (v:= .bool m6) 1 rfl|>.set (j:=2) (v:= .slice d6 e6 f6) 1 rfl)
 refine wp_geny hJ.out ?_
 intro V2 hc
 obtain ⟨b1,hb1⟩:∃b1,w.heap.size+1=b1:=⟨_,rfl⟩
 obtain ⟨b0,hb0⟩:∃b0,w.heap.size=b0:=⟨_,rfl⟩
 have hS:Hid (Sy w V2 [(b0,#[.slice a5 n5 c5,.bool m5,.slice d5 e5 f5],42),(b1,#[.slice a6 n6 c6,.bool m6,.slice d6 e6 f6],42),(b2,#[.slice sa sn sc,.int .i64 a,.int .i64 b],120)] [] [(fun V=>Rd V (.slice a5 n5 c5) m5 (.slice d5 e5 f5) (lo)),(fun V=>Rd V (.slice a6 n6 c6) m6 (.slice d6 e6 f6) (hi))]):=Lib.hid (by rw [←hb1,←hb0];exact hc)
 rw [hb1,hb0]
 clear hc hJ hI hb1 hb0 x0_0 xf0_0 x0_1 xf0_1 x0_2 xf0_2 x1_0 xf1_0 x1_1 xf1_1 x1_2 xf1_2
 refine wp_region_held_drew (S:=(fun w'=>w'.cell? ⟨b0,0,none⟩=some (.slice a5 n5 c5)∧w'.cell? ⟨b0,1,none⟩=some (.bool m5)∧w'.cell? ⟨b0,2,none⟩=some (.slice d5 e5 f5)∧w'.cell? ⟨b1,0,none⟩=some (.slice a6 n6 c6)∧w'.cell? ⟨b1,1,none⟩=some (.bool m6)∧w'.cell? ⟨b1,2,none⟩=some (.slice d6 e6 f6)∧True)) (by kernel_rfl) ⟨hS.out.drew.cell 0 0 rfl rfl,hS.out.drew.cell 0 1 rfl rfl,hS.out.drew.cell 0 2 rfl rfl,hS.out.drew.cell 1 0 rfl rfl,hS.out.drew.cell 1 1 rfl rfl,hS.out.drew.cell 1 2 rfl rfl,trivial⟩ (fun hH=>?_)
 refine wpAnyH_geny (show Sy w _ [(b0,#[.slice a5 n5 c5,.bool m5,.slice d5 e5 f5],42),(b1,#[.slice a6 n6 c6,.bool m6,.slice d6 e6 f6],42),(b2,#[.slice sa sn sc,.int .i64 a,.int .i64 b],120)] [] [(fun V=>Rd V (.slice a5 n5 c5) m5 (.slice d5 e5 f5) (lo)),(fun V=>Rd V (.slice a6 n6 c6) m6 (.slice d6 e6 f6) (hi))]from hS.out.drew) hH ?_
 intro VZ_0 hc hHZ_0
 have hVZ_0:=Lib.hid hc
 clear hc hH hS
 refine tkL 0 ?_ rfl hHZ_0 ?_ ?_;rotate_left
 ·intro wS hSw;(try dsimp only at hSw);go_simp;try with_reducible rfl
 try simp only [Act.put,zI,z0,zS]
 refine tkL 1 ?_ rfl hHZ_0 ?_ ?_;rotate_left
 ·intro wS hSw;(try dsimp only at hSw);go_simp;try with_reducible rfl
 try simp only [Act.put,zI,z0,zS]
 refine rdy1 2 rfl (fun Kq hKq=>?_)
 have cQ0:=hVZ_0.out.cell 0 0 rfl rfl
 have fQ0:=hVZ_0.out.free 0 0 rfl
 have cQ1:=hVZ_0.out.cell 0 1 rfl rfl
 have fQ1:=hVZ_0.out.free 0 1 rfl
 have cQ2:=hVZ_0.out.cell 0 2 rfl rfl
 have fQ2:=hVZ_0.out.free 0 2 rfl
 go_simp
 refine stepY hKq (show Sy w _ [(b0,#[.slice a5 n5 c5,.bool m5,.slice d5 e5 f5],42),(b1,#[.slice a6 n6 c6,.bool m6,.slice d6 e6 f6],42),(b2,#[.slice sa sn sc,.int .i64 a,.int .i64 b],120)] [] [(fun V=>Rd V (.slice a5 n5 c5) m5 (.slice d5 e5 f5) (lo)),(fun V=>Rd V (.slice a6 n6 c6) m6 (.slice d6 e6 f6) (hi))]from(hVZ_0.out|>.set (j:=0) (v:= .slice a5 n5 c5) 0 rfl|>.set (j:=1) (v:= .bool m5) 0 rfl|>.set (j:=2) (v:= .slice d5 e5 f5) 0 rfl)) (fun _ hX=>⟨hX.cell 0 0 rfl rfl,hX.cell 0 1 rfl rfl,hX.cell 0 2 rfl rfl,hX.cell 1 0 rfl rfl,hX.cell 1 1 rfl rfl,hX.cell 1 2 rfl rfl,trivial⟩) ?_
 intro VZ_1 hc hHZ_1
 have hVZ_1:=Lib.hid hc
 clear hc hKq Kq hVZ_0 cQ0 fQ0 cQ1 fQ1 cQ2 fQ2 hHZ_0
 try simp only [Act.put]
 refine rdy1 3 rfl (fun Kq hKq=>?_)
 have cQ0:=hVZ_1.out.cell 1 0 rfl rfl
 have fQ0:=hVZ_1.out.free 1 0 rfl
 have cQ1:=hVZ_1.out.cell 1 1 rfl rfl
 have fQ1:=hVZ_1.out.free 1 1 rfl
 have cQ2:=hVZ_1.out.cell 1 2 rfl rfl
 have fQ2:=hVZ_1.out.free 1 2 rfl
 go_simp
 refine stepY hKq (show Sy w _ [(b0,#[.slice a5 n5 c5,.bool m5,.slice d5 e5 f5],42),(b1,#[.slice a6 n6 c6,.bool m6,.slice d6 e6 f6],42),(b2,#[.slice sa sn sc,.int .i64 a,.int .i64 b],120)] [] [(fun V=>Rd V (.slice a5 n5 c5) m5 (.slice d5 e5 f5) (lo)),(fun V=>Rd V (.slice a6 n6 c6) m6 (.slice d6 e6 f6) (hi))]from(hVZ_1.out|>.set (j:=0) (v:= .slice a6 n6 c6) 1 rfl|>.set (j:=1) (v:= .bool m6) 1 rfl|>.set (j:=2) (v:= .slice d6 e6 f6) 1 rfl)) (fun _ hX=>⟨hX.cell 0 0 rfl rfl,hX.cell 0 1 rfl rfl,hX.cell 0 2 rfl rfl,hX.cell 1 0 rfl rfl,hX.cell 1 1 rfl rfl,hX.cell 1 2 rfl rfl,trivial⟩) ?_
 intro VZ_2 hc hHZ_2
 have hVZ_2:=Lib.hid hc
 clear hc hKq Kq hVZ_1 cQ0 fQ0 cQ1 fQ1 cQ2 fQ2 hHZ_1
 try simp only [Act.put]
 refine rdy1 4 rfl (fun Kq hKq=>?_)
 go_simp
 refine stepY hKq (show Sy w _ [(b0,#[.slice a5 n5 c5,.bool m5,.slice d5 e5 f5],42),(b1,#[.slice a6 n6 c6,.bool m6,.slice d6 e6 f6],42),(b2,#[.slice sa sn sc,.int .i64 a,.int .i64 b],120)] [] [(fun V=>Rd V (.slice a5 n5 c5) m5 (.slice d5 e5 f5) (lo)),(fun V=>Rd V (.slice a6 n6 c6) m6 (.slice d6 e6 f6) (hi))]from hVZ_2.out) (fun _ hX=>⟨hX.cell 0 0 rfl rfl,hX.cell 0 1 rfl rfl,hX.cell 0 2 rfl rfl,hX.cell 1 0 rfl rfl,hX.cell 1 1 rfl rfl,hX.cell 1 2 rfl rfl,trivial⟩) ?_
 intro VZ_3 hc hHZ_3
 have hVZ_3:=Lib.hid hc
 clear hc hKq Kq hVZ_2 hHZ_2
 try simp only [Act.put,zI,z0,zS]
 refine wpAnyH_done (by kernel_rfl) ?_ _
 go_wp2
 refine ret_sy hVZ_3.out (v:= .tuple #[.agg #[.slice a5 n5 c5,.bool m5,.slice d5 e5 f5],.agg #[.slice a6 n6 c6,.bool m6,.slice d6 e6 f6],.int .i64 0]) (fun hF=>?_) rfl (fun hF=>⟨a5,n5,c5,m5,d5,e5,f5,a6,n6,c6,m6,d6,e6,f6,rfl,hF.r 0 rfl,hF.r 1 rfl,hF.be⟩)
 have g0_0:=hF.cell 0 0 rfl rfl
 have g0_1:=hF.cell 0 1 rfl rfl
 have g0_2:=hF.cell 0 2 rfl rfl
 have g1_0:=hF.cell 1 0 rfl rfl
 have g1_1:=hF.cell 1 1 rfl rfl
 have g1_2:=hF.cell 1 2 rfl rfl
 simp [results,Tryz.results51,go_sem,g0_0,g0_1,g0_2,g1_0,g1_1,g1_2]
set_option maxHeartbeats 8000000 in
set_option maxRecDepth 100000 in
theorem hAreas_far (sa:Option Addr) (sn sc:Nat) (l:List Pt) (a b:Int) (hs:Sx 2 w sa sn sc (L2 l)) (z:Int) (he:strErr l a b=0) (hz:inB z (-100000) 100000=false):Calls Tryz.prog 39 #[.slice sa sn sc,.int .i64 a,.int .i64 b,.int .i64 z] w (RetRRE w 0 0 3):=by
 have HK:=Lib.hid (fun W (hW:Below w.heap.size w W)=>hstretched_any W sa sn sc l a b (hs.below hW))
 rw [he]at HK
 have hC:=Lib.hid (((Sy.enter w).al w.heap.size #[.slice none 0 0,.bool false,.slice none 0 0] 42 rfl).al (w.heap.size+1) #[.slice none 0 0,.bool false,.slice none 0 0] 42 (by simp))
 clear he hs
 go_enter Tryz.func39,Tryz.ntmps39
 go_wp2_with fail
 refine(HK.out _ hC.out.be).mono ?_
 rintro e w1 ⟨rfl,hb⟩
 have hD:=Lib.hid (hC.out.call hb)
 clear hb hC
 have hE:=Lib.hid (hD.out.al w1.heap.size #[.slice sa sn sc,.int .i64 a,.int .i64 b] 120 rfl)
 go_upto_region 2 with fail
 refine wp_geny hE.out ?_
 intro V1 hc
 obtain ⟨b2,hb2⟩:∃b2,w1.heap.size=b2:=⟨_,rfl⟩
 rw [hb2]at hc⊢
 have hG:Hid (Sy w V1 [(w.heap.size,#[.slice none 0 0,.bool false,.slice none 0 0],42),((w.heap.size+1),#[.slice none 0 0,.bool false,.slice none 0 0],42),(b2,#[.slice sa sn sc,.int .i64 a,.int .i64 b],120)] [] []):=Lib.hid hc
 clear hc hD hE hb2
 have x0_0:=hG.out.cell 0 0 rfl rfl
 have xf0_0:=hG.out.free 0 0 rfl
 have x0_1:=hG.out.cell 0 1 rfl rfl
 have xf0_1:=hG.out.free 0 1 rfl
 have x0_2:=hG.out.cell 0 2 rfl rfl
 have xf0_2:=hG.out.free 0 2 rfl
 have x1_0:=hG.out.cell 1 0 rfl rfl
 have xf1_0:=hG.out.free 1 0 rfl
 have x1_1:=hG.out.cell 1 1 rfl rfl
 have xf1_1:=hG.out.free 1 1 rfl
 have x1_2:=hG.out.cell 1 2 rfl rfl
 have xf1_2:=hG.out.free 1 2 rfl
 go_wp2_with ((with_reducible refine(hwithin_any _ _ _ _).mono ?_);rintro e w2 ⟨rfl,rfl⟩)
 have hZ:=Lib.hid ((hG.out|>.set (j:=0) (v:= .slice none 0 0) 0 rfl|>.set (j:=1) (v:= .bool false) 0 rfl|>.set (j:=2) (v:= .slice none 0 0) 0 rfl|>.set (j:=0) (v:= .slice none 0 0) 1 rfl|>.set (j:=1) (v:= .bool false) 1 rfl|>.set (j:=2) (v:= .slice none 0 0) 1 rfl).pR rfl rfl Rd.nil)
 refine ret_sy hZ.out (v:= .tuple #[.agg #[.slice none 0 0,.bool false,.slice none 0 0],.agg #[.slice none 0 0,.bool false,.slice none 0 0],.int .i64 3]) (fun hF=>?_) rfl (fun hF=>⟨_,_,_,_,_,_,_,_,_,_,_,_,_,_,rfl,hF.r 0 rfl,hF.r 0 rfl,hF.be⟩)
 have g0_0:=hF.cell 0 0 rfl rfl
 have g0_1:=hF.cell 0 1 rfl rfl
 have g0_2:=hF.cell 0 2 rfl rfl
 have g1_0:=hF.cell 1 0 rfl rfl
 have g1_1:=hF.cell 1 1 rfl rfl
 have g1_2:=hF.cell 1 2 rfl rfl
 simp [results,Tryz.results39,go_sem,g0_0,g0_1,g0_2,g1_0,g1_1,g1_2]
set_option maxHeartbeats 8000000 in
set_option maxRecDepth 100000 in
theorem hAreas_ok (sa:Option Addr) (sn sc:Nat) (l:List Pt) (a b:Int) (hs:Sx 2 w sa sn sc (L2 l)) (z:Int) (he:strErr l a b=0) (hz:inB z (-100000) 100000=true):Calls Tryz.prog 39 #[.slice sa sn sc,.int .i64 a,.int .i64 b,.int .i64 z] w (RetRRE w (above l a b z) (below l a b z) 0):=by
 have HK:=Lib.hid (fun W (hW:Below w.heap.size w W)=>hstretched_any W sa sn sc l a b (hs.below hW))
 rw [he]at HK
 have hzz:InZ z:=by have:=inB_iff.1 hz;unfold InZ;omega
 have HA:=Lib.hid (fun W (hW:Below w.heap.size w W)=>above_any W sa sn sc l a b z (strErr_zero he) hzz (hs.below hW))
 have HB:=Lib.hid (fun W (hW:Below w.heap.size w W)=>below_any W sa sn sc l a b z (strErr_zero he) hzz (hs.below hW))
 have hC:=Lib.hid (((Sy.enter w).al w.heap.size #[.slice none 0 0,.bool false,.slice none 0 0] 42 rfl).al (w.heap.size+1) #[.slice none 0 0,.bool false,.slice none 0 0] 42 (by simp))
 clear he hs hzz
 generalize above l a b z=ab at*
 generalize below l a b z=be at*
 go_enter Tryz.func39,Tryz.ntmps39
 go_wp2_with fail
 refine(HK.out _ hC.out.be).mono ?_
 rintro e w1 ⟨rfl,hb⟩
 have hD:=Lib.hid (hC.out.call hb)
 clear hb hC
 have hE:=Lib.hid (hD.out.al w1.heap.size #[.slice sa sn sc,.int .i64 a,.int .i64 b] 120 rfl)
 go_upto_region 6 with ((with_reducible refine(hwithin_any _ _ _ _).mono ?_);rintro e w2 ⟨rfl,rfl⟩)
 refine wp_geny hE.out ?_
 intro V1 hc
 obtain ⟨b2,hb2⟩:∃b2,w1.heap.size=b2:=⟨_,rfl⟩
 rw [hb2]at hc⊢
 obtain ⟨b1,hb1⟩:∃b1,w.heap.size+1=b1:=⟨_,rfl⟩
 obtain ⟨b0,hb0⟩:∃b0,w.heap.size=b0:=⟨_,rfl⟩
 have hG:Hid (Sy w V1 [(b0,#[.slice none 0 0,.bool false,.slice none 0 0],42),(b1,#[.slice none 0 0,.bool false,.slice none 0 0],42),(b2,#[.slice sa sn sc,.int .i64 a,.int .i64 b],120)] [] []):=Lib.hid (by rw [←hb1,←hb0];exact hc)
 rw [hb1,hb0]
 clear hc hD hE hb0 hb1 hb2
 refine wp_region_held_drew (S:=(fun w'=>w'.cell? ⟨b2,0,none⟩=some (.slice sa sn sc)∧w'.cell? ⟨b2,1,none⟩=some (.int .i64 a)∧w'.cell? ⟨b2,2,none⟩=some (.int .i64 b)∧True)) (by kernel_rfl) ⟨hG.out.drew.cell 2 0 rfl rfl,hG.out.drew.cell 2 1 rfl rfl,hG.out.drew.cell 2 2 rfl rfl,trivial⟩ (fun hH=>?_)
 refine wpAnyH_geny (show Sy w _ [(b0,#[.slice none 0 0,.bool false,.slice none 0 0],42),(b1,#[.slice none 0 0,.bool false,.slice none 0 0],42),(b2,#[.slice sa sn sc,.int .i64 a,.int .i64 b],120)] [] []from hG.out.drew) hH ?_
 intro VZ_0 hc hHZ_0
 have hVZ_0:=Lib.hid hc
 clear hc hH hG
 refine tkL 0 ?_ rfl hHZ_0 ?_ ?_;rotate_left
 ·intro wS hSw;(try dsimp only at hSw);go_simp;try with_reducible rfl
 try simp only [Act.put,zI,z0,zS]
 refine tkL 1 ?_ rfl hHZ_0 ?_ ?_;rotate_left
 ·intro wS hSw;(try dsimp only at hSw);go_simp;try with_reducible rfl
 try simp only [Act.put,zI,z0,zS]
 refine tkL 3 ?_ rfl hHZ_0 ?_ ?_;rotate_left
 ·intro wS hSw;(try dsimp only at hSw);go_simp;try with_reducible rfl
 try simp only [Act.put,zI,z0,zS]
 refine tkL 4 ?_ rfl hHZ_0 ?_ ?_;rotate_left
 ·intro wS hSw;(try dsimp only at hSw);go_simp;try with_reducible rfl
 try simp only [Act.put,zI,z0,zS]
 refine rdy1 2 rfl (fun Kq hKq=>?_)
 go_simp
 go_at_call 70
 refine(HA.out _ hVZ_0.out.be).mono ?_
 rintro e wT ⟨a5,n5,c5,m5,d5,e5,f5,rfl,hz,hb⟩
 (try go_wp2_with fail)
 refine stepY hKq (show Sy w _ [(b0,#[.slice none 0 0,.bool false,.slice none 0 0],42),(b1,#[.slice none 0 0,.bool false,.slice none 0 0],42),(b2,#[.slice sa sn sc,.int .i64 a,.int .i64 b],120)] [] [(fun V=>Rd V (.slice a5 n5 c5) m5 (.slice d5 e5 f5) (ab))]from((hVZ_0.out.call hb).pR rfl rfl hz)) (fun _ hX=>⟨hX.cell 2 0 rfl rfl,hX.cell 2 1 rfl rfl,hX.cell 2 2 rfl rfl,trivial⟩) ?_
 intro VZ_1 hc hHZ_1
 have hVZ_1:=Lib.hid hc
 clear hc hKq Kq hVZ_0 hb hz hHZ_0
 try simp only [Act.put,zI,z0,zS]
 refine rdy1 5 rfl (fun Kq hKq=>?_)
 go_simp
 go_at_call 89
 refine(HB.out _ hVZ_1.out.be).mono ?_
 rintro e wT ⟨a6,n6,c6,m6,d6,e6,f6,rfl,hz,hb⟩
 (try go_wp2_with fail)
 refine stepY hKq (show Sy w _ [(b0,#[.slice none 0 0,.bool false,.slice none 0 0],42),(b1,#[.slice none 0 0,.bool false,.slice none 0 0],42),(b2,#[.slice sa sn sc,.int .i64 a,.int .i64 b],120)] [] [(fun V=>Rd V (.slice a5 n5 c5) m5 (.slice d5 e5 f5) (ab)),(fun V=>Rd V (.slice a6 n6 c6) m6 (.slice d6 e6 f6) (be))]from((hVZ_1.out.call hb).pR rfl rfl hz)) (fun _ hX=>⟨hX.cell 2 0 rfl rfl,hX.cell 2 1 rfl rfl,hX.cell 2 2 rfl rfl,trivial⟩) ?_
 intro VZ_2 hc hHZ_2
 have hVZ_2:=Lib.hid hc
 clear hc hKq Kq hVZ_1 hb hz hHZ_1
 try simp only [Act.put,zI,z0,zS]
 refine rdy1 6 rfl (fun Kq hKq=>?_)
 have cQ0:=hVZ_2.out.cell 0 0 rfl rfl
 have fQ0:=hVZ_2.out.free 0 0 rfl
 have cQ1:=hVZ_2.out.cell 0 1 rfl rfl
 have fQ1:=hVZ_2.out.free 0 1 rfl
 have cQ2:=hVZ_2.out.cell 0 2 rfl rfl
 have fQ2:=hVZ_2.out.free 0 2 rfl
 go_simp
 refine stepY hKq (show Sy w _ [(b0,#[.slice a5 n5 c5,.bool m5,.slice d5 e5 f5],42),(b1,#[.slice none 0 0,.bool false,.slice none 0 0],42),(b2,#[.slice sa sn sc,.int .i64 a,.int .i64 b],120)] [] [(fun V=>Rd V (.slice a5 n5 c5) m5 (.slice d5 e5 f5) (ab)),(fun V=>Rd V (.slice a6 n6 c6) m6 (.slice d6 e6 f6) (be))]from(hVZ_2.out|>.set (j:=0) (v:= .slice a5 n5 c5) 0 rfl|>.set (j:=1) (v:= .bool m5) 0 rfl|>.set (j:=2) (v:= .slice d5 e5 f5) 0 rfl)) (fun _ hX=>⟨hX.cell 2 0 rfl rfl,hX.cell 2 1 rfl rfl,hX.cell 2 2 rfl rfl,trivial⟩) ?_
 intro VZ_3 hc hHZ_3
 have hVZ_3:=Lib.hid hc
 clear hc hKq Kq hVZ_2 cQ0 fQ0 cQ1 fQ1 cQ2 fQ2 hHZ_2
 try simp only [Act.put]
 refine rdy1 7 rfl (fun Kq hKq=>?_)
 have cQ0:=hVZ_3.out.cell 1 0 rfl rfl
 have fQ0:=hVZ_3.out.free 1 0 rfl
 have cQ1:=hVZ_3.out.cell 1 1 rfl rfl
 have fQ1:=hVZ_3.out.free 1 1 rfl
 have cQ2:=hVZ_3.out.cell 1 2 rfl rfl
 have fQ2:=hVZ_3.out.free 1 2 rfl
 go_simp
 refine stepY hKq (show Sy w _ [(b0,#[.slice a5 n5 c5,.bool m5,.slice d5 e5 f5],42),(b1,#[.slice a6 n6 c6,.bool m6,.slice d6 e6 f6],42),(b2,#[.slice sa sn sc,.int .i64 a,.int .i64 b],120)] [] [(fun V=>Rd V (.slice a5 n5 c5) m5 (.slice d5 e5 f5) (ab)),(fun V=>Rd V (.slice a6 n6 c6) m6 (.slice d6 e6 f6) (be))]from(hVZ_3.out|>.set (j:=0) (v:= .slice a6 n6 c6) 1 rfl|>.set (j:=1) (v:= .bool m6) 1 rfl|>.set (j:=2) (v:= .slice d6 e6 f6) 1 rfl)) (fun _ hX=>⟨hX.cell 2 0 rfl rfl,hX.cell 2 1 rfl rfl,hX.cell 2 2 rfl rfl,trivial⟩) ?_
 intro VZ_4 hc hHZ_4
 have hVZ_4:=Lib.hid hc
 clear hc hKq Kq hVZ_3 cQ0 fQ0 cQ1 fQ1 cQ2 fQ2 hHZ_3
 try simp only [Act.put]
 refine rdy1 8 rfl (fun Kq hKq=>?_)
 go_simp
 refine stepY hKq (show Sy w _ [(b0,#[.slice a5 n5 c5,.bool m5,.slice d5 e5 f5],42),(b1,#[.slice a6 n6 c6,.bool m6,.slice d6 e6 f6],42),(b2,#[.slice sa sn sc,.int .i64 a,.int .i64 b],120)] [] [(fun V=>Rd V (.slice a5 n5 c5) m5 (.slice d5 e5 f5) (ab)),(fun V=>Rd V (.slice a6 n6 c6) m6 (.slice d6 e6 f6) (be))]from hVZ_4.out) (fun _ hX=>⟨hX.cell 2 0 rfl rfl,hX.cell 2 1 rfl rfl,hX.cell 2 2 rfl rfl,trivial⟩) ?_
 intro VZ_5 hc hHZ_5
 have hVZ_5:=Lib.hid hc
 clear hc hKq Kq hVZ_4 hHZ_4
 try simp only [Act.put,zI,z0,zS]
 refine wpAnyH_done (by kernel_rfl) ?_ _
 go_wp2
 refine ret_sy hVZ_5.out (v:= .tuple #[.agg #[.slice a5 n5 c5,.bool m5,.slice d5 e5 f5],.agg #[.slice a6 n6 c6,.bool m6,.slice d6 e6 f6],.int .i64 0]) (fun hF=>?_) rfl (fun hF=>⟨a5,n5,c5,m5,d5,e5,f5,a6,n6,c6,m6,d6,e6,f6,rfl,hF.r 0 rfl,hF.r 1 rfl,hF.be⟩)
 have g0_0:=hF.cell 0 0 rfl rfl
 have g0_1:=hF.cell 0 1 rfl rfl
 have g0_2:=hF.cell 0 2 rfl rfl
 have g1_0:=hF.cell 1 0 rfl rfl
 have g1_1:=hF.cell 1 1 rfl rfl
 have g1_2:=hF.cell 1 2 rfl rfl
 simp [results,Tryz.results39,go_sem,g0_0,g0_1,g0_2,g1_0,g1_1,g1_2]
set_option maxHeartbeats 8000000 in
set_option maxRecDepth 100000 in
theorem hPool_of (sa:Option Addr) (sn sc:Nat) (a b:Int) (z:Int) (p q:Rat) (k:Int) (hA:∀W,Below w.heap.size w W→Calls Tryz.prog 39 #[.slice sa sn sc,.int .i64 a,.int .i64 b,.int .i64 z] W (RetRRE W p q k)):Calls Tryz.prog 48 #[.slice sa sn sc,.int .i64 a,.int .i64 b,.int .i64 z] w (RetRE w q k):=by
 have HA:=Lib.hid hA
 clear hA
 have hC:=Lib.hid ((Sy.enter w).al w.heap.size #[.slice none 0 0,.bool false,.slice none 0 0] 42 rfl)
 go_enter Tryz.func48,Tryz.ntmps48
 go_wp2_with fail
 refine(HA.out _ hC.out.be).mono ?_
 rintro e w1 ⟨a5,n5,c5,m5,d5,e5,f5,a6,n6,c6,m6,d6,e6,f6,rfl,hz1,hz2,hb⟩
 have hD:=Lib.hid ((hC.out.call hb).pR rfl rfl hz2)
 clear hb hC hz1 hz2
 have x0_0:=hD.out.cell 0 0 rfl rfl
 have xf0_0:=hD.out.free 0 0 rfl
 have x0_1:=hD.out.cell 0 1 rfl rfl
 have xf0_1:=hD.out.free 0 1 rfl
 have x0_2:=hD.out.cell 0 2 rfl rfl
 have xf0_2:=hD.out.free 0 2 rfl
 have l0:=hD.out.lt 0 rfl
 go_wp2
 have hZ:=Lib.hid (((hD.out|>.set (j:=0) (v:= .slice a6 n6 c6) 0 rfl|>.set (j:=1) (v:= .bool m6) 0 rfl|>.set (j:=2) (v:= .slice d6 e6 f6) 0 rfl).row (o:= .cells #[.slice a5 n5 c5,.bool m5,.slice d5 e5 f5] 42)).row (o:= .cells #[.slice a6 n6 c6,.bool m6,.slice d6 e6 f6] 42))
 refine ret_sy hZ.out (v:= .tuple #[.agg #[.slice a6 n6 c6,.bool m6,.slice d6 e6 f6],.int .i64 k]) (fun hF=>?_) rfl (fun hF=>⟨_,_,_,_,_,_,_,rfl,hF.r 0 rfl,hF.be⟩)
 have g0_0:=hF.cell 0 0 rfl rfl
 have g0_1:=hF.cell 0 1 rfl rfl
 have g0_2:=hF.cell 0 2 rfl rfl
 simp [results,Tryz.results48,go_sem,g0_0,g0_1,g0_2]
end
end Go.Proofs.YthmdhlopeponcaaGreatDoor
namespace Go.Proofs.YthmdhlopeponcaaGreatDoor
open Go.RowKit Go.Shelf Dig
variable {l:List Pt} {a b:Int}
theorem Strt.in_pcs (hT:Strt l a b) {t:Int×Int} (ht:t∈Proofs.YthmdhlopeponcaaGreatDoor.pcs l a b):a≤t.1∧t.1 < t.2∧t.2≤b:=by
 obtain ⟨h1,h2,h3,_⟩:=hT.ok.stp_line (b:=b) 0 a (Nat.zero_le _) (Int.le_of_lt hT.lt) (fun h=>absurd h (Nat.lt_irrefl 0)) (fun _=>hT.lo) t ht
 exact⟨h1,h2,h3⟩
theorem Strt.below_mono (hT:Strt l a b) {y z:Int} (h:y≤z):below l a b y≤below l a b z:=by
 unfold below
 refine smQ_mono (fun t ht=>?_)
 obtain ⟨h1,h2,h3⟩:=hT.in_pcs ht
 have hc:=cast_le h
 unfold pieceB
 exact posQ_mono (by have:=cast_le (show(0:Int)≤t.2 - t.1 by omega);simpa using this) (by grind) (by grind)
theorem sums_bq {f:Int×Int→Rat} (hT:Strt l a b) (hf:∀t:Int×Int,a≤t.1→t.1 < t.2→t.2≤b→Bq 174 (f t)):Bq 7001 (smQ ((pcs l a b).map f)):=by
 have h:=smQ_bq (N:=174) (l:=(pcs l a b).map f) (by
  intro q hq
  obtain ⟨t,ht,rfl⟩:=List.mem_map.1 hq
  obtain ⟨h1,h2,h3⟩:=hT.in_pcs ht
  exact hf t h1 h2 h3)
 refine h.mono ?_
 have:=hT.ok.pcs_len a b
 rw [List.length_map]
 omega
theorem Strt.below_bq (hT:Strt l a b) {z:Int} (hz:InZ z):Bq 7001 (below l a b z):=sums_bq hT (pieceB_bq hT hz)
theorem Strt.above_bq (hT:Strt l a b) {z:Int} (hz:InZ z):Bq 7001 (above l a b z):=sums_bq hT (pieceA_bq hT hz)
theorem cmpQ_ge {x y:Rat} :0≤cmpQ x y↔y≤x:=by
 unfold cmpQ
 split
 ·rename_i h;constructor<;>intro _<;>first | omega | grind
 ·split
  ·constructor<;>intro _<;>first | omega | grind
  ·constructor<;>intro _<;>first | omega | grind
def poolB (l:List Pt) (a b area:Int) (n:Nat):Bool:=decide (0≤cmpQ (below l a b ((n:Int) - 100000)) (area:Rat))
def poolN (l:List Pt) (a b area:Int):Nat:=(List.range 200001).countP (fun i=> !poolB l a b area i)
theorem Strt.pool_mono (hT:Strt l a b) {area:Int} :∀x y,x≤y→y < 200001→poolB l a b area x=true→poolB l a b area y=true:=by
 intro x y h _ h1
 unfold poolB at*
 rw [decide_eq_true_eq,cmpQ_ge]at*
 have:=hT.below_mono (show(x:Int) - 100000≤(y:Int) - 100000 by omega)
 grind
def floodErr (l:List Pt) (a b area:Int):Int:=if strErr l a b=0 then(if inB area 1 1000000000000=true then(if poolN l a b area=200001 then 12 else 0)else 3)else strErr l a b
def floodLev (l:List Pt) (a b area:Int):Int:=if floodErr l a b area=0 then(poolN l a b area:Int) - 100000 else 0
end Go.Proofs.YthmdhlopeponcaaGreatDoor
namespace Go.Proofs.YthmdhlopeponcaaGreatDoor
open Go.RowKit Go.Shelf Dig
section
variable (w:World)
set_option maxHeartbeats 8000000 in
set_option maxRecDepth 100000 in
theorem flood1_any (sa:Option Addr) (sn sc:Nat) (l:List Pt) (a b:Int) (hs:Sx 2 w sa sn sc (L2 l)) (area:Int) (b0 b1:Nat) (n:Nat) (hn:n < 200001) (hT:Strt l a b) (ha:1≤area∧area≤1000000000000) (h0:w.cell? ⟨b0,0,none⟩=some (.slice sa sn sc)) (h1:w.cell? ⟨b0,1,none⟩=some (.int .i64 a)) (h2:w.cell? ⟨b0,2,none⟩=some (.int .i64 b))
  (h3:w.cell? ⟨b1,0,none⟩=some (.int .i64 area)) (l0:b0 < w.heap.size) (l1:b1 < w.heap.size):
  Calls Tryz.prog 88 #[.int .i64 n,.pointer (some ⟨b0,0,none⟩),.pointer (some ⟨b1,0,none⟩)] w (Gives (.bool (poolB l a b area n)) w):=by
 have HA0:=Lib.hid (fun W (h:Below w.heap.size w W)=>(h.cell (p:=⟨b0,0,none⟩) l0).trans h0)
 have HA1:=Lib.hid (fun W (h:Below w.heap.size w W)=>(h.cell (p:=⟨b0,1,none⟩) l0).trans h1)
 have HA2:=Lib.hid (fun W (h:Below w.heap.size w W)=>(h.cell (p:=⟨b0,2,none⟩) l0).trans h2)
 have HA3:=Lib.hid (fun W (h:Below w.heap.size w W)=>(h.cell (p:=⟨b1,0,none⟩) l1).trans h3)
 have hz:InZ ((n:Int) - 100000):=by unfold InZ;omega
 have HB:=Lib.hid (fun W (hW:Below w.heap.size w W)=>below_any W sa sn sc l a b ((n:Int) - 100000) hT hz (hs.below hW))
 have B1:=Lib.hid (hT.below_bq hz)
 have B2:=Lib.hid (show Bq 41 (area:Rat)from Bq.int (n:=40) (by unfold Bd;omega))
 have HK:=Lib.hid (show -9223372036854775808≤area∧area < 9223372036854775808 by omega)
 have HP:=Lib.hid (show poolB l a b area n=decide (0≤cmpQ (below l a b ((n:Int) - 100000)) (area:Rat))from rfl)
 have wn:IntKind.i64.wrap ((n:Int) - 100000)=(n:Int) - 100000:=IntWalk.i64_in _ (by omega)
 rw [HP.out]
 generalize below l a b ((n:Int) - 100000)=bl at*
 clear hs hT ha h0 h1 h2 h3 l0 l1 hz HP
 have hC:=Lib.hid (Sy.enter w)
 go_enter Tryz.func88,Tryz.ntmps88
 go_upto_region 1 with fail
 refine wp_geny hC.out ?_
 intro V1 hc
 have hS:=Lib.hid hc
 clear hc hC
 refine wp_region_held_drew (S:=(fun w'=>w'.cell? ⟨b0,0,none⟩=some (.slice sa sn sc)∧w'.cell? ⟨b0,1,none⟩=some (.int .i64 a)∧w'.cell? ⟨b0,2,none⟩=some (.int .i64 b)∧w'.cell? ⟨b1,0,none⟩=some (.int .i64 area)∧True)) (by kernel_rfl) ⟨(HA0.out _ hS.out.drew.be),(HA1.out _ hS.out.drew.be),(HA2.out _ hS.out.drew.be),(HA3.out _ hS.out.drew.be),trivial⟩ (fun hH=>?_)
 refine wpAnyH_geny (show Sy w _ [] [] []from hS.out.drew) hH ?_
 intro VA_0 hc hHA_0
 have hVA_0:=Lib.hid hc
 clear hc hH hS
 refine tkL 0 ?_ rfl hHA_0 ?_ ?_;rotate_left
 ·intro wS hSw;(try dsimp only at hSw);go_simp;try with_reducible rfl
 try simp only [Act.put,zI,z0,zS]
 refine tkL 1 ?_ rfl hHA_0 ?_ ?_;rotate_left
 ·intro wS hSw;(try dsimp only at hSw);go_simp;try with_reducible rfl
 try simp only [Act.put,zI,z0,zS]
 refine tkL 2 ?_ rfl hHA_0 ?_ ?_;rotate_left
 ·intro wS hSw;(try dsimp only at hSw);go_simp;try with_reducible rfl
 try simp only [Act.put,zI,z0,zS]
 refine tkL 4 ?_ rfl hHA_0 ?_ ?_;rotate_left
 ·intro wS hSw;(try dsimp only at hSw);go_simp;try with_reducible rfl
 try simp only [Act.put,zI,z0,zS]
 refine rdy1 3 rfl (fun Kq hKq=>?_)
 go_simp
 go_at_call 89
 refine(HB.out _ hVA_0.out.be).mono ?_
 rintro e wT ⟨a5,n5,c5,m5,d5,e5,f5,rfl,hz,hb⟩
 (try go_wp2_with fail)
 refine stepY hKq (show Sy w _ [] [] [(fun V=>Rd V (.slice a5 n5 c5) m5 (.slice d5 e5 f5) (bl))]from((hVA_0.out.call hb).pR rfl rfl hz)) (fun _ hX=>⟨(HA0.out _ hX.be),(HA1.out _ hX.be),(HA2.out _ hX.be),(HA3.out _ hX.be),trivial⟩) ?_
 intro VA_1 hc hHA_1
 have hVA_1:=Lib.hid hc
 clear hc hKq Kq hVA_0 hb hz hHA_0
 try simp only [Act.put,zI,z0,zS]
 refine rdy1 5 rfl (fun Kq hKq=>?_)
 go_simp
 go_at_call 45
 refine(of_any _ HK.out _).mono ?_
 rintro e wT ⟨a6,n6,c6,m6,d6,e6,f6,rfl,hz,hb⟩
 (try go_wp2_with fail)
 refine stepY hKq (show Sy w _ [] [] [(fun V=>Rd V (.slice a5 n5 c5) m5 (.slice d5 e5 f5) (bl)),(fun V=>Rd V (.slice a6 n6 c6) m6 (.slice d6 e6 f6) (area))]from((hVA_1.out.call hb).pR rfl rfl hz)) (fun _ hX=>⟨(HA0.out _ hX.be),(HA1.out _ hX.be),(HA2.out _ hX.be),(HA3.out _ hX.be),trivial⟩) ?_
 intro VA_2 hc hHA_2
 have hVA_2:=Lib.hid hc
 clear hc hKq Kq hVA_1 hb hz hHA_1
 try simp only [Act.put,zI,z0,zS]
 refine rdy1 6 rfl (fun Kq hKq=>?_)
 go_simp
 go_at_call 41
 refine(hcmp_is (hVA_2.out.r 0 rfl) (hVA_2.out.r 1 rfl) B1.out B2.out (by omega) (by omega) rfl).mono ?_
 rintro e wT ⟨rfl,hb⟩
 (try go_wp2_with fail)
 refine stepY hKq (show Sy w _ [] [] [(fun V=>Rd V (.slice a5 n5 c5) m5 (.slice d5 e5 f5) (bl)),(fun V=>Rd V (.slice a6 n6 c6) m6 (.slice d6 e6 f6) (area))]from(hVA_2.out.call hb)) (fun _ hX=>⟨(HA0.out _ hX.be),(HA1.out _ hX.be),(HA2.out _ hX.be),(HA3.out _ hX.be),trivial⟩) ?_
 intro VA_3 hc hHA_3
 have hVA_3:=Lib.hid hc
 clear hc hKq Kq hVA_2 hb hHA_2
 try simp only [Act.put,zI,z0,zS]
 refine tkL 7 ?_ rfl hHA_3 ?_ ?_;rotate_left
 ·intro wS hSw;(try dsimp only at hSw);go_simp;try with_reducible rfl
 try simp only [Act.put,zI,z0,zS]
 refine rdy1 8 rfl (fun Kq hKq=>?_)
 go_simp
 refine stepY hKq (show Sy w _ [] [] [(fun V=>Rd V (.slice a5 n5 c5) m5 (.slice d5 e5 f5) (bl)),(fun V=>Rd V (.slice a6 n6 c6) m6 (.slice d6 e6 f6) (area))]from hVA_3.out) (fun _ hX=>⟨(HA0.out _ hX.be),(HA1.out _ hX.be),(HA2.out _ hX.be),(HA3.out _ hX.be),trivial⟩) ?_
 intro VA_4 hc hHA_4
 have hVA_4:=Lib.hid hc
 clear hc hKq Kq hVA_3 hHA_3
 try simp only [Act.put,zI,z0,zS]
 refine wpAnyH_done (by kernel_rfl) ?_ _
 go_wp2
 go_ret
 exact⟨rfl,hVA_4.out.be⟩
theorem eg_flood1:EG 88:=enters_of Tryz.func88 (by kernel_rfl) rfl
set_option maxHeartbeats 8000000 in
set_option maxRecDepth 100000 in
theorem flood_any (sa:Option Addr) (sn sc:Nat) (l:List Pt) (a b:Int) (hs:Sx 2 w sa sn sc (L2 l)) (area:Int) (hi: -9223372036854775808≤area∧area < 9223372036854775808):Calls Tryz.prog 37 #[.slice sa sn sc,.int .i64 a,.int .i64 b,.int .i64 area] w (Gives (.tuple #[.int .i64 (floodLev l a b area),.int .i64 (floodErr l a b area)]) w):=by
 have HK:=Lib.hid (fun W (hW:Below w.heap.size w W)=>hstretched_any W sa sn sc l a b (hs.below hW))
 have HS:=Lib.hid hs
 have HE:=Lib.hid (show floodErr l a b area=if strErr l a b=0 then(if inB area 1 1000000000000=true then(if poolN l a b area=200001 then 12 else 0)else 3)else strErr l a b from rfl)
 have HL:=Lib.hid (show floodLev l a b area=if floodErr l a b area=0 then(poolN l a b area:Int) - 100000 else 0 from rfl)
 have hC:=Lib.hid ((Sy.enter w).al w.heap.size #[.int .i64 area] 2 rfl)
 have HSM:=Lib.hid (fun(hT:Strt l a b) (ha:1≤area∧area≤1000000000000) W (hW:Below w.heap.size w W) (b0 b1:Nat) (h0:W.cell? ⟨b0,0,none⟩=some (.slice sa sn sc)) (h1:W.cell? ⟨b0,1,none⟩=some (.int .i64 a)) (h2:W.cell? ⟨b0,2,none⟩=some (.int .i64 b)) (h3:W.cell? ⟨b1,0,none⟩=some (.int .i64 area)) (l0:b0 < W.heap.size) (l1:b1 < W.heap.size)=>
  (show Calls Tryz.prog 87 #[.int .i64 (200001:Nat),.func (.func 88) #[] #[.pointer (some ⟨b0,0,none⟩),.pointer (some ⟨b1,0,none⟩)]] W (Gives (.int .i64 (poolN l a b area:Nat)) W)from
   search_any W 88 #[.pointer (some ⟨b0,0,none⟩),.pointer (some ⟨b1,0,none⟩)] 200001 (poolB l a b area) eg_flood1 (by omega)
    (fun V hV i hi=>flood1_any V sa sn sc l a b (hs.below (hW.trans (hV.mono hW.size))) area b0 b1 i hi hT ha ((hV.cell (p:=⟨b0,0,none⟩) l0).trans h0) ((hV.cell (p:=⟨b0,1,none⟩) l0).trans h1) ((hV.cell (p:=⟨b0,2,none⟩) l0).trans h2) ((hV.cell (p:=⟨b1,0,none⟩) l1).trans h3) (Nat.lt_of_lt_of_le l0 hV.size) (Nat.lt_of_lt_of_le l1 hV.size))
    hT.pool_mono))
 have hpn:poolN l a b area≤200001:=by have:=List.countP_le_length (p:=fun i=> !poolB l a b area i) (l:=List.range 200001);rw [List.length_range]at this;exact this
 have HT:=Lib.hid (fun(h:strErr l a b=0)=>strErr_zero h)
 generalize floodLev l a b area=lev at*
 generalize floodErr l a b area=fe at*
 generalize poolN l a b area=pn at*
 generalize strErr l a b=er at*
 clear hs
 go_enter Tryz.func37,Tryz.ntmps37
 go_wp2_with fail
 refine(HK.out _ hC.out.be).mono ?_
 rintro e w1 ⟨rfl,hb⟩
 have hD:=Lib.hid ((hC.out.call hb).al w1.heap.size #[.slice sa sn sc,.int .i64 a,.int .i64 b] 120 rfl)
 clear hb hC
 go_upto_region 2 with fail
 refine wp_geny hD.out ?_
 intro V1 hc
 obtain ⟨b2,hb2⟩:∃b2,w1.heap.size=b2:=⟨_,rfl⟩
 obtain ⟨b1,hb1⟩:∃b1,w.heap.size=b1:=⟨_,rfl⟩
 have hG:Hid (Sy w V1 [(b1,#[.int .i64 area],2),(b2,#[.slice sa sn sc,.int .i64 a,.int .i64 b],120)] [] []):=Lib.hid (by rw [←hb1,←hb2];exact hc)
 rw [hb1,hb2]
 clear hc hD hb1 hb2
 by_cases h0:er=0
 rotate_left
 ·have e0:(er !=0)=true:=bne_iff_ne.2 h0
  have he:=HE.out
  rw [if_neg h0]at he
  have hv:=HL.out
  rw [if_neg (by rw [he];exact h0)]at hv
  clear HE HL HSM HT
  subst he
  subst hv
  go_wp2
  go_ret2
  exact⟨rfl,hG.out.be⟩
 subst h0
 have x1:=hG.out.cell 0 0 rfl rfl
 by_cases hin:inB area 1 1000000000000=true
 rotate_left
 ·have he:=HE.out
  rw [if_pos rfl,if_neg hin]at he
  have hv:=HL.out
  rw [if_neg (by rw [he];decide)]at hv
  clear HE HL HSM HT
  subst he
  subst hv
  have hq:area < 1∨1000000000000 < area:=by have:=mt inB_iff.2 hin;omega
  rcases Int.lt_or_le area 1 with q1 | q1
  ·go_wp2
   go_ret2
   exact⟨rfl,hG.out.be⟩
  ·have q2:1000000000000 < area:=by omega
   have q3:¬ area < 1:=by omega
   go_wp2
   go_ret2
   exact⟨rfl,hG.out.be⟩
 have hr:=inB_iff.1 hin
 have q1:¬ area < 1:=by omega
 have q2:¬ 1000000000000 < area:=by omega
 have he:=HE.out
 rw [if_pos rfl,if_pos hin]at he
 have HE2:=Lib.hid he
 have HQ:=Lib.hid (HSM.out (HT.out rfl) hr)
 clear HE HSM he hin HT
 have l1:=hG.out.lt 0 rfl
 have l2:=hG.out.lt 1 rfl
 have y0:=hG.out.cell 1 0 rfl rfl
 have y1:=hG.out.cell 1 1 rfl rfl
 have y2:=hG.out.cell 1 2 rfl rfl
 go_wp2_with fail
 refine(HQ.out _ hG.out.be b2 b1 y0 y1 y2 x1 l2 l1).mono ?_
 rintro e w2 ⟨rfl,hb⟩
 have hH:=Lib.hid (hG.out.call hb)
 clear hb hG x1 y0 y1 y2 l1 l2 HQ
 by_cases hp:pn=200001
 ·have he:=HE2.out
  rw [if_pos hp]at he
  have hv:=HL.out
  rw [if_neg (by rw [he];decide)]at hv
  have p1:(pn:Int)=200001:=by omega
  clear HE2 HL
  subst he
  subst hv
  go_wp2
  go_ret2
  exact⟨rfl,hH.out.be⟩
 ·have he:=HE2.out
  rw [if_neg hp]at he
  have hv:=HL.out
  rw [if_pos he]at hv
  have p1:¬ (pn:Int)=200001:=by omega
  have wn:IntKind.i64.wrap ((pn:Int) - 100000)=(pn:Int) - 100000:=IntWalk.i64_in _ (by omega)
  clear HE2 HL
  subst he
  subst hv
  go_wp2
  go_ret2
  exact⟨rfl,hH.out.be⟩
end
end Go.Proofs.YthmdhlopeponcaaGreatDoor

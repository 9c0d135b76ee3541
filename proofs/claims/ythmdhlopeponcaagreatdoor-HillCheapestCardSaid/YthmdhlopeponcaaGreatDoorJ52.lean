/- the cost of cuts: what Dig says of levels as deep as they must be -/
import Derived.Test.YthmdhlopeponcaaGreatDoorJ0
import Derived.Test.YthmdhlopeponcaaGreatDoorJ43
import Derived.Test.YthmdhlopeponcaaGreatDoorJ42
import Derived.Test.YthmdhlopeponcaaGreatDoorJ39
import Derived.Test.YthmdhlopeponcaaGreatDoorJ28
import Derived.Test.YthmdhlopeponcaaGreatDoorJ30
namespace Go.Proofs.YthmdhlopeponcaaGreatDoor
open Go.RowKit Go.Shelf Dig
def RetRB (w:World) (q:Rat) (e:Ending) (w':World):Prop:=∃a n c m a' n' c',e= .returned (.tuple #[.agg #[.slice a n c,.bool m,.slice a' n' c'],.bool true])∧Rd w' (.slice a n c) m (.slice a' n' c') q∧Below w.heap.size w w'
theorem base_snoc {l:List Pt} {bs:List Int} {d:Int} {k:Nat} (h:k+1 < bs.length):L1 ((baseL l bs d).take (k+1))=L1 ((baseL l bs d).take k)++ [.int .i64 ((loQ l (bX bs k) (bX bs (k+1))).floor - d)]:=by
 have hl:k < (baseL l bs d).length:=by rw [baseL_len];omega
 rw [List.take_succ_eq_append_getElem hl,L1_append,←bX_at hl,baseL_at h];rfl
theorem base_in {l:List Pt} {bs:List Int} {d:Int} (hk:brkB l bs=true) (hd:0≤d∧d≤3000):∀z∈baseL l bs d,-103000≤z∧z≤100000:=by
 intro z hz
 unfold baseL at hz
 obtain ⟨t,ht,rfl⟩:=List.mem_map.1 hz
 have:=(brk_strt hk ht).lo_gd.floor
 unfold footI
 omega
theorem base_ok {l:List Pt} {bs:List Int} {d:Int} (hk:brkB l bs=true) (hd:0≤d∧d≤3000):digB l bs (baseL l bs d)=true:=by
 have hw:wrongB (bs.length - 1) (baseL l bs d)=false:=by
  unfold wrongB
  rw [Bool.or_eq_false_iff]
  refine⟨decide_eq_false (by rw [baseL_len];omega),List.any_eq_false.2 fun z hz=>?_⟩
  have:=base_in hk hd z hz
  rw [inB_iff.2 (by omega)];simp
 unfold digB
 rw [hk,hw];rfl
section
variable (w:World)
set_option maxHeartbeats 8000000 in
set_option maxRecDepth 100000 in
theorem price_any (sa:Option Addr) (sn sc:Nat) (l:List Pt) (hs:Sx 2 w sa sn sc (L2 l)) (ba:Option Addr) (bn bc:Nat) (bs:List Int) (hb:Sx 1 w ba bn bc (L1 bs)) (d:Int) (hk:brkB l bs=true) (hd:0≤d∧d≤3000):
  Calls Tryz.prog 57 #[.slice sa sn sc,.slice ba bn bc,.int .i64 d] w (RetRB w (costL l d bs)):=by
 obtain rfl:=hb.n1
 obtain ⟨hP,⟨hl1,hl2⟩,-,-⟩:=brk_ok hk
 have HB:=Lib.hid (fun W (hW:Below w.heap.size w W)=>hb.below hW)
 have HST:=Lib.hid (fun i (hi:i+1 < bs.length)=>show Strt l (bX bs i) (bX bs (i+1))from by
  rw [bX_at hi,bX_at (show i < bs.length by omega)];exact brk_strt hk (List.mem_of_getElem? (nbr_get hi)))
 have HCB:=Lib.hid (fun W (hW:Below w.heap.size w W) x y (hT:Strt l x y)=>hBounds_ok W sa sn sc l x y (hs.below hW) (strErr_ok (prof_iff.2 hP) (strB_of hT)))
 have HDG:=Lib.hid (fun W (hW:Below w.heap.size w W) za zn zc (hz:Sx 1 W za zn zc (L1 (baseL l bs d)))=>hDig_ok W sa sn sc l (hs.below hW) ba bs.length bc bs (hb.below hW) za zn zc _ hz (base_ok hk hd))
 have HDQ:=Lib.hid (show digQ l bs (baseL l bs d)=costL l d bs from dig_costL l d bs)
 have HLN:=Lib.hid (show(baseL l bs d).length=bs.length - 1 from baseL_len)
 obtain ⟨gb,ob,rfl⟩:=hb.addr (by omega)
 clear hs hb hk hP
 have hC:=Lib.hid ((Sy.enter w).al w.heap.size #[.slice none 0 0,.bool false,.slice none 0 0] 42 rfl)
 go_enter Tryz.func57,Tryz.ntmps57
 go_upto_region 1 with fail
 refine wp_geny hC.out ?_
 intro V0 hc
 have hC0:=Lib.hid (show Sy w V0 [(w.heap.size,#[.slice none 0 0,.bool false,.slice none 0 0],42)] [⟨.slice none 0 0,3,1,0,L1 ((baseL l bs d).take 0)⟩] []from hc.onil 3 1)
 clear hc hC
 go_wp2
 go_loopw [8,9] (fun av iv wr=>∃ (k:Nat) (a8:Option Addr) (c8:Nat),k+1≤bs.length∧av= .slice a8 k c8∧iv= .int .i64 k∧Hid (Sy w wr [(w.heap.size,#[.slice none 0 0,.bool false,.slice none 0 0],42)] [⟨.slice a8 k c8,3,1,k,L1 ((baseL l bs d).take k)⟩] [])) (fun _ iv _=>bs.length - (intOf iv).toNat)
 case atStart=>exact⟨0,none,0,by omega,rfl,rfl,hC0⟩
 case round=>
  clear hC0
  obtain ⟨k,a8,c8,hk,rfl,rfl,hS⟩:=hrel
  obtain ⟨n1,hn1⟩:∃n1:Nat,n1=k+1:=⟨_,rfl⟩
  have i2:IntKind.i64.wrap ((k:Int)+1)=(n1:Int):=by rw [IntWalk.i64_in _ (by omega)];omega
  by_cases hlt:n1 < bs.length
  ·have hkb:k+1 < bs.length:=by omega
   have hT:=HST.out k hkb
   have HX:=Lib.hid (fun W (hW:Below w.heap.size w W)=>(HB.out W hW).atX (show k < bs.length by omega))
   have HY:=Lib.hid (fun W (hW:Below w.heap.size w W)=>(HB.out W hW).atX hkb)
   have HBS:=Lib.hid (base_snoc (l:=l) (d:=d) hkb)
   have HC:=Lib.hid (fun W hW=>HCB.out W hW _ _ hT)
   have QB:=Lib.hid hT.lo_gd.bq
   have hfl:=hT.lo_gd.floor
   clear hT hkb
   rw [←hn1]at HY HBS HC QB hfl
   generalize loQ l (bX bs k) (bX bs n1)=lo at*
   generalize hiQ l (bX bs k) (bX bs n1)=hi at*
   generalize bX bs k=x at*
   generalize bX bs n1=y at*
   obtain ⟨f,hf⟩:∃f,lo.floor=f:=⟨_,rfl⟩
   rw [hf]at HBS hfl
   have HF:=Lib.hid hf
   have HN1:=Lib.hid hn1
   have i0:(0:Int)≤(k:Int):=by omega
   have i1:(k:Int) < (bs.length:Int):=by omega
   have i3:(0:Int)≤(n1:Int):=by omega
   have i4:(n1:Int) < (bs.length:Int):=by omega
   have i5:IntKind.i64.wrap (f - d)=f - d:=IntWalk.i64_in _ (by omega)
   have i6:IntKind.i64.wrap f=f:=IntWalk.i64_in _ (by omega)
   clear hn1 hf
   go_upto_region 5 with fail
   go_cut [10,11,12] (fun s10 s11 s12 wx=>∃ (b12 b13:Nat) (a5:Option Addr) (n5 c5:Nat) (m5:Bool) (d5:Option Addr) (e5 f5:Nat) (a6:Option Addr) (n6 c6:Nat) (m6:Bool) (d6:Option Addr) (e6 f6:Nat),s10= .pointer (some ⟨b12,0,none⟩)∧s11= .pointer (some ⟨b13,0,none⟩)∧s12= .int .i64 0∧Hid (Sy w wx [(w.heap.size,#[.slice none 0 0,.bool false,.slice none 0 0],42),(b12,#[.slice a5 n5 c5,.bool m5,.slice d5 e5 f5],42),(b13,#[.slice a6 n6 c6,.bool m6,.slice d6 e6 f6],42)] [⟨.slice a8 k c8,3,1,k,L1 ((baseL l bs d).take k)⟩] [(fun V=>Rd V (.slice a5 n5 c5) m5 (.slice d5 e5 f5) (lo)),(fun V=>Rd V (.slice a6 n6 c6) m6 (.slice d6 e6 f6) (hi))]))
   case first=>
    have HSL:∀V ex os rs,Sy w V ([(w.heap.size,#[.slice none 0 0,.bool false,.slice none 0 0],42)]++ex) os rs→(fun w'=>w'.cell? ⟨gb,ob+k,none⟩=some (.int .i64 x)∧w'.cell? ⟨gb,ob+n1,none⟩=some (.int .i64 y)∧True) V:=fun V ex os rs hX=>⟨(HX.out _ hX.be),(HY.out _ hX.be),trivial⟩
    refine wp_region_held_drew (S:=(fun w'=>w'.cell? ⟨gb,ob+k,none⟩=some (.int .i64 x)∧w'.cell? ⟨gb,ob+n1,none⟩=some (.int .i64 y)∧True)) (by kernel_rfl) ⟨(HX.out _ hS.out.drew.be),(HY.out _ hS.out.drew.be),trivial⟩ (fun hH=>?_)
    refine wpAnyH_geny (show Sy w _ [(w.heap.size,#[.slice none 0 0,.bool false,.slice none 0 0],42)] [⟨.slice a8 k c8,3,1,k,L1 ((baseL l bs d).take k)⟩] []from hS.out.drew) hH ?_
    intro VA_0 hc hHA_0
    have hVA_0:=Lib.hid hc
    clear hc hH hS
    refine tkL 0 ?_ rfl hHA_0 ?_ ?_;rotate_left
    ·intro wS hSw;(try dsimp only at hSw);go_simp;try with_reducible rfl
    try simp only [Act.put,zI,z0,zS]
    refine tkL 1 ?_ rfl hHA_0 ?_ ?_;rotate_left
    ·intro wS hSw;(try dsimp only at hSw);go_simp;try with_reducible rfl
    try simp only [Act.put,zI,z0,zS]
    refine tkL 2 ?_ rfl hHA_0 ?_ ?_;rotate_left
    ·intro wS hSw;(try dsimp only at hSw);go_simp;try with_reducible rfl
    try simp only [Act.put,zI,z0,zS]
    refine tkL 3 ?_ rfl hHA_0 ?_ ?_;rotate_left
    ·intro wS hSw;(try dsimp only at hSw);go_simp;try with_reducible rfl
    try simp only [Act.put,zI,z0,zS]
    refine tkL 4 ?_ rfl hHA_0 ?_ ?_;rotate_left
    ·intro wS hSw;(try dsimp only at hSw);go_simp;try with_reducible rfl
    try simp only [Act.put,zI,z0,zS]
    refine tkL 5 ?_ rfl hHA_0 ?_ ?_;rotate_left
    ·intro wS hSw;(try dsimp only at hSw);go_simp;try with_reducible rfl
    try simp only [Act.put,zI,z0,zS]
    refine tkL 6 ?_ rfl hHA_0 ?_ ?_;rotate_left
    ·intro wS hSw;(try dsimp only at hSw);go_simp;try with_reducible rfl
    try simp only [Act.put,zI,z0,zS]
    refine tkL 7 ?_ rfl hHA_0 ?_ ?_;rotate_left
    ·intro wS hSw;(try dsimp only at hSw);go_simp;try with_reducible rfl
    try simp only [Act.put,zI,z0,zS]
    refine tkL 8 ?_ rfl hHA_0 ?_ ?_;rotate_left
    ·intro wS hSw;(try dsimp only at hSw);go_simp;try with_reducible rfl
    try simp only [Act.put,zI,z0,zS]
    refine tkL 9 ?_ rfl hHA_0 ?_ ?_;rotate_left
    ·intro wS hSw;(try dsimp only at hSw);go_simp;try with_reducible rfl
    try simp only [Act.put,zI,z0,zS]
    refine wpAnyH_ready (rs:=[10,15,16]) (by kernel_rfl) (by simp) ?_
    refine AllReadyH.cons (o:=⟨_,_,_,_,_,_⟩) rfl (fun Kq hKq=>?_) ?_
    ·go_simp
     go_at_call 51
     refine(HC.out _ hVA_0.out.be).mono ?_
     rintro e wT ⟨a5,n5,c5,m5,d5,e5,f5,a6,n6,c6,m6,d6,e6,f6,rfl,hz1,hz2,hb⟩
     (try go_wp2_with fail)
     refine stepY hKq (((hVA_0.out.call hb).pR rfl rfl hz1).pR rfl rfl hz2) (fun _ hX=>HSL _ _ _ _ hX) ?_
     intro VA_1 hc hHA_1
     have hVA_1:=Lib.hid hc
     clear hc hKq Kq hVA_0 hb hz1 hz2 hHA_0
     try simp only [Act.put,zI,z0,zS]
     refine tkL 11 ?_ rfl hHA_1 ?_ ?_;rotate_left
     ·intro wS hSw;(try dsimp only at hSw);go_simp;try with_reducible rfl
     try simp only [Act.put,zI,z0,zS]
     refine tkL 12 ?_ rfl hHA_1 ?_ ?_;rotate_left
     ·intro wS hSw;(try dsimp only at hSw);go_simp;try with_reducible rfl
     try simp only [Act.put,zI,z0,zS]
     refine tkL 13 ?_ rfl hHA_1 ?_ ?_;rotate_left
     ·intro wS hSw;(try dsimp only at hSw);go_simp;try with_reducible rfl
     try simp only [Act.put,zI,z0,zS]
     refine tkL 14 ?_ rfl hHA_1 ?_ ?_;rotate_left
     ·intro wS hSw;(try dsimp only at hSw);go_simp;try with_reducible rfl
     try simp only [Act.put,zI,z0,zS]
     refine wpAnyH_ready (rs:=[15,16]) (by kernel_rfl) (by simp) ?_
     refine AllReadyH.cons (o:=⟨_,_,_,_,_,_⟩) rfl (fun Kq hKq=>?_) ?_
     ·go_simp
      refine stepY hKq (hVA_1.out.al VA_1.heap.size #[.slice none 0 0,.bool false,.slice none 0 0] 42 rfl) (fun _ hX=>HSL _ _ _ _ hX) ?_
      intro VA_2 hc hHA_2
      have hVA_2:=Lib.hid hc
      clear hc hKq Kq hVA_1 hHA_1
      try simp only [Act.put,zI,z0,zS]
      refine rdy1 16 rfl (fun Kq hKq=>?_)
      go_simp
      refine stepY hKq (hVA_2.out.al VA_2.heap.size #[.slice none 0 0,.bool false,.slice none 0 0] 42 rfl) (fun _ hX=>HSL _ _ _ _ hX) ?_
      intro VA_3 hc hHA_3
      have hVA_3:=Lib.hid hc
      clear hc hKq Kq hVA_2 hHA_2
      try simp only [Act.put,zI,z0,zS]
      refine rdy1 17 rfl (fun Kq hKq=>?_)
      have cQ0:=hVA_3.out.cell 1 0 rfl rfl
      have fQ0:=hVA_3.out.free 1 0 rfl
      have cQ1:=hVA_3.out.cell 1 1 rfl rfl
      have fQ1:=hVA_3.out.free 1 1 rfl
      have cQ2:=hVA_3.out.cell 1 2 rfl rfl
      have fQ2:=hVA_3.out.free 1 2 rfl
      go_simp
      refine stepY hKq (hVA_3.out|>.set (j:=0) (v:= .slice a5 n5 c5) 1 rfl|>.set (j:=1) (v:= .bool m5) 1 rfl|>.set (j:=2) (v:= .slice d5 e5 f5) 1 rfl) (fun _ hX=>HSL _ _ _ _ hX) ?_
      intro VA_4 hc hHA_4
      have hVA_4:=Lib.hid hc
      clear hc hKq Kq hVA_3 cQ0 fQ0 cQ1 fQ1 cQ2 fQ2 hHA_3
      try simp only [Act.put]
      refine rdy1 18 rfl (fun Kq hKq=>?_)
      have cQ0:=hVA_4.out.cell 2 0 rfl rfl
      have fQ0:=hVA_4.out.free 2 0 rfl
      have cQ1:=hVA_4.out.cell 2 1 rfl rfl
      have fQ1:=hVA_4.out.free 2 1 rfl
      have cQ2:=hVA_4.out.cell 2 2 rfl rfl
      have fQ2:=hVA_4.out.free 2 2 rfl
      go_simp
      refine stepY hKq (hVA_4.out|>.set (j:=0) (v:= .slice a6 n6 c6) 2 rfl|>.set (j:=1) (v:= .bool m6) 2 rfl|>.set (j:=2) (v:= .slice d6 e6 f6) 2 rfl) (fun _ hX=>HSL _ _ _ _ hX) ?_
      intro VA_5 hc hHA_5
      have hVA_5:=Lib.hid hc
      clear hc hKq Kq hVA_4 cQ0 fQ0 cQ1 fQ1 cQ2 fQ2 hHA_4
      try simp only [Act.put]
      refine rdy1 19 rfl (fun Kq hKq=>?_)
      go_simp
      refine stepY hKq hVA_5.out (fun _ hX=>HSL _ _ _ _ hX) ?_
      intro VA_6 hc hHA_6
      have hVA_6:=Lib.hid hc
      clear hc hKq Kq hVA_5 hHA_5
      try simp only [Act.put,zI,z0,zS]
      refine wpAnyH_done (by kernel_rfl) ?_ _
      go_wp2
      go_meet
      case rel=>exact⟨_,_,_,_,_,_,_,_,_,_,_,_,_,_,_,_,rfl,rfl,rfl,Lib.hid hVA_6.out⟩
     refine AllReadyH.cons (o:=⟨_,_,_,_,_,_⟩) rfl (fun Kq hKq=>?_) ?_
     ·go_simp
      refine stepY hKq (hVA_1.out.al VA_1.heap.size #[.slice none 0 0,.bool false,.slice none 0 0] 42 rfl) (fun _ hX=>HSL _ _ _ _ hX) ?_
      intro VA_2 hc hHA_2
      have hVA_2:=Lib.hid hc
      clear hc hKq Kq hVA_1 hHA_1
      try simp only [Act.put,zI,z0,zS]
      refine rdy1 15 rfl (fun Kq hKq=>?_)
      go_simp
      refine stepY hKq (hVA_2.out.al VA_2.heap.size #[.slice none 0 0,.bool false,.slice none 0 0] 42 rfl) (fun _ hX=>HSL _ _ _ _ hX) ?_
      intro VA_3 hc hHA_3
      have hVA_3:=Lib.hid hc
      clear hc hKq Kq hVA_2 hHA_2
      try simp only [Act.put,zI,z0,zS]
      refine rdy1 17 rfl (fun Kq hKq=>?_)
      have cQ0:=hVA_3.out.cell 2 0 rfl rfl
      have fQ0:=hVA_3.out.free 2 0 rfl
      have cQ1:=hVA_3.out.cell 2 1 rfl rfl
      have fQ1:=hVA_3.out.free 2 1 rfl
      have cQ2:=hVA_3.out.cell 2 2 rfl rfl
      have fQ2:=hVA_3.out.free 2 2 rfl
      go_simp
      refine stepY hKq (hVA_3.out|>.set (j:=0) (v:= .slice a5 n5 c5) 2 rfl|>.set (j:=1) (v:= .bool m5) 2 rfl|>.set (j:=2) (v:= .slice d5 e5 f5) 2 rfl) (fun _ hX=>HSL _ _ _ _ hX) ?_
      intro VA_4 hc hHA_4
      have hVA_4:=Lib.hid hc
      clear hc hKq Kq hVA_3 cQ0 fQ0 cQ1 fQ1 cQ2 fQ2 hHA_3
      try simp only [Act.put]
      refine rdy1 18 rfl (fun Kq hKq=>?_)
      have cQ0:=hVA_4.out.cell 1 0 rfl rfl
      have fQ0:=hVA_4.out.free 1 0 rfl
      have cQ1:=hVA_4.out.cell 1 1 rfl rfl
      have fQ1:=hVA_4.out.free 1 1 rfl
      have cQ2:=hVA_4.out.cell 1 2 rfl rfl
      have fQ2:=hVA_4.out.free 1 2 rfl
      go_simp
      refine stepY hKq (hVA_4.out|>.set (j:=0) (v:= .slice a6 n6 c6) 1 rfl|>.set (j:=1) (v:= .bool m6) 1 rfl|>.set (j:=2) (v:= .slice d6 e6 f6) 1 rfl) (fun _ hX=>HSL _ _ _ _ hX) ?_
      intro VA_5 hc hHA_5
      have hVA_5:=Lib.hid hc
      clear hc hKq Kq hVA_4 cQ0 fQ0 cQ1 fQ1 cQ2 fQ2 hHA_4
      try simp only [Act.put]
      refine rdy1 19 rfl (fun Kq hKq=>?_)
      go_simp
      refine stepY hKq hVA_5.out (fun _ hX=>HSL _ _ _ _ hX) ?_
      intro VA_6 hc hHA_6
      have hVA_6:=Lib.hid hc
      clear hc hKq Kq hVA_5 hHA_5
      try simp only [Act.put,zI,z0,zS]
      refine wpAnyH_done (by kernel_rfl) ?_ _
      go_wp2
      go_meet
      case rel=>exact⟨_,_,_,_,_,_,_,_,_,_,_,_,_,_,_,_,rfl,rfl,rfl,Lib.hid (hVA_6.out.bperm (perm_132 _ _ _))⟩
     exact AllReadyH.nil
    refine AllReadyH.cons (o:=⟨_,_,_,_,_,_⟩) rfl (fun Kq hKq=>?_) ?_
    ·go_simp
     refine stepY hKq (hVA_0.out.al VA_0.heap.size #[.slice none 0 0,.bool false,.slice none 0 0] 42 rfl) (fun _ hX=>HSL _ _ _ _ hX) ?_
     intro VA_1 hc hHA_1
     have hVA_1:=Lib.hid hc
     clear hc hKq Kq hVA_0 hHA_0
     try simp only [Act.put,zI,z0,zS]
     refine wpAnyH_ready (rs:=[10,16]) (by kernel_rfl) (by simp) ?_
     refine AllReadyH.cons (o:=⟨_,_,_,_,_,_⟩) rfl (fun Kq hKq=>?_) ?_
     ·go_simp
      go_at_call 51
      refine(HC.out _ hVA_1.out.be).mono ?_
      rintro e wT ⟨a5,n5,c5,m5,d5,e5,f5,a6,n6,c6,m6,d6,e6,f6,rfl,hz1,hz2,hb⟩
      (try go_wp2_with fail)
      refine stepY hKq (((hVA_1.out.call hb).pR rfl rfl hz1).pR rfl rfl hz2) (fun _ hX=>HSL _ _ _ _ hX) ?_
      intro VA_2 hc hHA_2
      have hVA_2:=Lib.hid hc
      clear hc hKq Kq hVA_1 hb hz1 hz2 hHA_1
      try simp only [Act.put,zI,z0,zS]
      refine tkL 11 ?_ rfl hHA_2 ?_ ?_;rotate_left
      ·intro wS hSw;(try dsimp only at hSw);go_simp;try with_reducible rfl
      try simp only [Act.put,zI,z0,zS]
      refine tkL 12 ?_ rfl hHA_2 ?_ ?_;rotate_left
      ·intro wS hSw;(try dsimp only at hSw);go_simp;try with_reducible rfl
      try simp only [Act.put,zI,z0,zS]
      refine tkL 13 ?_ rfl hHA_2 ?_ ?_;rotate_left
      ·intro wS hSw;(try dsimp only at hSw);go_simp;try with_reducible rfl
      try simp only [Act.put,zI,z0,zS]
      refine tkL 14 ?_ rfl hHA_2 ?_ ?_;rotate_left
      ·intro wS hSw;(try dsimp only at hSw);go_simp;try with_reducible rfl
      try simp only [Act.put,zI,z0,zS]
      refine rdy1 16 rfl (fun Kq hKq=>?_)
      go_simp
      refine stepY hKq (hVA_2.out.al VA_2.heap.size #[.slice none 0 0,.bool false,.slice none 0 0] 42 rfl) (fun _ hX=>HSL _ _ _ _ hX) ?_
      intro VA_3 hc hHA_3
      have hVA_3:=Lib.hid hc
      clear hc hKq Kq hVA_2 hHA_2
      try simp only [Act.put,zI,z0,zS]
      refine rdy1 17 rfl (fun Kq hKq=>?_)
      have cQ0:=hVA_3.out.cell 1 0 rfl rfl
      have fQ0:=hVA_3.out.free 1 0 rfl
      have cQ1:=hVA_3.out.cell 1 1 rfl rfl
      have fQ1:=hVA_3.out.free 1 1 rfl
      have cQ2:=hVA_3.out.cell 1 2 rfl rfl
      have fQ2:=hVA_3.out.free 1 2 rfl
      go_simp
      refine stepY hKq (hVA_3.out|>.set (j:=0) (v:= .slice a5 n5 c5) 1 rfl|>.set (j:=1) (v:= .bool m5) 1 rfl|>.set (j:=2) (v:= .slice d5 e5 f5) 1 rfl) (fun _ hX=>HSL _ _ _ _ hX) ?_
      intro VA_4 hc hHA_4
      have hVA_4:=Lib.hid hc
      clear hc hKq Kq hVA_3 cQ0 fQ0 cQ1 fQ1 cQ2 fQ2 hHA_3
      try simp only [Act.put]
      refine rdy1 18 rfl (fun Kq hKq=>?_)
      have cQ0:=hVA_4.out.cell 2 0 rfl rfl
      have fQ0:=hVA_4.out.free 2 0 rfl
      have cQ1:=hVA_4.out.cell 2 1 rfl rfl
      have fQ1:=hVA_4.out.free 2 1 rfl
      have cQ2:=hVA_4.out.cell 2 2 rfl rfl
      have fQ2:=hVA_4.out.free 2 2 rfl
      go_simp
      refine stepY hKq (hVA_4.out|>.set (j:=0) (v:= .slice a6 n6 c6) 2 rfl|>.set (j:=1) (v:= .bool m6) 2 rfl|>.set (j:=2) (v:= .slice d6 e6 f6) 2 rfl) (fun _ hX=>HSL _ _ _ _ hX) ?_
      intro VA_5 hc hHA_5
      have hVA_5:=Lib.hid hc
      clear hc hKq Kq hVA_4 cQ0 fQ0 cQ1 fQ1 cQ2 fQ2 hHA_4
      try simp only [Act.put]
      refine rdy1 19 rfl (fun Kq hKq=>?_)
      go_simp
      refine stepY hKq hVA_5.out (fun _ hX=>HSL _ _ _ _ hX) ?_
      intro VA_6 hc hHA_6
      have hVA_6:=Lib.hid hc
      clear hc hKq Kq hVA_5 hHA_5
      try simp only [Act.put,zI,z0,zS]
      refine wpAnyH_done (by kernel_rfl) ?_ _
      go_wp2
      go_meet
      case rel=>exact⟨_,_,_,_,_,_,_,_,_,_,_,_,_,_,_,_,rfl,rfl,rfl,Lib.hid hVA_6.out⟩
     refine AllReadyH.cons (o:=⟨_,_,_,_,_,_⟩) rfl (fun Kq hKq=>?_) ?_
     ·go_simp
      refine stepY hKq (hVA_1.out.al VA_1.heap.size #[.slice none 0 0,.bool false,.slice none 0 0] 42 rfl) (fun _ hX=>HSL _ _ _ _ hX) ?_
      intro VA_2 hc hHA_2
      have hVA_2:=Lib.hid hc
      clear hc hKq Kq hVA_1 hHA_1
      try simp only [Act.put,zI,z0,zS]
      refine rdy1 10 rfl (fun Kq hKq=>?_)
      go_simp
      go_at_call 51
      refine(HC.out _ hVA_2.out.be).mono ?_
      rintro e wT ⟨a5,n5,c5,m5,d5,e5,f5,a6,n6,c6,m6,d6,e6,f6,rfl,hz1,hz2,hb⟩
      (try go_wp2_with fail)
      refine stepY hKq (((hVA_2.out.call hb).pR rfl rfl hz1).pR rfl rfl hz2) (fun _ hX=>HSL _ _ _ _ hX) ?_
      intro VA_3 hc hHA_3
      have hVA_3:=Lib.hid hc
      clear hc hKq Kq hVA_2 hb hz1 hz2 hHA_2
      try simp only [Act.put,zI,z0,zS]
      refine tkL 11 ?_ rfl hHA_3 ?_ ?_;rotate_left
      ·intro wS hSw;(try dsimp only at hSw);go_simp;try with_reducible rfl
      try simp only [Act.put,zI,z0,zS]
      refine tkL 12 ?_ rfl hHA_3 ?_ ?_;rotate_left
      ·intro wS hSw;(try dsimp only at hSw);go_simp;try with_reducible rfl
      try simp only [Act.put,zI,z0,zS]
      refine tkL 13 ?_ rfl hHA_3 ?_ ?_;rotate_left
      ·intro wS hSw;(try dsimp only at hSw);go_simp;try with_reducible rfl
      try simp only [Act.put,zI,z0,zS]
      refine tkL 14 ?_ rfl hHA_3 ?_ ?_;rotate_left
      ·intro wS hSw;(try dsimp only at hSw);go_simp;try with_reducible rfl
      try simp only [Act.put,zI,z0,zS]
      refine rdy1 17 rfl (fun Kq hKq=>?_)
      have cQ0:=hVA_3.out.cell 1 0 rfl rfl
      have fQ0:=hVA_3.out.free 1 0 rfl
      have cQ1:=hVA_3.out.cell 1 1 rfl rfl
      have fQ1:=hVA_3.out.free 1 1 rfl
      have cQ2:=hVA_3.out.cell 1 2 rfl rfl
      have fQ2:=hVA_3.out.free 1 2 rfl
      go_simp
      refine stepY hKq (hVA_3.out|>.set (j:=0) (v:= .slice a5 n5 c5) 1 rfl|>.set (j:=1) (v:= .bool m5) 1 rfl|>.set (j:=2) (v:= .slice d5 e5 f5) 1 rfl) (fun _ hX=>HSL _ _ _ _ hX) ?_
      intro VA_4 hc hHA_4
      have hVA_4:=Lib.hid hc
      clear hc hKq Kq hVA_3 cQ0 fQ0 cQ1 fQ1 cQ2 fQ2 hHA_3
      try simp only [Act.put]
      refine rdy1 18 rfl (fun Kq hKq=>?_)
      have cQ0:=hVA_4.out.cell 2 0 rfl rfl
      have fQ0:=hVA_4.out.free 2 0 rfl
      have cQ1:=hVA_4.out.cell 2 1 rfl rfl
      have fQ1:=hVA_4.out.free 2 1 rfl
      have cQ2:=hVA_4.out.cell 2 2 rfl rfl
      have fQ2:=hVA_4.out.free 2 2 rfl
      go_simp
      refine stepY hKq (hVA_4.out|>.set (j:=0) (v:= .slice a6 n6 c6) 2 rfl|>.set (j:=1) (v:= .bool m6) 2 rfl|>.set (j:=2) (v:= .slice d6 e6 f6) 2 rfl) (fun _ hX=>HSL _ _ _ _ hX) ?_
      intro VA_5 hc hHA_5
      have hVA_5:=Lib.hid hc
      clear hc hKq Kq hVA_4 cQ0 fQ0 cQ1 fQ1 cQ2 fQ2 hHA_4
      try simp only [Act.put]
      refine rdy1 19 rfl (fun Kq hKq=>?_)
      go_simp
      refine stepY hKq hVA_5.out (fun _ hX=>HSL _ _ _ _ hX) ?_
      intro VA_6 hc hHA_6
      have hVA_6:=Lib.hid hc
      clear hc hKq Kq hVA_5 hHA_5
      try simp only [Act.put,zI,z0,zS]
      refine wpAnyH_done (by kernel_rfl) ?_ _
      go_wp2
      go_meet
      case rel=>exact⟨_,_,_,_,_,_,_,_,_,_,_,_,_,_,_,_,rfl,rfl,rfl,Lib.hid hVA_6.out⟩
     exact AllReadyH.nil
    refine AllReadyH.cons (o:=⟨_,_,_,_,_,_⟩) rfl (fun Kq hKq=>?_) ?_
    ·go_simp
     refine stepY hKq (hVA_0.out.al VA_0.heap.size #[.slice none 0 0,.bool false,.slice none 0 0] 42 rfl) (fun _ hX=>HSL _ _ _ _ hX) ?_
     intro VA_1 hc hHA_1
     have hVA_1:=Lib.hid hc
     clear hc hKq Kq hVA_0 hHA_0
     try simp only [Act.put,zI,z0,zS]
     refine wpAnyH_ready (rs:=[10,15]) (by kernel_rfl) (by simp) ?_
     refine AllReadyH.cons (o:=⟨_,_,_,_,_,_⟩) rfl (fun Kq hKq=>?_) ?_
     ·go_simp
      go_at_call 51
      refine(HC.out _ hVA_1.out.be).mono ?_
      rintro e wT ⟨a5,n5,c5,m5,d5,e5,f5,a6,n6,c6,m6,d6,e6,f6,rfl,hz1,hz2,hb⟩
      (try go_wp2_with fail)
      refine stepY hKq (((hVA_1.out.call hb).pR rfl rfl hz1).pR rfl rfl hz2) (fun _ hX=>HSL _ _ _ _ hX) ?_
      intro VA_2 hc hHA_2
      have hVA_2:=Lib.hid hc
      clear hc hKq Kq hVA_1 hb hz1 hz2 hHA_1
      try simp only [Act.put,zI,z0,zS]
      refine tkL 11 ?_ rfl hHA_2 ?_ ?_;rotate_left
      ·intro wS hSw;(try dsimp only at hSw);go_simp;try with_reducible rfl
      try simp only [Act.put,zI,z0,zS]
      refine tkL 12 ?_ rfl hHA_2 ?_ ?_;rotate_left
      ·intro wS hSw;(try dsimp only at hSw);go_simp;try with_reducible rfl
      try simp only [Act.put,zI,z0,zS]
      refine tkL 13 ?_ rfl hHA_2 ?_ ?_;rotate_left
      ·intro wS hSw;(try dsimp only at hSw);go_simp;try with_reducible rfl
      try simp only [Act.put,zI,z0,zS]
      refine tkL 14 ?_ rfl hHA_2 ?_ ?_;rotate_left
      ·intro wS hSw;(try dsimp only at hSw);go_simp;try with_reducible rfl
      try simp only [Act.put,zI,z0,zS]
      refine rdy1 15 rfl (fun Kq hKq=>?_)
      go_simp
      refine stepY hKq (hVA_2.out.al VA_2.heap.size #[.slice none 0 0,.bool false,.slice none 0 0] 42 rfl) (fun _ hX=>HSL _ _ _ _ hX) ?_
      intro VA_3 hc hHA_3
      have hVA_3:=Lib.hid hc
      clear hc hKq Kq hVA_2 hHA_2
      try simp only [Act.put,zI,z0,zS]
      refine rdy1 17 rfl (fun Kq hKq=>?_)
      have cQ0:=hVA_3.out.cell 2 0 rfl rfl
      have fQ0:=hVA_3.out.free 2 0 rfl
      have cQ1:=hVA_3.out.cell 2 1 rfl rfl
      have fQ1:=hVA_3.out.free 2 1 rfl
      have cQ2:=hVA_3.out.cell 2 2 rfl rfl
      have fQ2:=hVA_3.out.free 2 2 rfl
      go_simp
      refine stepY hKq (hVA_3.out|>.set (j:=0) (v:= .slice a5 n5 c5) 2 rfl|>.set (j:=1) (v:= .bool m5) 2 rfl|>.set (j:=2) (v:= .slice d5 e5 f5) 2 rfl) (fun _ hX=>HSL _ _ _ _ hX) ?_
      intro VA_4 hc hHA_4
      have hVA_4:=Lib.hid hc
      clear hc hKq Kq hVA_3 cQ0 fQ0 cQ1 fQ1 cQ2 fQ2 hHA_3
      try simp only [Act.put]
      refine rdy1 18 rfl (fun Kq hKq=>?_)
      have cQ0:=hVA_4.out.cell 1 0 rfl rfl
      have fQ0:=hVA_4.out.free 1 0 rfl
      have cQ1:=hVA_4.out.cell 1 1 rfl rfl
      have fQ1:=hVA_4.out.free 1 1 rfl
      have cQ2:=hVA_4.out.cell 1 2 rfl rfl
      have fQ2:=hVA_4.out.free 1 2 rfl
      go_simp
      refine stepY hKq (hVA_4.out|>.set (j:=0) (v:= .slice a6 n6 c6) 1 rfl|>.set (j:=1) (v:= .bool m6) 1 rfl|>.set (j:=2) (v:= .slice d6 e6 f6) 1 rfl) (fun _ hX=>HSL _ _ _ _ hX) ?_
      intro VA_5 hc hHA_5
      have hVA_5:=Lib.hid hc
      clear hc hKq Kq hVA_4 cQ0 fQ0 cQ1 fQ1 cQ2 fQ2 hHA_4
      try simp only [Act.put]
      refine rdy1 19 rfl (fun Kq hKq=>?_)
      go_simp
      refine stepY hKq hVA_5.out (fun _ hX=>HSL _ _ _ _ hX) ?_
      intro VA_6 hc hHA_6
      have hVA_6:=Lib.hid hc
      clear hc hKq Kq hVA_5 hHA_5
      try simp only [Act.put,zI,z0,zS]
      refine wpAnyH_done (by kernel_rfl) ?_ _
      go_wp2
      go_meet
      case rel=>exact⟨_,_,_,_,_,_,_,_,_,_,_,_,_,_,_,_,rfl,rfl,rfl,Lib.hid (hVA_6.out.bperm (perm_132 _ _ _))⟩
     refine AllReadyH.cons (o:=⟨_,_,_,_,_,_⟩) rfl (fun Kq hKq=>?_) ?_
     ·go_simp
      refine stepY hKq (hVA_1.out.al VA_1.heap.size #[.slice none 0 0,.bool false,.slice none 0 0] 42 rfl) (fun _ hX=>HSL _ _ _ _ hX) ?_
      intro VA_2 hc hHA_2
      have hVA_2:=Lib.hid hc
      clear hc hKq Kq hVA_1 hHA_1
      try simp only [Act.put,zI,z0,zS]
      refine rdy1 10 rfl (fun Kq hKq=>?_)
      go_simp
      go_at_call 51
      refine(HC.out _ hVA_2.out.be).mono ?_
      rintro e wT ⟨a5,n5,c5,m5,d5,e5,f5,a6,n6,c6,m6,d6,e6,f6,rfl,hz1,hz2,hb⟩
      (try go_wp2_with fail)
      refine stepY hKq (((hVA_2.out.call hb).pR rfl rfl hz1).pR rfl rfl hz2) (fun _ hX=>HSL _ _ _ _ hX) ?_
      intro VA_3 hc hHA_3
      have hVA_3:=Lib.hid hc
      clear hc hKq Kq hVA_2 hb hz1 hz2 hHA_2
      try simp only [Act.put,zI,z0,zS]
      refine tkL 11 ?_ rfl hHA_3 ?_ ?_;rotate_left
      ·intro wS hSw;(try dsimp only at hSw);go_simp;try with_reducible rfl
      try simp only [Act.put,zI,z0,zS]
      refine tkL 12 ?_ rfl hHA_3 ?_ ?_;rotate_left
      ·intro wS hSw;(try dsimp only at hSw);go_simp;try with_reducible rfl
      try simp only [Act.put,zI,z0,zS]
      refine tkL 13 ?_ rfl hHA_3 ?_ ?_;rotate_left
      ·intro wS hSw;(try dsimp only at hSw);go_simp;try with_reducible rfl
      try simp only [Act.put,zI,z0,zS]
      refine tkL 14 ?_ rfl hHA_3 ?_ ?_;rotate_left
      ·intro wS hSw;(try dsimp only at hSw);go_simp;try with_reducible rfl
      try simp only [Act.put,zI,z0,zS]
      refine rdy1 17 rfl (fun Kq hKq=>?_)
      have cQ0:=hVA_3.out.cell 2 0 rfl rfl
      have fQ0:=hVA_3.out.free 2 0 rfl
      have cQ1:=hVA_3.out.cell 2 1 rfl rfl
      have fQ1:=hVA_3.out.free 2 1 rfl
      have cQ2:=hVA_3.out.cell 2 2 rfl rfl
      have fQ2:=hVA_3.out.free 2 2 rfl
      go_simp
      refine stepY hKq (hVA_3.out|>.set (j:=0) (v:= .slice a5 n5 c5) 2 rfl|>.set (j:=1) (v:= .bool m5) 2 rfl|>.set (j:=2) (v:= .slice d5 e5 f5) 2 rfl) (fun _ hX=>HSL _ _ _ _ hX) ?_
      intro VA_4 hc hHA_4
      have hVA_4:=Lib.hid hc
      clear hc hKq Kq hVA_3 cQ0 fQ0 cQ1 fQ1 cQ2 fQ2 hHA_3
      try simp only [Act.put]
      refine rdy1 18 rfl (fun Kq hKq=>?_)
      have cQ0:=hVA_4.out.cell 1 0 rfl rfl
      have fQ0:=hVA_4.out.free 1 0 rfl
      have cQ1:=hVA_4.out.cell 1 1 rfl rfl
      have fQ1:=hVA_4.out.free 1 1 rfl
      have cQ2:=hVA_4.out.cell 1 2 rfl rfl
      have fQ2:=hVA_4.out.free 1 2 rfl
      go_simp
      refine stepY hKq (hVA_4.out|>.set (j:=0) (v:= .slice a6 n6 c6) 1 rfl|>.set (j:=1) (v:= .bool m6) 1 rfl|>.set (j:=2) (v:= .slice d6 e6 f6) 1 rfl) (fun _ hX=>HSL _ _ _ _ hX) ?_
      intro VA_5 hc hHA_5
      have hVA_5:=Lib.hid hc
      clear hc hKq Kq hVA_4 cQ0 fQ0 cQ1 fQ1 cQ2 fQ2 hHA_4
      try simp only [Act.put]
      refine rdy1 19 rfl (fun Kq hKq=>?_)
      go_simp
      refine stepY hKq hVA_5.out (fun _ hX=>HSL _ _ _ _ hX) ?_
      intro VA_6 hc hHA_6
      have hVA_6:=Lib.hid hc
      clear hc hKq Kq hVA_5 hHA_5
      try simp only [Act.put,zI,z0,zS]
      refine wpAnyH_done (by kernel_rfl) ?_ _
      go_wp2
      go_meet
      case rel=>exact⟨_,_,_,_,_,_,_,_,_,_,_,_,_,_,_,_,rfl,rfl,rfl,Lib.hid (hVA_6.out.bperm (perm_132 _ _ _))⟩
     exact AllReadyH.nil
    exact AllReadyH.nil
   case rest=>
    clear hS HX HY HC
    obtain ⟨b12,b13,a5,n5,c5,m5,d5,e5,f5,a6,n6,c6,m6,d6,e6,f6,rfl,rfl,rfl,hS⟩:=hcut
    have x0:=hS.out.cell 1 0 rfl rfl
    have x1:=hS.out.cell 1 1 rfl rfl
    have x2:=hS.out.cell 1 2 rfl rfl
    have HI:=Lib.hid (show i64res f=(f,true)from by unfold i64res;rw [if_pos (by omega)])
    have HBF:=Lib.hid (show Bd 20 f from by unfold Bd;omega)
    go_wp2_with fail
    refine(rfloor_b (hS.out.r 0 rfl) QB.out (by omega)).mono ?_
    rintro e w3 ⟨a7,n7,c7,m7,rfl,hz,hb⟩
    rw [HF.out]at hz
    have hH:=Lib.hid ((hS.out.call hb).pZ rfl rfl hz)
    clear hb hz hS x0 x1 x2
    go_wp2_with fail
    refine(int64_any _ _ _ _ f _ (hH.out.r 2 rfl) 20 HBF.out (by omega)).mono ?_
    rintro e w4 ⟨rfl,hb⟩
    rw [HI.out]
    have hJ:=Lib.hid ((((hH.out.call hb).thin (bs':=[(w.heap.size,#[.slice none 0 0,.bool false,.slice none 0 0],42)]) (List.sublist_append_left [_] _) (List.Sublist.refl _)).pick [] (rs':=[]) rfl))
    clear hb hH
    go_upto_region 9 with fail
    go_wp2_with (refine wpList_append_sy (o:=⟨some 57,_,_,_,_,_⟩) rfl (hJ.out.onew _ #[.int .i64 (f - d)] 3 1 1 rfl (by omega) rfl) 0 1 rfl rfl _ _ _ rfl und_hint info_hint rfl (by omega) rfl rfl (by intro u hu;simp at hu;rcases hu with rfl;rfl) (by omega) (by omega) (fun a9 c9 V hV=>?_))
    have hK:=Lib.hid (show Sy w _ [(w.heap.size,#[.slice none 0 0,.bool false,.slice none 0 0],42)] [⟨.slice a9 n1 c9,3,1,n1,L1 ((baseL l bs d).take n1)⟩] []from by have h:=hV.thin (bs':=[(w.heap.size,#[.slice none 0 0,.bool false,.slice none 0 0],42)]) (List.Sublist.refl _) (tkSub 1 _ rfl);rw [HBS.out];obtain rfl:=HN1.out;exact h)
    clear hV hJ
    go_wp2
    go_roundw
    case rel=>exact⟨n1,a9,c9,by omega,by rw [HN1.out],rfl,hK⟩
    case measure=>have:=HN1.out;simp [intOf];omega
  ·have hkl:k=bs.length - 1:=by omega
   have HT:=Lib.hid (show(baseL l bs d).take k=baseL l bs d from by rw [hkl,←HLN.out,List.take_length])
   rw [HT.out]at hS
   have hd0:=Lib.hid hkl
   clear hkl
   go_wp2_with fail
   refine(HDG.out _ hS.out.be _ _ _ (hS.out.osx 0 rfl)).mono ?_
   rintro e w5 ⟨a15,n15,c15,m15,d15,e15,f15,rfl,hz,hb⟩
   rw [HDQ.out]at hz
   have hH:=Lib.hid ((((hS.out.call hb).pR rfl rfl hz).thin (os':=[]) (List.Sublist.refl _) (List.nil_sublist _)).al w5.heap.size #[.slice a15 n15 c15,.bool m15,.slice d15 e15 f15] 42 rfl)
   clear hb hz hS
   go_upto_region 11 with fail
   obtain ⟨b15,hb15⟩:∃b,w5.heap.size=b:=⟨_,rfl⟩
   rw [hb15]at hH⊢
   refine wp_geny hH.out ?_
   intro V1 hc
   have hG:=Lib.hid hc
   clear hc hH hb15
   have y0:=hG.out.cell 1 0 rfl rfl
   have y1:=hG.out.cell 1 1 rfl rfl
   have y2:=hG.out.cell 1 2 rfl rfl
   have q0:=hG.out.cell 0 0 rfl rfl
   have q1:=hG.out.cell 0 1 rfl rfl
   have q2:=hG.out.cell 0 2 rfl rfl
   have f0:=hG.out.free 0 0 rfl
   have f1:=hG.out.free 0 1 rfl
   have f2:=hG.out.free 0 2 rfl
   go_wp2
   have hE:=Lib.hid (hG.out|>.set (j:=0) (v:= .slice a15 n15 c15) 0 rfl|>.set (j:=1) (v:= .bool m15) 0 rfl|>.set (j:=2) (v:= .slice d15 e15 f15) 0 rfl)
   refine ret_sy hE.out (v:= .tuple #[.agg #[.slice a15 n15 c15,.bool m15,.slice d15 e15 f15],.bool true]) (fun hF=>?_) rfl (fun hF=>⟨_,_,_,_,_,_,_,rfl,hF.r 0 rfl,hF.be⟩)
   have g0:=hF.cell 0 0 rfl rfl
   have g1:=hF.cell 0 1 rfl rfl
   have g2:=hF.cell 0 2 rfl rfl
   simp [results,Tryz.results57,go_sem,g0,g1,g2]
end
end Go.Proofs.YthmdhlopeponcaaGreatDoor

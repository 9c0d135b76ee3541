/- do levels keep both conditions of feet? -/
import Derived.Test.YthmdhlopeponcaaGreatDoorJ0
import Derived.Test.YthmdhlopeponcaaGreatDoorJ42
import Derived.Test.YthmdhlopeponcaaGreatDoorJ39
import Derived.Test.YthmdhlopeponcaaGreatDoorJ43
namespace Go.Proofs.YthmdhlopeponcaaGreatDoor
open Go.RowKit Go.Shelf Dig
theorem sgn_cut {q:Rat} {z:Int} {v:Int} (h:sgnQ (q - (z:Rat))=v):decide ((z:Rat)≤q)= !decide (v < 0):=by
 subst h
 by_cases h1:sgnQ (q - (z:Rat)) < 0
 ·have:=sgnQ_neg.1 h1
  rw [decide_eq_true h1,decide_eq_false (by grind)];rfl
 ·have:¬ q - (z:Rat) < 0:=fun h=>h1 (sgnQ_neg.2 h)
  rw [decide_eq_false h1,decide_eq_true (by grind)];rfl
section
variable (w:World)
set_option maxHeartbeats 8000000 in
set_option maxRecDepth 100000 in
theorem keeps_any (sa:Option Addr) (sn sc:Nat) (l:List Pt) (hs:Sx 2 w sa sn sc (L2 l)) (ba:Option Addr) (bn bc:Nat) (bs:List Int) (hb:Sx 1 w ba bn bc (L1 bs)) (za:Option Addr) (zn zc:Nat) (zs:List Int) (hz:Sx 1 w za zn zc (L1 zs)) (d r:Int)
  (hk:brkB l bs=true) (hl:zs.length=bs.length - 1) (hzb:∀z∈zs,-1000000≤z∧z≤900000) (hd:0≤d∧d≤3000) (_hr:0≤r∧r≤3000):
  Calls Tryz.prog 56 #[.slice sa sn sc,.slice ba bn bc,.slice za zn zc,.int .i64 d,.int .i64 r] w (Gives (.bool (keepB l bs zs d r)) w):=by
 obtain rfl:=hz.n1
 obtain rfl:=hb.n1
 obtain ⟨hP,⟨hl1,hl2⟩,-,-⟩:=brk_ok hk
 have HB:=Lib.hid (fun W (hW:Below w.heap.size w W)=>hb.below hW)
 have HZ:=Lib.hid (fun W (hW:Below w.heap.size w W)=>hz.below hW)
 have HST:=Lib.hid (fun i (hi:i+1 < bs.length)=>show Strt l (bX bs i) (bX bs (i+1))from by
  rw [bX_at hi,bX_at (show i < bs.length by omega)];exact brk_strt hk (List.mem_of_getElem? (nbr_get hi)))
 have HCB:=Lib.hid (fun W (hW:Below w.heap.size w W) x y (hT:Strt l x y)=>hBounds_ok W sa sn sc l x y (hs.below hW) (strErr_ok (prof_iff.2 hP) (strB_of hT)))
 have HNO:=Lib.hid (fun i hi h=>keepB_no (l:=l) (bs:=bs) (d:=d) (r:=r) (zs:=zs) (i:=i) hi h)
 have HYE:=Lib.hid (fun h=>keepB_yes (l:=l) (bs:=bs) (d:=d) (r:=r) (zs:=zs) h)
 have HBD:=Lib.hid hzb
 have HLN:=Lib.hid hl
 obtain ⟨gb,ob,rfl⟩:=hb.addr (by omega)
 obtain ⟨gz,oz,rfl⟩:=hz.addr (by omega)
 have hbl:bs.length≤61:=by omega
 clear hs hb hz hk hzb hP hl hl1 hl2
 generalize keepB l bs zs d r=R at*
 go_enter Tryz.func56,Tryz.ntmps56
 go_wp2
 go_loopw [11] (fun iv wr=>∃k:Nat,k≤zs.length∧iv= .int .i64 k∧Hid (∀i,i < k→okK l bs zs d r i=true)∧Hid (Sy w wr [] [] [])) (fun iv _=>zs.length - (intOf iv).toNat)
 case atStart=>exact⟨0,Nat.zero_le _,rfl,Lib.hid (fun i h=>absurd h (Nat.not_lt_zero i)),Lib.hid (Sy.enter w)⟩
 case round=>
  obtain ⟨k,hk,rfl,HI,hS⟩:=hrel
  by_cases hlt:k < zs.length
  ·have hkb:k+1 < bs.length:=by have:=HLN.out;omega
   have hT:=HST.out k hkb
   have HX:=Lib.hid (fun W (hW:Below w.heap.size w W)=>(HB.out W hW).atX (show k < bs.length by omega))
   have HY:=Lib.hid (fun W (hW:Below w.heap.size w W)=>(HB.out W hW).atX hkb)
   have HZC:=Lib.hid (fun W (hW:Below w.heap.size w W)=>(HZ.out W hW).atX hlt)
   have hzk:=bX_in HBD.out hlt
   have HOK:=Lib.hid (show okK l bs zs d r k=(decide (((bX zs k+d:Int):Rat)≤loQ l (bX bs k) (bX bs (k+1))) && (decide (k=0) || (decide (bX zs k - bX zs (k - 1)≤r) && decide (bX zs (k - 1) - bX zs k≤r))))from rfl)
   have HNX:=Lib.hid (show okK l bs zs d r k=true→∀i,i < k+1→okK l bs zs d r i=true from fun h1 i hik=>by
    rcases Nat.lt_or_ge i k with h | h
    ·exact HI.out i h
    ·have:i=k:=by omega
     subst this;exact h1)
   have HN:=Lib.hid (HNO.out k hlt)
   have HC:=Lib.hid (fun W hW=>HCB.out W hW _ _ hT)
   have QB:=Lib.hid hT.lo_gd.bq
   have HPV:=Lib.hid (fun(h:k - 1 < zs.length) W (hW:Below w.heap.size w W)=>(HZ.out W hW).atX h)
   have HPB:=Lib.hid (fun(h:k - 1 < zs.length)=>bX_in HBD.out h)
   clear hT HI
   generalize okK l bs zs d r k=ok at*
   obtain ⟨n1,hn1⟩:∃n1:Nat,n1=k+1:=⟨_,rfl⟩
   rw [←hn1]at HY HOK HNX HC QB
   generalize loQ l (bX bs k) (bX bs n1)=lo at*
   generalize hiQ l (bX bs k) (bX bs n1)=hi at*
   generalize bX bs k=x at*
   generalize bX bs n1=y at*
   generalize bX zs k=z at*
   generalize bX zs (k - 1)=pz at*
   have i0:(0:Int)≤(k:Int):=by omega
   have i1:(k:Int) < (bs.length:Int):=by omega
   have i2:IntKind.i64.wrap ((k:Int)+1)=(n1:Int):=by rw [IntWalk.i64_in _ (by omega)];omega
   have i3:(0:Int)≤(n1:Int):=by omega
   have i4:(n1:Int) < (bs.length:Int):=by omega
   have i5:(k:Int) < (zs.length:Int):=by omega
   have i6:IntKind.i64.wrap (z+d)=z+d:=IntWalk.i64_in _ (by omega)
   have HN1:=Lib.hid hn1
   clear hn1
   go_upto_region 4 with fail
   go_cut [12,13,14] (fun s12 s13 s14 wx=>∃ (b12 b13:Nat) (a5:Option Addr) (n5 c5:Nat) (m5:Bool) (d5:Option Addr) (e5 f5:Nat) (a6:Option Addr) (n6 c6:Nat) (m6:Bool) (d6:Option Addr) (e6 f6:Nat),s12= .pointer (some ⟨b12,0,none⟩)∧s13= .pointer (some ⟨b13,0,none⟩)∧s14= .int .i64 0∧Hid (Sy w wx [(b12,#[.slice a5 n5 c5,.bool m5,.slice d5 e5 f5],42),(b13,#[.slice a6 n6 c6,.bool m6,.slice d6 e6 f6],42)] [] [(fun V=>Rd V (.slice a5 n5 c5) m5 (.slice d5 e5 f5) (lo)),(fun V=>Rd V (.slice a6 n6 c6) m6 (.slice d6 e6 f6) (hi))]))
   case first=>
    have HSL:∀V ex os rs,Sy w V ([]++ex) os rs→(fun w'=>w'.cell? ⟨gb,ob+k,none⟩=some (.int .i64 x)∧w'.cell? ⟨gb,ob+n1,none⟩=some (.int .i64 y)∧True) V:=fun V ex os rs hX=>⟨(HX.out _ hX.be),(HY.out _ hX.be),trivial⟩
    refine wp_region_held_drew (S:=(fun w'=>w'.cell? ⟨gb,ob+k,none⟩=some (.int .i64 x)∧w'.cell? ⟨gb,ob+n1,none⟩=some (.int .i64 y)∧True)) (by kernel_rfl) ⟨(HX.out _ hS.out.drew.be),(HY.out _ hS.out.drew.be),trivial⟩ (fun hH=>?_)
    refine wpAnyH_geny (show Sy w _ [] [] []from hS.out.drew) hH ?_
    intro VA_0 hc hHA_0
    have hVA_0:=Lib.hid hc
    clear hc hH hS
    refine tkL 0 ?_ rfl hHA_0 ?_ ?_;rotate_left
    ·intro wS hSw;(try dsimp only at hSw);go_simp;try with_reducible rfl
    try simp only [Act.put,zI,z0,zS]
    refine tkL 1 ?_ rfl hHA_0 ?_ ?_;rotate_left
    ·intro wS hSw;(try dsimp only at hSw);go_simp;try with_reducible rfl
    try simp only [Act.put,zI,z0,zS]
    refine tkL 2 ?_ rfl hHA_0 ?_ ?_;rotate_left
    ·intro wS hSw;(try dsimp only at hSw);go_simp;try with_reducible rfl
    try simp only [Act.put,zI,z0,zS]
    refine tkL 3 ?_ rfl hHA_0 ?_ ?_;rotate_left
    ·intro wS hSw;(try dsimp only at hSw);go_simp;try with_reducible rfl
    try simp only [Act.put,zI,z0,zS]
    refine tkL 4 ?_ rfl hHA_0 ?_ ?_;rotate_left
    ·intro wS hSw;(try dsimp only at hSw);go_simp;try with_reducible rfl
    try simp only [Act.put,zI,z0,zS]
    refine tkL 5 ?_ rfl hHA_0 ?_ ?_;rotate_left
    ·intro wS hSw;(try dsimp only at hSw);go_simp;try with_reducible rfl
    try simp only [Act.put,zI,z0,zS]
    refine tkL 6 ?_ rfl hHA_0 ?_ ?_;rotate_left
    ·intro wS hSw;(try dsimp only at hSw);go_simp;try with_reducible rfl
    try simp only [Act.put,zI,z0,zS]
    refine tkL 7 ?_ rfl hHA_0 ?_ ?_;rotate_left
    ·intro wS hSw;(try dsimp only at hSw);go_simp;try with_reducible rfl
    try simp only [Act.put,zI,z0,zS]
    refine tkL 8 ?_ rfl hHA_0 ?_ ?_;rotate_left
    ·intro wS hSw;(try dsimp only at hSw);go_simp;try with_reducible rfl
    try simp only [Act.put,zI,z0,zS]
    refine tkL 9 ?_ rfl hHA_0 ?_ ?_;rotate_left
    ·intro wS hSw;(try dsimp only at hSw);go_simp;try with_reducible rfl
    try simp only [Act.put,zI,z0,zS]
    refine wpAnyH_ready (rs:=[10,15,16]) (by kernel_rfl) (by simp) ?_
    refine AllReadyH.cons (o:=⟨_,_,_,_,_,_⟩) rfl (fun Kq hKq=>?_) ?_
    ·go_simp
     go_at_call 51
     refine(HC.out _ hVA_0.out.be).mono ?_
     rintro e wT ⟨a5,n5,c5,m5,d5,e5,f5,a6,n6,c6,m6,d6,e6,f6,rfl,hz1,hz2,hb⟩
     (try go_wp2_with fail)
     refine stepY hKq (((hVA_0.out.call hb).pR rfl rfl hz1).pR rfl rfl hz2) (fun _ hX=>HSL _ _ _ _ hX) ?_
     intro VA_1 hc hHA_1
     have hVA_1:=Lib.hid hc
     clear hc hKq Kq hVA_0 hb hz1 hz2 hHA_0
     try simp only [Act.put,zI,z0,zS]
     refine tkL 11 ?_ rfl hHA_1 ?_ ?_;rotate_left
     ·intro wS hSw;(try dsimp only at hSw);go_simp;try with_reducible rfl
     try simp only [Act.put,zI,z0,zS]
     refine tkL 12 ?_ rfl hHA_1 ?_ ?_;rotate_left
     ·intro wS hSw;(try dsimp only at hSw);go_simp;try with_reducible rfl
     try simp only [Act.put,zI,z0,zS]
     refine tkL 13 ?_ rfl hHA_1 ?_ ?_;rotate_left
     ·intro wS hSw;(try dsimp only at hSw);go_simp;try with_reducible rfl
     try simp only [Act.put,zI,z0,zS]
     refine tkL 14 ?_ rfl hHA_1 ?_ ?_;rotate_left
     ·intro wS hSw;(try dsimp only at hSw);go_simp;try with_reducible rfl
     try simp only [Act.put,zI,z0,zS]
     refine wpAnyH_ready (rs:=[15,16]) (by kernel_rfl) (by simp) ?_
     refine AllReadyH.cons (o:=⟨_,_,_,_,_,_⟩) rfl (fun Kq hKq=>?_) ?_
     ·go_simp
      refine stepY hKq (hVA_1.out.al VA_1.heap.size #[.slice none 0 0,.bool false,.slice none 0 0] 42 rfl) (fun _ hX=>HSL _ _ _ _ hX) ?_
      intro VA_2 hc hHA_2
      have hVA_2:=Lib.hid hc
      clear hc hKq Kq hVA_1 hHA_1
      try simp only [Act.put,zI,z0,zS]
      refine rdy1 16 rfl (fun Kq hKq=>?_)
      go_simp
      refine stepY hKq (hVA_2.out.al VA_2.heap.size #[.slice none 0 0,.bool false,.slice none 0 0] 42 rfl) (fun _ hX=>HSL _ _ _ _ hX) ?_
      intro VA_3 hc hHA_3
      have hVA_3:=Lib.hid hc
      clear hc hKq Kq hVA_2 hHA_2
      try simp only [Act.put,zI,z0,zS]
      refine rdy1 17 rfl (fun Kq hKq=>?_)
      have cQ0:=hVA_3.out.cell 0 0 rfl rfl
      have fQ0:=hVA_3.out.free 0 0 rfl
      have cQ1:=hVA_3.out.cell 0 1 rfl rfl
      have fQ1:=hVA_3.out.free 0 1 rfl
      have cQ2:=hVA_3.out.cell 0 2 rfl rfl
      have fQ2:=hVA_3.out.free 0 2 rfl
      go_simp
      refine stepY hKq (hVA_3.out|>.set (j:=0) (v:= .slice a5 n5 c5) 0 rfl|>.set (j:=1) (v:= .bool m5) 0 rfl|>.set (j:=2) (v:= .slice d5 e5 f5) 0 rfl) (fun _ hX=>HSL _ _ _ _ hX) ?_
      intro VA_4 hc hHA_4
      have hVA_4:=Lib.hid hc
      clear hc hKq Kq hVA_3 cQ0 fQ0 cQ1 fQ1 cQ2 fQ2 hHA_3
      try simp only [Act.put]
      refine rdy1 18 rfl (fun Kq hKq=>?_)
      have cQ0:=hVA_4.out.cell 1 0 rfl rfl
      have fQ0:=hVA_4.out.free 1 0 rfl
      have cQ1:=hVA_4.out.cell 1 1 rfl rfl
      have fQ1:=hVA_4.out.free 1 1 rfl
      have cQ2:=hVA_4.out.cell 1 2 rfl rfl
      have fQ2:=hVA_4.out.free 1 2 rfl
      go_simp
      refine stepY hKq (hVA_4.out|>.set (j:=0) (v:= .slice a6 n6 c6) 1 rfl|>.set (j:=1) (v:= .bool m6) 1 rfl|>.set (j:=2) (v:= .slice d6 e6 f6) 1 rfl) (fun _ hX=>HSL _ _ _ _ hX) ?_
      intro VA_5 hc hHA_5
      have hVA_5:=Lib.hid hc
      clear hc hKq Kq hVA_4 cQ0 fQ0 cQ1 fQ1 cQ2 fQ2 hHA_4
      try simp only [Act.put]
      refine rdy1 19 rfl (fun Kq hKq=>?_)
      go_simp
      refine stepY hKq hVA_5.out (fun _ hX=>HSL _ _ _ _ hX) ?_
      intro VA_6 hc hHA_6
      have hVA_6:=Lib.hid hc
      clear hc hKq Kq hVA_5 hHA_5
      try simp only [Act.put,zI,z0,zS]
      refine wpAnyH_done (by kernel_rfl) ?_ _
      go_wp2
      go_meet
      case rel=>exact⟨_,_,_,_,_,_,_,_,_,_,_,_,_,_,_,_,rfl,rfl,rfl,Lib.hid hVA_6.out⟩
     refine AllReadyH.cons (o:=⟨_,_,_,_,_,_⟩) rfl (fun Kq hKq=>?_) ?_
     ·go_simp
      refine stepY hKq (hVA_1.out.al VA_1.heap.size #[.slice none 0 0,.bool false,.slice none 0 0] 42 rfl) (fun _ hX=>HSL _ _ _ _ hX) ?_
      intro VA_2 hc hHA_2
      have hVA_2:=Lib.hid hc
      clear hc hKq Kq hVA_1 hHA_1
      try simp only [Act.put,zI,z0,zS]
      refine rdy1 15 rfl (fun Kq hKq=>?_)
      go_simp
      refine stepY hKq (hVA_2.out.al VA_2.heap.size #[.slice none 0 0,.bool false,.slice none 0 0] 42 rfl) (fun _ hX=>HSL _ _ _ _ hX) ?_
      intro VA_3 hc hHA_3
      have hVA_3:=Lib.hid hc
      clear hc hKq Kq hVA_2 hHA_2
      try simp only [Act.put,zI,z0,zS]
      refine rdy1 17 rfl (fun Kq hKq=>?_)
      have cQ0:=hVA_3.out.cell 1 0 rfl rfl
      have fQ0:=hVA_3.out.free 1 0 rfl
      have cQ1:=hVA_3.out.cell 1 1 rfl rfl
      have fQ1:=hVA_3.out.free 1 1 rfl
      have cQ2:=hVA_3.out.cell 1 2 rfl rfl
      have fQ2:=hVA_3.out.free 1 2 rfl
      go_simp
      refine stepY hKq (hVA_3.out|>.set (j:=0) (v:= .slice a5 n5 c5) 1 rfl|>.set (j:=1) (v:= .bool m5) 1 rfl|>.set (j:=2) (v:= .slice d5 e5 f5) 1 rfl) (fun _ hX=>HSL _ _ _ _ hX) ?_
      intro VA_4 hc hHA_4
      have hVA_4:=Lib.hid hc
      clear hc hKq Kq hVA_3 cQ0 fQ0 cQ1 fQ1 cQ2 fQ2 hHA_3
      try simp only [Act.put]
      refine rdy1 18 rfl (fun Kq hKq=>?_)
      have cQ0:=hVA_4.out.cell 0 0 rfl rfl
      have fQ0:=hVA_4.out.free 0 0 rfl
      have cQ1:=hVA_4.out.cell 0 1 rfl rfl
      have fQ1:=hVA_4.out.free 0 1 rfl
      have cQ2:=hVA_4.out.cell 0 2 rfl rfl
      have fQ2:=hVA_4.out.free 0 2 rfl
      go_simp
      refine stepY hKq (hVA_4.out|>.set (j:=0) (v:= .slice a6 n6 c6) 0 rfl|>.set (j:=1) (v:= .bool m6) 0 rfl|>.set (j:=2) (v:= .slice d6 e6 f6) 0 rfl) (fun _ hX=>HSL _ _ _ _ hX) ?_
      intro VA_5 hc hHA_5
      have hVA_5:=Lib.hid hc
      clear hc hKq Kq hVA_4 cQ0 fQ0 cQ1 fQ1 cQ2 fQ2 hHA_4
      try simp only [Act.put]
      refine rdy1 19 rfl (fun Kq hKq=>?_)
      go_simp
      refine stepY hKq hVA_5.out (fun _ hX=>HSL _ _ _ _ hX) ?_
      intro VA_6 hc hHA_6
      have hVA_6:=Lib.hid hc
      clear hc hKq Kq hVA_5 hHA_5
      try simp only [Act.put,zI,z0,zS]
      refine wpAnyH_done (by kernel_rfl) ?_ _
      go_wp2
      go_meet
      case rel=>exact⟨_,_,_,_,_,_,_,_,_,_,_,_,_,_,_,_,rfl,rfl,rfl,Lib.hid (hVA_6.out.bperm (List.Perm.swap _ _ []))⟩
     exact AllReadyH.nil
    refine AllReadyH.cons (o:=⟨_,_,_,_,_,_⟩) rfl (fun Kq hKq=>?_) ?_
    ·go_simp
     refine stepY hKq (hVA_0.out.al VA_0.heap.size #[.slice none 0 0,.bool false,.slice none 0 0] 42 rfl) (fun _ hX=>HSL _ _ _ _ hX) ?_
     intro VA_1 hc hHA_1
     have hVA_1:=Lib.hid hc
     clear hc hKq Kq hVA_0 hHA_0
     try simp only [Act.put,zI,z0,zS]
     refine wpAnyH_ready (rs:=[10,16]) (by kernel_rfl) (by simp) ?_
     refine AllReadyH.cons (o:=⟨_,_,_,_,_,_⟩) rfl (fun Kq hKq=>?_) ?_
     ·go_simp
      go_at_call 51
      refine(HC.out _ hVA_1.out.be).mono ?_
      rintro e wT ⟨a5,n5,c5,m5,d5,e5,f5,a6,n6,c6,m6,d6,e6,f6,rfl,hz1,hz2,hb⟩
      (try go_wp2_with fail)
      refine stepY hKq (((hVA_1.out.call hb).pR rfl rfl hz1).pR rfl rfl hz2) (fun _ hX=>HSL _ _ _ _ hX) ?_
      intro VA_2 hc hHA_2
      have hVA_2:=Lib.hid hc
      clear hc hKq Kq hVA_1 hb hz1 hz2 hHA_1
      try simp only [Act.put,zI,z0,zS]
      refine tkL 11 ?_ rfl hHA_2 ?_ ?_;rotate_left
      ·intro wS hSw;(try dsimp only at hSw);go_simp;try with_reducible rfl
      try simp only [Act.put,zI,z0,zS]
      refine tkL 12 ?_ rfl hHA_2 ?_ ?_;rotate_left
      ·intro wS hSw;(try dsimp only at hSw);go_simp;try with_reducible rfl
      try simp only [Act.put,zI,z0,zS]
      refine tkL 13 ?_ rfl hHA_2 ?_ ?_;rotate_left
      ·intro wS hSw;(try dsimp only at hSw);go_simp;try with_reducible rfl
      try simp only [Act.put,zI,z0,zS]
      refine tkL 14 ?_ rfl hHA_2 ?_ ?_;rotate_left
      ·intro wS hSw;(try dsimp only at hSw);go_simp;try with_reducible rfl
      try simp only [Act.put,zI,z0,zS]
      refine rdy1 16 rfl (fun Kq hKq=>?_)
      go_simp
      refine stepY hKq (hVA_2.out.al VA_2.heap.size #[.slice none 0 0,.bool false,.slice none 0 0] 42 rfl) (fun _ hX=>HSL _ _ _ _ hX) ?_
      intro VA_3 hc hHA_3
      have hVA_3:=Lib.hid hc
      clear hc hKq Kq hVA_2 hHA_2
      try simp only [Act.put,zI,z0,zS]
      refine rdy1 17 rfl (fun Kq hKq=>?_)
      have cQ0:=hVA_3.out.cell 0 0 rfl rfl
      have fQ0:=hVA_3.out.free 0 0 rfl
      have cQ1:=hVA_3.out.cell 0 1 rfl rfl
      have fQ1:=hVA_3.out.free 0 1 rfl
      have cQ2:=hVA_3.out.cell 0 2 rfl rfl
      have fQ2:=hVA_3.out.free 0 2 rfl
      go_simp
      refine stepY hKq (hVA_3.out|>.set (j:=0) (v:= .slice a5 n5 c5) 0 rfl|>.set (j:=1) (v:= .bool m5) 0 rfl|>.set (j:=2) (v:= .slice d5 e5 f5) 0 rfl) (fun _ hX=>HSL _ _ _ _ hX) ?_
      intro VA_4 hc hHA_4
      have hVA_4:=Lib.hid hc
      clear hc hKq Kq hVA_3 cQ0 fQ0 cQ1 fQ1 cQ2 fQ2 hHA_3
      try simp only [Act.put]
      refine rdy1 18 rfl (fun Kq hKq=>?_)
      have cQ0:=hVA_4.out.cell 1 0 rfl rfl
      have fQ0:=hVA_4.out.free 1 0 rfl
      have cQ1:=hVA_4.out.cell 1 1 rfl rfl
      have fQ1:=hVA_4.out.free 1 1 rfl
      have cQ2:=hVA_4.out.cell 1 2 rfl rfl
      have fQ2:=hVA_4.out.free 1 2 rfl
      go_simp
      refine stepY hKq (hVA_4.out|>.set (j:=0) (v:= .slice a6 n6 c6) 1 rfl|>.set (j:=1) (v:= .bool m6) 1 rfl|>.set (j:=2) (v:= .slice d6 e6 f6) 1 rfl) (fun _ hX=>HSL _ _ _ _ hX) ?_
      intro VA_5 hc hHA_5
      have hVA_5:=Lib.hid hc
      clear hc hKq Kq hVA_4 cQ0 fQ0 cQ1 fQ1 cQ2 fQ2 hHA_4
      try simp only [Act.put]
      refine rdy1 19 rfl (fun Kq hKq=>?_)
      go_simp
      refine stepY hKq hVA_5.out (fun _ hX=>HSL _ _ _ _ hX) ?_
      intro VA_6 hc hHA_6
      have hVA_6:=Lib.hid hc
      clear hc hKq Kq hVA_5 hHA_5
      try simp only [Act.put,zI,z0,zS]
      refine wpAnyH_done (by kernel_rfl) ?_ _
      go_wp2
      go_meet
      case rel=>exact⟨_,_,_,_,_,_,_,_,_,_,_,_,_,_,_,_,rfl,rfl,rfl,Lib.hid hVA_6.out⟩
     refine AllReadyH.cons (o:=⟨_,_,_,_,_,_⟩) rfl (fun Kq hKq=>?_) ?_
     ·go_simp
      refine stepY hKq (hVA_1.out.al VA_1.heap.size #[.slice none 0 0,.bool false,.slice none 0 0] 42 rfl) (fun _ hX=>HSL _ _ _ _ hX) ?_
      intro VA_2 hc hHA_2
      have hVA_2:=Lib.hid hc
      clear hc hKq Kq hVA_1 hHA_1
      try simp only [Act.put,zI,z0,zS]
      refine rdy1 10 rfl (fun Kq hKq=>?_)
      go_simp
      go_at_call 51
      refine(HC.out _ hVA_2.out.be).mono ?_
      rintro e wT ⟨a5,n5,c5,m5,d5,e5,f5,a6,n6,c6,m6,d6,e6,f6,rfl,hz1,hz2,hb⟩
      (try go_wp2_with fail)
      refine stepY hKq (((hVA_2.out.call hb).pR rfl rfl hz1).pR rfl rfl hz2) (fun _ hX=>HSL _ _ _ _ hX) ?_
      intro VA_3 hc hHA_3
      have hVA_3:=Lib.hid hc
      clear hc hKq Kq hVA_2 hb hz1 hz2 hHA_2
      try simp only [Act.put,zI,z0,zS]
      refine tkL 11 ?_ rfl hHA_3 ?_ ?_;rotate_left
      ·intro wS hSw;(try dsimp only at hSw);go_simp;try with_reducible rfl
      try simp only [Act.put,zI,z0,zS]
      refine tkL 12 ?_ rfl hHA_3 ?_ ?_;rotate_left
      ·intro wS hSw;(try dsimp only at hSw);go_simp;try with_reducible rfl
      try simp only [Act.put,zI,z0,zS]
      refine tkL 13 ?_ rfl hHA_3 ?_ ?_;rotate_left
      ·intro wS hSw;(try dsimp only at hSw);go_simp;try with_reducible rfl
      try simp only [Act.put,zI,z0,zS]
      refine tkL 14 ?_ rfl hHA_3 ?_ ?_;rotate_left
      ·intro wS hSw;(try dsimp only at hSw);go_simp;try with_reducible rfl
      try simp only [Act.put,zI,z0,zS]
      refine rdy1 17 rfl (fun Kq hKq=>?_)
      have cQ0:=hVA_3.out.cell 0 0 rfl rfl
      have fQ0:=hVA_3.out.free 0 0 rfl
      have cQ1:=hVA_3.out.cell 0 1 rfl rfl
      have fQ1:=hVA_3.out.free 0 1 rfl
      have cQ2:=hVA_3.out.cell 0 2 rfl rfl
      have fQ2:=hVA_3.out.free 0 2 rfl
      go_simp
      refine stepY hKq (hVA_3.out|>.set (j:=0) (v:= .slice a5 n5 c5) 0 rfl|>.set (j:=1) (v:= .bool m5) 0 rfl|>.set (j:=2) (v:= .slice d5 e5 f5) 0 rfl) (fun _ hX=>HSL _ _ _ _ hX) ?_
      intro VA_4 hc hHA_4
      have hVA_4:=Lib.hid hc
      clear hc hKq Kq hVA_3 cQ0 fQ0 cQ1 fQ1 cQ2 fQ2 hHA_3
      try simp only [Act.put]
      refine rdy1 18 rfl (fun Kq hKq=>?_)
      have cQ0:=hVA_4.out.cell 1 0 rfl rfl
      have fQ0:=hVA_4.out.free 1 0 rfl
      have cQ1:=hVA_4.out.cell 1 1 rfl rfl
      have fQ1:=hVA_4.out.free 1 1 rfl
      have cQ2:=hVA_4.out.cell 1 2 rfl rfl
      have fQ2:=hVA_4.out.free 1 2 rfl
      go_simp
      refine stepY hKq (hVA_4.out|>.set (j:=0) (v:= .slice a6 n6 c6) 1 rfl|>.set (j:=1) (v:= .bool m6) 1 rfl|>.set (j:=2) (v:= .slice d6 e6 f6) 1 rfl) (fun _ hX=>HSL _ _ _ _ hX) ?_
      intro VA_5 hc hHA_5
      have hVA_5:=Lib.hid hc
      clear hc hKq Kq hVA_4 cQ0 fQ0 cQ1 fQ1 cQ2 fQ2 hHA_4
      try simp only [Act.put]
      refine rdy1 19 rfl (fun Kq hKq=>?_)
      go_simp
      refine stepY hKq hVA_5.out (fun _ hX=>HSL _ _ _ _ hX) ?_
      intro VA_6 hc hHA_6
      have hVA_6:=Lib.hid hc
      clear hc hKq Kq hVA_5 hHA_5
      try simp only [Act.put,zI,z0,zS]
      refine wpAnyH_done (by kernel_rfl) ?_ _
      go_wp2
      go_meet
      case rel=>exact⟨_,_,_,_,_,_,_,_,_,_,_,_,_,_,_,_,rfl,rfl,rfl,Lib.hid hVA_6.out⟩
     exact AllReadyH.nil
    refine AllReadyH.cons (o:=⟨_,_,_,_,_,_⟩) rfl (fun Kq hKq=>?_) ?_
    ·go_simp
     refine stepY hKq (hVA_0.out.al VA_0.heap.size #[.slice none 0 0,.bool false,.slice none 0 0] 42 rfl) (fun _ hX=>HSL _ _ _ _ hX) ?_
     intro VA_1 hc hHA_1
     have hVA_1:=Lib.hid hc
     clear hc hKq Kq hVA_0 hHA_0
     try simp only [Act.put,zI,z0,zS]
     refine wpAnyH_ready (rs:=[10,15]) (by kernel_rfl) (by simp) ?_
     refine AllReadyH.cons (o:=⟨_,_,_,_,_,_⟩) rfl (fun Kq hKq=>?_) ?_
     ·go_simp
      go_at_call 51
      refine(HC.out _ hVA_1.out.be).mono ?_
      rintro e wT ⟨a5,n5,c5,m5,d5,e5,f5,a6,n6,c6,m6,d6,e6,f6,rfl,hz1,hz2,hb⟩
      (try go_wp2_with fail)
      refine stepY hKq (((hVA_1.out.call hb).pR rfl rfl hz1).pR rfl rfl hz2) (fun _ hX=>HSL _ _ _ _ hX) ?_
      intro VA_2 hc hHA_2
      have hVA_2:=Lib.hid hc
      clear hc hKq Kq hVA_1 hb hz1 hz2 hHA_1
      try simp only [Act.put,zI,z0,zS]
      refine tkL 11 ?_ rfl hHA_2 ?_ ?_;rotate_left
      ·intro wS hSw;(try dsimp only at hSw);go_simp;try with_reducible rfl
      try simp only [Act.put,zI,z0,zS]
      refine tkL 12 ?_ rfl hHA_2 ?_ ?_;rotate_left
      ·intro wS hSw;(try dsimp only at hSw);go_simp;try with_reducible rfl
      try simp only [Act.put,zI,z0,zS]
      refine tkL 13 ?_ rfl hHA_2 ?_ ?_;rotate_left
      ·intro wS hSw;(try dsimp only at hSw);go_simp;try with_reducible rfl
      try simp only [Act.put,zI,z0,zS]
      refine tkL 14 ?_ rfl hHA_2 ?_ ?_;rotate_left
      ·intro wS hSw;(try dsimp only at hSw);go_simp;try with_reducible rfl
      try simp only [Act.put,zI,z0,zS]
      refine rdy1 15 rfl (fun Kq hKq=>?_)
      go_simp
      refine stepY hKq (hVA_2.out.al VA_2.heap.size #[.slice none 0 0,.bool false,.slice none 0 0] 42 rfl) (fun _ hX=>HSL _ _ _ _ hX) ?_
      intro VA_3 hc hHA_3
      have hVA_3:=Lib.hid hc
      clear hc hKq Kq hVA_2 hHA_2
      try simp only [Act.put,zI,z0,zS]
      refine rdy1 17 rfl (fun Kq hKq=>?_)
      have cQ0:=hVA_3.out.cell 1 0 rfl rfl
      have fQ0:=hVA_3.out.free 1 0 rfl
      have cQ1:=hVA_3.out.cell 1 1 rfl rfl
      have fQ1:=hVA_3.out.free 1 1 rfl
      have cQ2:=hVA_3.out.cell 1 2 rfl rfl
      have fQ2:=hVA_3.out.free 1 2 rfl
      go_simp
      refine stepY hKq (hVA_3.out|>.set (j:=0) (v:= .slice a5 n5 c5) 1 rfl|>.set (j:=1) (v:= .bool m5) 1 rfl|>.set (j:=2) (v:= .slice d5 e5 f5) 1 rfl) (fun _ hX=>HSL _ _ _ _ hX) ?_
      intro VA_4 hc hHA_4
      have hVA_4:=Lib.hid hc
      clear hc hKq Kq hVA_3 cQ0 fQ0 cQ1 fQ1 cQ2 fQ2 hHA_3
      try simp only [Act.put]
      refine rdy1 18 rfl (fun Kq hKq=>?_)
      have cQ0:=hVA_4.out.cell 0 0 rfl rfl
      have fQ0:=hVA_4.out.free 0 0 rfl
      have cQ1:=hVA_4.out.cell 0 1 rfl rfl
      have fQ1:=hVA_4.out.free 0 1 rfl
      have cQ2:=hVA_4.out.cell 0 2 rfl rfl
      have fQ2:=hVA_4.out.free 0 2 rfl
      go_simp
      refine stepY hKq (hVA_4.out|>.set (j:=0) (v:= .slice a6 n6 c6) 0 rfl|>.set (j:=1) (v:= .bool m6) 0 rfl|>.set (j:=2) (v:= .slice d6 e6 f6) 0 rfl) (fun _ hX=>HSL _ _ _ _ hX) ?_
      intro VA_5 hc hHA_5
      have hVA_5:=Lib.hid hc
      clear hc hKq Kq hVA_4 cQ0 fQ0 cQ1 fQ1 cQ2 fQ2 hHA_4
      try simp only [Act.put]
      refine rdy1 19 rfl (fun Kq hKq=>?_)
      go_simp
      refine stepY hKq hVA_5.out (fun _ hX=>HSL _ _ _ _ hX) ?_
      intro VA_6 hc hHA_6
      have hVA_6:=Lib.hid hc
      clear hc hKq Kq hVA_5 hHA_5
      try simp only [Act.put,zI,z0,zS]
      refine wpAnyH_done (by kernel_rfl) ?_ _
      go_wp2
      go_meet
      case rel=>exact⟨_,_,_,_,_,_,_,_,_,_,_,_,_,_,_,_,rfl,rfl,rfl,Lib.hid (hVA_6.out.bperm (List.Perm.swap _ _ []))⟩
     refine AllReadyH.cons (o:=⟨_,_,_,_,_,_⟩) rfl (fun Kq hKq=>?_) ?_
     ·go_simp
      refine stepY hKq (hVA_1.out.al VA_1.heap.size #[.slice none 0 0,.bool false,.slice none 0 0] 42 rfl) (fun _ hX=>HSL _ _ _ _ hX) ?_
      intro VA_2 hc hHA_2
      have hVA_2:=Lib.hid hc
      clear hc hKq Kq hVA_1 hHA_1
      try simp only [Act.put,zI,z0,zS]
      refine rdy1 10 rfl (fun Kq hKq=>?_)
      go_simp
      go_at_call 51
      refine(HC.out _ hVA_2.out.be).mono ?_
      rintro e wT ⟨a5,n5,c5,m5,d5,e5,f5,a6,n6,c6,m6,d6,e6,f6,rfl,hz1,hz2,hb⟩
      (try go_wp2_with fail)
      refine stepY hKq (((hVA_2.out.call hb).pR rfl rfl hz1).pR rfl rfl hz2) (fun _ hX=>HSL _ _ _ _ hX) ?_
      intro VA_3 hc hHA_3
      have hVA_3:=Lib.hid hc
      clear hc hKq Kq hVA_2 hb hz1 hz2 hHA_2
      try simp only [Act.put,zI,z0,zS]
      refine tkL 11 ?_ rfl hHA_3 ?_ ?_;rotate_left
      ·intro wS hSw;(try dsimp only at hSw);go_simp;try with_reducible rfl
      try simp only [Act.put,zI,z0,zS]
      refine tkL 12 ?_ rfl hHA_3 ?_ ?_;rotate_left
      ·intro wS hSw;(try dsimp only at hSw);go_simp;try with_reducible rfl
      try simp only [Act.put,zI,z0,zS]
      refine tkL 13 ?_ rfl hHA_3 ?_ ?_;rotate_left
      ·intro wS hSw;(try dsimp only at hSw);go_simp;try with_reducible rfl
      try simp only [Act.put,zI,z0,zS]
      refine tkL 14 ?_ rfl hHA_3 ?_ ?_;rotate_left
      ·intro wS hSw;(try dsimp only at hSw);go_simp;try with_reducible rfl
      try simp only [Act.put,zI,z0,zS]
      refine rdy1 17 rfl (fun Kq hKq=>?_)
      have cQ0:=hVA_3.out.cell 1 0 rfl rfl
      have fQ0:=hVA_3.out.free 1 0 rfl
      have cQ1:=hVA_3.out.cell 1 1 rfl rfl
      have fQ1:=hVA_3.out.free 1 1 rfl
      have cQ2:=hVA_3.out.cell 1 2 rfl rfl
      have fQ2:=hVA_3.out.free 1 2 rfl
      go_simp
      refine stepY hKq (hVA_3.out|>.set (j:=0) (v:= .slice a5 n5 c5) 1 rfl|>.set (j:=1) (v:= .bool m5) 1 rfl|>.set (j:=2) (v:= .slice d5 e5 f5) 1 rfl) (fun _ hX=>HSL _ _ _ _ hX) ?_
      intro VA_4 hc hHA_4
      have hVA_4:=Lib.hid hc
      clear hc hKq Kq hVA_3 cQ0 fQ0 cQ1 fQ1 cQ2 fQ2 hHA_3
      try simp only [Act.put]
      refine rdy1 18 rfl (fun Kq hKq=>?_)
      have cQ0:=hVA_4.out.cell 0 0 rfl rfl
      have fQ0:=hVA_4.out.free 0 0 rfl
      have cQ1:=hVA_4.out.cell 0 1 rfl rfl
      have fQ1:=hVA_4.out.free 0 1 rfl
      have cQ2:=hVA_4.out.cell 0 2 rfl rfl
      have fQ2:=hVA_4.out.free 0 2 rfl
      go_simp
      refine stepY hKq (hVA_4.out|>.set (j:=0) (v:= .slice a6 n6 c6) 0 rfl|>.set (j:=1) (v:= .bool m6) 0 rfl|>.set (j:=2) (v:= .slice d6 e6 f6) 0 rfl) (fun _ hX=>HSL _ _ _ _ hX) ?_
      intro VA_5 hc hHA_5
      have hVA_5:=Lib.hid hc
      clear hc hKq Kq hVA_4 cQ0 fQ0 cQ1 fQ1 cQ2 fQ2 hHA_4
      try simp only [Act.put]
      refine rdy1 19 rfl (fun Kq hKq=>?_)
      go_simp
      refine stepY hKq hVA_5.out (fun _ hX=>HSL _ _ _ _ hX) ?_
      intro VA_6 hc hHA_6
      have hVA_6:=Lib.hid hc
      clear hc hKq Kq hVA_5 hHA_5
      try simp only [Act.put,zI,z0,zS]
      refine wpAnyH_done (by kernel_rfl) ?_ _
      go_wp2
      go_meet
      case rel=>exact⟨_,_,_,_,_,_,_,_,_,_,_,_,_,_,_,_,rfl,rfl,rfl,Lib.hid (hVA_6.out.bperm (List.Perm.swap _ _ []))⟩
     exact AllReadyH.nil
    exact AllReadyH.nil
   case rest=>
    clear hS HX HY HC
    obtain ⟨b12,b13,a5,n5,c5,m5,d5,e5,f5,a6,n6,c6,m6,d6,e6,f6,rfl,rfl,rfl,hS⟩:=hcut
    have BZ:=Lib.hid (show Bq 22 ((z+d:Int):Rat)from Bq.int (n:=21) (by unfold Bd;omega))
    have HKZ:=Lib.hid (fun W=>of_any (z+d) (by omega) W)
    obtain ⟨v,ev⟩:∃v,sgnQ (lo - ((z+d:Int):Rat))=v:=⟨_,rfl⟩
    have HSG:=Lib.hid (sgn_cut ev)
    have EV:=Lib.hid ev
    rw [HSG.out]at HOK
    clear ev HSG
    go_upto_region 5 with fail
    have i0:(0:Int)≤(k:Int):=by omega
    have i5:(k:Int) < (zs.length:Int):=by omega
    have i6:IntKind.i64.wrap (z+d)=z+d:=IntWalk.i64_in _ (by omega)
    have HSL:∀V ex os rs,Sy w V ([(b12,#[.slice a5 n5 c5,.bool m5,.slice d5 e5 f5],42),(b13,#[.slice a6 n6 c6,.bool m6,.slice d6 e6 f6],42)]++ex) os rs→(fun w'=>w'.cell? ⟨b12,0,none⟩=some (.slice a5 n5 c5)∧w'.cell? ⟨b12,1,none⟩=some (.bool m5)∧w'.cell? ⟨b12,2,none⟩=some (.slice d5 e5 f5)∧w'.cell? ⟨gz,oz+k,none⟩=some (.int .i64 z)∧True) V:=fun V ex os rs hX=>⟨hX.cell 0 0 rfl rfl,hX.cell 0 1 rfl rfl,hX.cell 0 2 rfl rfl,(HZC.out _ hX.be),trivial⟩
    refine wp_region_held_drew (S:=(fun w'=>w'.cell? ⟨b12,0,none⟩=some (.slice a5 n5 c5)∧w'.cell? ⟨b12,1,none⟩=some (.bool m5)∧w'.cell? ⟨b12,2,none⟩=some (.slice d5 e5 f5)∧w'.cell? ⟨gz,oz+k,none⟩=some (.int .i64 z)∧True)) (by kernel_rfl) ⟨hS.out.drew.cell 0 0 rfl rfl,hS.out.drew.cell 0 1 rfl rfl,hS.out.drew.cell 0 2 rfl rfl,(HZC.out _ hS.out.drew.be),trivial⟩ (fun hH=>?_)
    refine wpAnyH_geny (show Sy w _ [(b12,#[.slice a5 n5 c5,.bool m5,.slice d5 e5 f5],42),(b13,#[.slice a6 n6 c6,.bool m6,.slice d6 e6 f6],42)] [] [(fun V=>Rd V (.slice a5 n5 c5) m5 (.slice d5 e5 f5) (lo)),(fun V=>Rd V (.slice a6 n6 c6) m6 (.slice d6 e6 f6) (hi))]from hS.out.drew) hH ?_
    intro VB_0 hc hHB_0
    have hVB_0:=Lib.hid hc
    clear hc hH hS
    refine tkL 0 ?_ rfl hHB_0 ?_ ?_;rotate_left
    ·intro wS hSw;(try dsimp only at hSw);go_simp;try with_reducible rfl
    try simp only [Act.put,zI,z0,zS]
    refine tkL 1 ?_ rfl hHB_0 ?_ ?_;rotate_left
    ·intro wS hSw;(try dsimp only at hSw);go_simp;try with_reducible rfl
    try simp only [Act.put,zI,z0,zS]
    refine tkL 2 ?_ rfl hHB_0 ?_ ?_;rotate_left
    ·intro wS hSw;(try dsimp only at hSw);go_simp;try with_reducible rfl
    try simp only [Act.put,zI,z0,zS]
    refine tkL 3 ?_ rfl hHB_0 ?_ ?_;rotate_left
    ·intro wS hSw;(try dsimp only at hSw);go_simp;try with_reducible rfl
    try simp only [Act.put,zI,z0,zS]
    refine tkL 4 ?_ rfl hHB_0 ?_ ?_;rotate_left
    ·intro wS hSw;(try dsimp only at hSw);go_simp;try with_reducible rfl
    try simp only [Act.put,zI,z0,zS]
    refine tkL 5 ?_ rfl hHB_0 ?_ ?_;rotate_left
    ·intro wS hSw;(try dsimp only at hSw);go_simp;try with_reducible rfl
    try simp only [Act.put,zI,z0,zS]
    refine tkL 6 ?_ rfl hHB_0 ?_ ?_;rotate_left
    ·intro wS hSw;(try dsimp only at hSw);go_simp;try with_reducible rfl
    try simp only [Act.put,zI,z0,zS]
    refine tkL 7 ?_ rfl hHB_0 ?_ ?_;rotate_left
    ·intro wS hSw;(try dsimp only at hSw);go_simp;try with_reducible rfl
    try simp only [Act.put,zI,z0,zS]
    refine tkL 8 ?_ rfl hHB_0 ?_ ?_;rotate_left
    ·intro wS hSw;(try dsimp only at hSw);go_simp;try with_reducible rfl
    try simp only [Act.put,zI,z0,zS]
    refine tkL 9 ?_ rfl hHB_0 ?_ ?_;rotate_left
    ·intro wS hSw;(try dsimp only at hSw);go_simp;try with_reducible rfl
    try simp only [Act.put,zI,z0,zS]
    refine rdy1 10 rfl (fun Kq hKq=>?_)
    go_simp
    go_at_call 45
    refine(HKZ.out _).mono ?_
    rintro e wT ⟨a7,n7,c7,m7,d7,e7,f7,rfl,hz,hb⟩
    (try go_wp2_with fail)
    refine stepY hKq ((hVB_0.out.call hb).pR rfl rfl hz) (fun _ hX=>HSL _ _ _ _ hX) ?_
    intro VB_1 hc hHB_1
    have hVB_1:=Lib.hid hc
    clear hc hKq Kq hVB_0 hb hz hHB_0
    try simp only [Act.put,zI,z0,zS]
    refine rdy1 11 rfl (fun Kq hKq=>?_)
    go_simp
    go_at_call 44
    refine(rsub_b (hVB_1.out.r 0 rfl) (hVB_1.out.r 2 rfl) QB.out BZ.out (by omega) (by omega)).mono ?_
    rintro e wT ⟨a8,n8,c8,m8,d8,e8,f8,rfl,hz,hb⟩
    (try go_wp2_with fail)
    refine stepY hKq ((hVB_1.out.call hb).pR rfl rfl hz) (fun _ hX=>HSL _ _ _ _ hX) ?_
    intro VB_2 hc hHB_2
    have hVB_2:=Lib.hid hc
    clear hc hKq Kq hVB_1 hb hz hHB_1
    try simp only [Act.put,zI,z0,zS]
    refine rdy1 12 rfl (fun Kq hKq=>?_)
    go_simp
    go_at_call 47
    refine(hsign_is (hVB_2.out.r 3 rfl) EV.out).mono ?_
    rintro e wT ⟨rfl,hb⟩
    (try go_wp2_with fail)
    refine stepY hKq (hVB_2.out.call hb) (fun _ hX=>HSL _ _ _ _ hX) ?_
    intro VB_3 hc hHB_3
    have hVB_3:=Lib.hid hc
    clear hc hKq Kq hVB_2 hb hHB_2
    try simp only [Act.put,zI,z0,zS]
    refine tkL 13 ?_ rfl hHB_3 ?_ ?_;rotate_left
    ·intro wS hSw;(try dsimp only at hSw);go_simp;try with_reducible rfl
    try simp only [Act.put,zI,z0,zS]
    refine tkL 14 ?_ rfl hHB_3 ?_ ?_;rotate_left
    ·intro wS hSw;(try dsimp only at hSw);go_simp;try with_reducible rfl
    try simp only [Act.put,zI,z0,zS]
    refine wpAnyH_done (by kernel_rfl) ?_ _
    have hT:=Lib.hid ((hVB_3.out.thin (bs':=[]) (List.nil_sublist _) (List.Sublist.refl _)).pick [] (rs':=[]) rfl)
    clear hVB_3
    by_cases hv:v < 0
    ·have HG:=Lib.hid (HN.out (by rw [HOK.out,decide_eq_true hv];rfl))
     go_wp2
     go_ret
     exact⟨ret_bool HG.out.symm,hT.out.be⟩
    rw [decide_eq_false hv]at HOK
    go_upto_region 7 with fail
    rcases Nat.eq_zero_or_pos k with hk0 | hk0
    ·have HN2:=Lib.hid (HNX.out (by rw [HOK.out,decide_eq_true hk0];rfl))
     have hkn:decide (0 < k)=false:=decide_eq_false (by omega)
     have hkn2:decide ((0:Int) < (k:Int))=false:=decide_eq_false (by omega)
     clear hk0
     go_quiet (fail)
     have hU:=Lib.hid (hT.out.call (below_dN (Below.refl _ _) nq))
     go_wp2
     go_roundw
     case rel=>exact⟨n1,by have:=HN1.out;omega,rfl,HN2,hU⟩
     case measure=>have:=HN1.out;simp [intOf];omega
    have hk1:k - 1 < zs.length:=by omega
    have y0:=HPV.out hk1 _ hT.out.be
    have hpb:=HPB.out hk1
    rw [decide_eq_false (show ¬ k=0 by omega)]at HOK
    obtain ⟨j,hj⟩:∃j,j=k - 1:=⟨_,rfl⟩
    rw [←hj]at y0
    have v2:IntKind.i64.wrap ((k:Int) - 1)=(j:Int):=by rw [IntWalk.i64_in _ (by omega)];omega
    have n2:(0:Int)≤(j:Int):=by omega
    have n3:(j:Int) < (zs.length:Int):=by omega
    have z0:=HZC.out _ hT.out.be
    have hkn:decide (0 < k)=true:=decide_eq_true hk0
    have hkz:(0:Int) < (k:Int):=by omega
    have v3:IntKind.i64.wrap (z - pz)=z - pz:=IntWalk.i64_in _ (by omega)
    have v4:IntKind.i64.wrap (pz - z)=pz - z:=IntWalk.i64_in _ (by omega)
    clear hj HPV HPB HZC
    by_cases c1:r < z - pz
    ·have HG:=Lib.hid (HN.out (by rw [HOK.out,decide_eq_false (show ¬ z - pz≤r by omega)];rfl))
     have d1:=decide_eq_true c1
     go_quiet (fail)
     have hU:=Lib.hid (hT.out.call (below_dN (Below.refl _ _) nq))
     go_wp2
     go_ret
     exact⟨ret_bool HG.out.symm,hU.out.be⟩
    have d1:=decide_eq_false c1
    by_cases c2:r < pz - z
    ·have HG:=Lib.hid (HN.out (by rw [HOK.out,decide_eq_false (show ¬ pz - z≤r by omega),Bool.and_false];rfl))
     have d2:=decide_eq_true c2
     go_quiet (fail)
     have hU:=Lib.hid (hT.out.call (below_dN (Below.refl _ _) nq))
     go_wp2
     go_ret
     exact⟨ret_bool HG.out.symm,hU.out.be⟩
    have d2:=decide_eq_false c2
    have HN2:=Lib.hid (HNX.out (by rw [HOK.out,decide_eq_true (show z - pz≤r by omega),decide_eq_true (show pz - z≤r by omega)];rfl))
    go_quiet (fail)
    have hU:=Lib.hid (hT.out.call (below_dN (Below.refl _ _) nq))
    go_wp2
    go_roundw
    case rel=>exact⟨n1,by have:=HN1.out;omega,rfl,HN2,hU⟩
    case measure=>have:=HN1.out;simp [intOf];omega
  ·obtain rfl:k=zs.length:=by omega
   have HG:=Lib.hid (HYE.out (fun i hi=>HI.out i hi))
   go_wp2
   go_ret
   exact⟨ret_bool HG.out.symm,hS.out.be⟩
end
end Go.Proofs.YthmdhlopeponcaaGreatDoor

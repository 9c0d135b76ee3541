/- the reference's integers: ZAdd -/
import Derived.Test.YthmdhlopeponcaaGreatDoorX40
import Derived.Test.YthmdhlopeponcaaGreatDoorX41
import Derived.Test.YthmdhlopeponcaaGreatDoorX0
import Derived.Test.YthmdhlopeponcaaGreatDoorX38
import Derived.Test.YthmdhlopeponcaaGreatDoorX14
set_option maxRecDepth 100000
set_option maxHeartbeats 4000000
namespace Go.Proofs.YthmdhlopeponcaaGreatDoor
open Go.RowKit Dig
structure AI (xs ys:List Int) (s:Int) (L:List Int) (i:Nat):Prop where
 len:L.length=xs.length
 val:vl 10000 L=vl 10000 xs+s*vl 10000 (ys.take i)
 rng:∀x∈L,-10000≤x∧x≤20000
 low:∀j,i≤j→L[j]?.getD 0=xs[j]?.getD 0
theorem AI.start {xs:List Int} (ys:List Int) (s:Int) (h:∀x∈xs,0≤x∧x < 10000):AI xs ys s xs 0:=
 ⟨rfl,by simp [vl],fun x hx=>by have:=h x hx;omega,fun _ _=>rfl⟩
theorem AI.step {xs ys L:List Int} {s:Int} {i:Nat} (h:AI xs ys s L i) (hx:∀x∈xs,0≤x∧x < 10000) (hy:∀y∈ys,0≤y∧y < 10000) (hs: -1≤s∧s≤1) (hi:i < ys.length) (hl:i < L.length):
  AI xs ys s (L.set i (L[i] +s*ys[i])) (i+1):=by
 have hL:L[i]=xs[i]'(by rw [←h.len];exact hl):=by
  have:=h.low i (Nat.le_refl _)
  rw [List.getElem?_eq_getElem hl,List.getElem?_eq_getElem (by rw [←h.len];exact hl)]at this
  exact this
 have b1:=hx _ (List.getElem_mem (show i < xs.length by rw [←h.len];exact hl))
 have b2:=hy _ (List.getElem_mem hi)
 have b3: -10000≤s*ys[i]∧s*ys[i]≤10000:=by
  rcases(show s= -1∨s=0∨s=1 by omega)with h | h | h<;>rw [h]<;>omega
 refine⟨by rw [List.length_set,h.len],?_,?_,?_⟩
 ·have hv:=h.val
  rw [vl_set _ _ hl,vl_take_succ _ hi]
  grind
 ·intro x hx'
  rcases List.mem_or_eq_of_mem_set hx' with h' | h'
  ·exact h.rng x h'
  ·rw [h',hL];omega
 ·intro j hj
  rw [getD_set _ _ _ _ hl,if_neg (by omega)]
  exact h.low j (by omega)
theorem add_end {zA zB:Int} (h:zB.natAbs≤zA.natAbs):0≤(zA.natAbs:Int)+sgnN zA*sgnN zB*(zB.natAbs:Int)∧sgnN zA*((zA.natAbs:Int)+sgnN zA*sgnN zB*(zB.natAbs:Int))=zA+zB∧(zA=0→(zA.natAbs:Int)+sgnN zA*sgnN zB*(zB.natAbs:Int)=0):=by
 have e1:=sgn_mul_abs (z:=zA)
 have e2:=sgn_mul_abs (z:=zB)
 have e3:sgnN zA*sgnN zB*(zB.natAbs:Int)=sgnN zA*zB:=by rw [Int.mul_assoc,e2]
 rw [e3]
 have hs:sgnN zA=0∧zA=0∨sgnN zA=1∧0 < zA∨sgnN zA= -1∧zA < 0:=by unfold sgnN;split;exact .inl ⟨rfl,by assumption⟩;split;exact .inr (.inr ⟨rfl,by assumption⟩);exact .inr (.inl ⟨rfl,by omega⟩)
 rcases hs with ⟨h1,h2⟩ | ⟨h1,h2⟩ | ⟨h1,h2⟩<;>rw [h1]<;>omega
theorem mN9_0 {P_ : Prop} (h : P_ := by
 (try dsimp only);(first
   | ((with_reducible refine And.intro (?_:World.cell? (World.drew (World.setCell wr _ _)) _=_) ?_);exact(HCS.out _).drew.cell 0 0 rfl rfl;exact⟨(HCS.out _).drew.cell 1 0 rfl rfl,(HCS.out _).drew.cell 1 1 rfl rfl,HCY.out _⟩)
   | exact⟨hC.out.drew.cell 0 0 rfl rfl,hC.out.drew.cell 1 0 rfl rfl,hC.out.drew.cell 1 1 rfl rfl,cy.out⟩)) : P_ := h
theorem zaddN_any (s1:Int) (a1:Option Addr) (n1 c1:Nat) (z1:Int) (s2:Int) (a2:Option Addr) (n2 c2:Nat) (z2:Int) (w:World) (h1:Nz w s1 (.slice a1 n1 c1) z1) (h2:Nz w s2 (.slice a2 n2 c2) z2)
  (hl1:(dg 10000 z1.natAbs).length≤50000) (hl2:(dg 10000 z2.natAbs).length≤50000):
  Calls Tryz.prog 138 #[.agg #[.int .i64 s1,.slice a1 n1 c1],.agg #[.int .i64 s2,.slice a2 n2 c2]] w (RetN w (z1+z2)):=by
 have hC:=ζ (((St.enter w).pn h1).pn h2|>.al w.heap.size #[.int .i64 s1,.slice a1 n1 c1] 48 rfl rfl|>.al (w.heap.size+1) #[.int .i64 s2,.slice a2 n2 c2] 48 (by simp) rfl|>.al (w.heap.size+2) #[.int .i64 0,.slice none 0 0] 48 (by simp) rfl)
 have HW1:=ζ h1.g
 have HW2:=ζ h2.g
 have L1:=ζ h1.g.lt
 have L2:=ζ h2.g.lt
 clear h1 h2
 go_enter Tryz.func138,Tryz.ntmps138
 go_wp2_with fail
 refine(larger_any _ _ _ _ _ _ _ _ _ _ _ (hC.out.n 0 rfl) (hC.out.n 1 rfl) (by omega) (by omega)).mono ?_
 rintro e w3 ⟨rfl,hb⟩
 have hC3:=ζ (hC.out.call hb)
 clear hC hb
 obtain ⟨v,hv⟩:∃v:Int,cmpN z1.natAbs z2.natAbs=v:=⟨_,rfl⟩
 rw [hv]
 by_cases hlt:v < 0
 ·have HLE:=ζ (show z1.natAbs≤z2.natAbs from by unfold cmpN at hv;split at hv<;>(try split at hv)<;>omega)
  have hd:decide (v < 0)=true:=by simpa using hlt
  clear hv
  have x00:=hC3.out.cell 0 0 rfl rfl
  have x01:=hC3.out.cell 0 1 rfl rfl
  have x10:=hC3.out.cell 1 0 rfl rfl
  have x11:=hC3.out.cell 1 1 rfl rfl
  have y00:=hC3.out.free 0 0 rfl
  have y01:=hC3.out.free 0 1 rfl
  have y10:=hC3.out.free 1 0 rfl
  have y11:=hC3.out.free 1 1 rfl
  go_upto_region 3 with fail
  refine wp_gen (hC3.out.set 0 rfl|>.set 0 rfl|>.set 1 rfl|>.set 1 rfl) ?_
  intro W4 hc
  have hD:=ζ hc
  clear hc hC3 x00 x01 x10 x11 y00 y01 y10 y11
  have HA:=ζ (hD.out.n 1 rfl)
  have HB:=ζ (hD.out.n 0 rfl)
  have hnA:=HA.out.g.len
  have hnB:=HB.out.g.len
  have hE:=ζ (hD.out.pick [] (rs':=[]) rfl)
  have HGA:=ζ HA.out.g
  have HGB:=ζ HB.out.g
  have LB:=ζ HB.out.g.lt
  have hle:(dg 10000 z1.natAbs).length≤(dg 10000 z2.natAbs).length:=Dig.dg_len_mono (by omega) HLE.out
  have VA:=ζ (show vl 10000 (dg 10000 z2.natAbs)=(z2.natAbs:Int)from vl_dg (b:=10000) (by omega) _)
  have VB:=ζ (show vl 10000 (dg 10000 z1.natAbs)=(z1.natAbs:Int)from vl_dg (b:=10000) (by omega) _)
  have MA:=ζ (show ∀x∈dg 10000 z2.natAbs,0≤x∧x < 10000 from dg_mem (b:=10000) (by omega) _)
  have MB:=ζ (show ∀x∈dg 10000 z1.natAbs,0≤x∧x < 10000 from dg_mem (b:=10000) (by omega) _)
  have HSA:=ζ HA.out.s
  have HSB:=ζ HB.out.s
  have HVA:=ζ HA.out.sv
  have hp: -1≤s2*s1∧s2*s1≤1:=by rcases HA.out.sb with h | h | h<;>rcases HB.out.sb with h' | h' | h'<;>rw [h,h']<;>decide
  have hws:IntKind.i64.wrap (s2*s1)=s2*s1:=IntWalk.i64_in _ (by omega)
  clear hD HA HB
  generalize dg 10000 z2.natAbs=xs at*
  generalize dg 10000 z1.natAbs=ys at*
  obtain rfl:xs.length=n2:=hnA.symm
  obtain rfl:ys.length=n1:=hnB.symm
  have d01:=hE.out.cell 0 1 rfl rfl
  go_wp2_with (at_builtin;refine wpList_append_sl _ rfl _ _ 23 rfl 3 Tryz.underlying23 info_int (.slice none 0 0) [] rfl Sl.nil _ xs rfl HGA.out (by simp;omega) ?_;intro ga gn gc W5 ho hg hs)
  have hC0:=ζ (hE.out.grown hg (fun j hj=>by simp [Value.ownBlock]at hj))
  have HO0:=ζ (show Sl 3 W5 (.slice ga gn gc) xs from by simpa using ho)
  have HOB:=ζ (show ∀j,Value.ownBlock (.slice ga gn gc)=some j→W4.heap.size≤j from fun j hj=>by
   rcases hs j hj with h | h
   ·simp [Value.ownBlock]at h
   ·exact h)
  have hgn:=HO0.out.len
  obtain rfl:xs.length=gn:=hgn.symm
  have sz:=hE.out.lt 2 rfl
  have HSZ:=ζ sz
  clear ho hg hs d01 sz hgn
  go_wp2
  go_loopw [6] (fun iv wr=>∃ (i:Nat) (L:List Int),iv= .int .i64 i∧i≤ys.length∧Hid (AI xs ys (s2*s1) L i)∧Hid (Sl 3 wr (.slice ga xs.length gc) L)∧
   Hid (St w wr [(w.heap.size,#[.int .i64 s2,.slice a2 xs.length c2],48),(w.heap.size+1,#[.int .i64 s1,.slice a1 ys.length c1],48),(w.heap.size+2,#[.int .i64 0,.slice none 0 0],48)] [])) (fun iv _=>ys.length - (intOf iv).toNat)
  case atStart=>exact⟨0,xs,rfl,Nat.zero_le _,AI.start ys _ MA.out,HO0.out,hC0.out⟩
  case round=>
   clear hC0 HO0
   obtain ⟨i,L,rfl,hi,HI,HO,hC⟩:=hrel
   have c11:=hC.out.cell 1 1 rfl rfl
   by_cases hlt:i < ys.length
   ·have hilen:=HI.out.len
    have hlL:i < L.length:=by omega
    have sy:=HW1.out.below hC.out.be L1.out
    obtain ⟨gy,rfl,hgy⟩:=sy.row (by omega)
    obtain ⟨g,rfl,hgl⟩:=HO.out.row (by omega)
    have hgW:=HOB.out g rfl
    have hgz:=HSZ.out
    have hgb:=L1.out gy rfl
    have cy:=ζ (sy.cell (k:=i) hlt)
    have co:=HO.out.cell (k:=i) hlL
    have fo:=HO.out.free i
    have bY:=MB.out _ (List.getElem_mem hlt)
    have bO:=HI.out.rng _ (List.getElem_mem hlL)
    have HST:=ζ (HI.out.step MA.out MB.out hp hlt hlL)
    obtain ⟨Y,hY⟩:∃Y:Int,Y=ys[i]:=⟨_,rfl⟩
    obtain ⟨O,hO⟩:∃O:Int,O=L[i]:=⟨_,rfl⟩
    rw [←hY]at cy bY
    rw [←hO]at co bO
    have hm: -10000≤s2*s1*Y∧s2*s1*Y≤10000:=by
     rcases(show s2*s1= -1∨s2*s1=0∨s2*s1=1 by omega)with h | h | h<;>rw [h]<;>omega
    have j1:IntKind.i64.wrap (s2*s1*Y)=s2*s1*Y:=IntWalk.i64_in _ (by omega)
    have j2:IntKind.i64.wrap (O+s2*s1*Y)=O+s2*s1*Y:=IntWalk.i64_in _ (by omega)
    have HY:=ζ hY
    have HOO:=ζ hO
    have i1:(0:Int)≤(i:Int):=by omega
    have i2:(i:Int) < (xs.length:Int):=by omega
    have i3:(i:Int) < (ys.length:Int):=by omega
    have HCS:=ζ (fun(v:Value)=>hC.out.grown (grownBy_setCell wr g i v) (fun j hj=>by
     simp only [Option.some.injEq]at hj
     subst hj
     refine⟨by omega,fun x hx=>?_⟩
     simp only [List.mem_cons,List.not_mem_nil,or_false]at hx
     rcases hx with rfl | rfl | rfl
     ·show w.heap.size≠_;omega
     ·show w.heap.size+1≠_;omega
     ·show w.heap.size+2≠_;omega))
    have HCY:=ζ (fun(v:Value)=>show(wr.setCell ⟨g,i,none⟩ v).cell? ⟨gy,i,none⟩=some (.int .i64 Y)from by rw [hY];exact(HW1.out.below (HCS.out v).be L1.out).cell hlt)
    clear hY hO sy bY bO hm hgW hgz hgb
    go_wp2
    refine wp_region_noPanic ?_
    refine wp_region_held_drew (S:=(fun w'=>w'.cell? ⟨w.heap.size,0,none⟩=some (.int .i64 s2)∧w'.cell? ⟨w.heap.size+1,0,none⟩=some (.int .i64 s1)∧w'.cell? ⟨w.heap.size+1,1,none⟩=some (.slice (some ⟨gy,0,none⟩) ys.length c1)∧w'.cell? ⟨gy,i,none⟩=some (.int .i64 Y))) (by kernel_rfl) ?_ (fun hH0=>?_)
    ·exact mN9_0
    refine tkA 0 rfl hH0 ?_
    try simp only [Act.put,zI,z0,zS]
    refine tkA 1 rfl hH0 ?_
    try simp only [Act.put,zI,z0,zS]
    refine tkA 2 rfl hH0 ?_
    try simp only [Act.put,zI,z0,zS]
    refine tkA 3 rfl hH0 ?_
    try simp only [Act.put,zI,z0,zS]
    refine tkA 4 rfl hH0 ?_
    try simp only [Act.put,zI,z0,zS]
    refine tkA 6 rfl hH0 ?_
    try simp only [Act.put,zI,z0,zS]
    refine tkA 7 rfl hH0 ?_
    try simp only [Act.put,zI,z0,zS]
    refine tkA 8 rfl hH0 ?_
    try simp only [Act.put,zI,z0,zS]
    refine tkA 9 rfl hH0 ?_
    try simp only [Act.put,zI,z0,zS]
    refine tkA 10 rfl hH0 ?_
    try simp only [Act.put,zI,z0,zS]
    refine tkA 11 rfl hH0 ?_
    try simp only [Act.put,zI,z0,zS]
    refine tkA 12 rfl hH0 ?_
    try simp only [Act.put,zI,z0,zS]
    refine tkA 13 rfl hH0 ?_
    try simp only [Act.put,zI,z0,zS]
    refine tkA 14 rfl hH0 ?_
    try simp only [Act.put,zI,z0,zS]
    refine tkA 15 rfl hH0 ?_
    try simp only [Act.put,zI,z0,zS]
    refine tkA 16 rfl hH0 ?_
    try simp only [Act.put,zI,z0,zS]
    refine rdyL [5] ?_
    refine arc rfl (fun K hK=>?_) ?_
    ·go_simp
     refine hK.out _ _ ?_ (fun hH1=>?_)
     ·exact mN9_0
     clear hK K hH0
     try simp only [Act.put,zI,z0,zS]
     refine tkA 17 rfl hH1 ?_
     try simp only [Act.put,zI,z0,zS]
     refine tkA 18 rfl hH1 ?_
     try simp only [Act.put,zI,z0,zS]
     refine rdyL [19] ?_
     refine arc rfl (fun K hK=>?_) ?_
     ·go_simp
      refine hK.out _ _ ?_ (fun hH2=>?_)
      ·exact mN9_0
      clear hK K hH1
      try simp only [Act.put,zI,z0,zS]
      refine wpAnyH_done (by kernel_rfl) ?_ _
      refine NoPanic.normal ?_
      go_wp2
      go_roundw
      case rel=>exact⟨i+1,L.set i (O+s2*s1*Y),by go_num,by omega,by rw [HOO.out,HY.out];exact HST.out,(HO.out.set i (O+s2*s1*Y)).drew,(HCS.out _).drew⟩
      case measure=>simp [intOf];omega
     exact AllReadyH.nil
    exact AllReadyH.nil
   ·obtain rfl:i=ys.length:=by omega
    have HV:=ζ (show vl 10000 L=(z2.natAbs:Int)+sgnN z2*sgnN z1*(z1.natAbs:Int)from by rw [HI.out.val,List.take_length,VA.out,VB.out,HSA.out,HSB.out])
    have HAE:=ζ (add_end HLE.out)
    have HLL:=ζ HI.out.len
    have c00:=hC.out.cell 0 0 rfl rfl
    go_wp2_with fail
    refine(rmade_b (xs:=L) (by have:=HO.out;exact this) (fun x hx=>by have:=HI.out.rng x hx;omega) (by rw [HV.out];exact HAE.out.1) (by rw [HLL.out];omega) ?_).mono ?_
    ·rcases HVA.out with h | h
     ·exact .inl (by rw [HV.out];exact HAE.out.2.2 h)
     ·exact .inr h
    rintro e w9 ⟨s9,a9,n9,c9,rfl,hz,hb⟩
    have hC9:=ζ ((hC.out.call hb).pn hz)
    clear hz hb c00 c11 hC
    have c20:=hC9.out.cell 2 0 rfl rfl
    have c21:=hC9.out.cell 2 1 rfl rfl
    have f20:=hC9.out.free 2 0 rfl
    have f21:=hC9.out.free 2 1 rfl
    go_wp2
    refine ret_st (hC9.out.set 2 rfl|>.set 2 rfl) (v:= .agg #[.int .i64 s9,.slice a9 n9 c9]) (fun hF=>?_) rfl (fun hF=>⟨s9,a9,n9,c9,rfl,?_,hF.be⟩)
    ·have e0:=hF.cell 2 0 rfl rfl
     have e1:=hF.cell 2 1 rfl rfl
     simp [results,Tryz.results138,go_sem,e0,e1]
    ·have:=hF.n 0 rfl
     rw [HV.out,HSA.out,HAE.out.2.1]at this
     rw [Int.add_comm]at this;exact this
 ·have HLE:=ζ (show z2.natAbs≤z1.natAbs from by unfold cmpN at hv;split at hv<;>(try split at hv)<;>omega)
  have hd:decide (v < 0)=false:=by simpa using hlt
  clear hv
  go_upto_region 3 with fail
  refine wp_gen hC3.out ?_
  intro W4 hc
  have hD:=ζ hc
  clear hc hC3
  have HA:=ζ (hD.out.n 0 rfl)
  have HB:=ζ (hD.out.n 1 rfl)
  have hnA:=HA.out.g.len
  have hnB:=HB.out.g.len
  have hE:=ζ (hD.out.pick [] (rs':=[]) rfl)
  have HGA:=ζ HA.out.g
  have HGB:=ζ HB.out.g
  have LB:=ζ HB.out.g.lt
  have hle:(dg 10000 z2.natAbs).length≤(dg 10000 z1.natAbs).length:=Dig.dg_len_mono (by omega) HLE.out
  have VA:=ζ (show vl 10000 (dg 10000 z1.natAbs)=(z1.natAbs:Int)from vl_dg (b:=10000) (by omega) _)
  have VB:=ζ (show vl 10000 (dg 10000 z2.natAbs)=(z2.natAbs:Int)from vl_dg (b:=10000) (by omega) _)
  have MA:=ζ (show ∀x∈dg 10000 z1.natAbs,0≤x∧x < 10000 from dg_mem (b:=10000) (by omega) _)
  have MB:=ζ (show ∀x∈dg 10000 z2.natAbs,0≤x∧x < 10000 from dg_mem (b:=10000) (by omega) _)
  have HSA:=ζ HA.out.s
  have HSB:=ζ HB.out.s
  have HVA:=ζ HA.out.sv
  have hp: -1≤s1*s2∧s1*s2≤1:=by rcases HA.out.sb with h | h | h<;>rcases HB.out.sb with h' | h' | h'<;>rw [h,h']<;>decide
  have hws:IntKind.i64.wrap (s1*s2)=s1*s2:=IntWalk.i64_in _ (by omega)
  clear hD HA HB
  generalize dg 10000 z1.natAbs=xs at*
  generalize dg 10000 z2.natAbs=ys at*
  obtain rfl:xs.length=n1:=hnA.symm
  obtain rfl:ys.length=n2:=hnB.symm
  have d01:=hE.out.cell 0 1 rfl rfl
  go_wp2_with (at_builtin;refine wpList_append_sl _ rfl _ _ 23 rfl 3 Tryz.underlying23 info_int (.slice none 0 0) [] rfl Sl.nil _ xs rfl HGA.out (by simp;omega) ?_;intro ga gn gc W5 ho hg hs)
  have hC0:=ζ (hE.out.grown hg (fun j hj=>by simp [Value.ownBlock]at hj))
  have HO0:=ζ (show Sl 3 W5 (.slice ga gn gc) xs from by simpa using ho)
  have HOB:=ζ (show ∀j,Value.ownBlock (.slice ga gn gc)=some j→W4.heap.size≤j from fun j hj=>by
   rcases hs j hj with h | h
   ·simp [Value.ownBlock]at h
   ·exact h)
  have hgn:=HO0.out.len
  obtain rfl:xs.length=gn:=hgn.symm
  have sz:=hE.out.lt 2 rfl
  have HSZ:=ζ sz
  clear ho hg hs d01 sz hgn
  go_wp2
  go_loopw [6] (fun iv wr=>∃ (i:Nat) (L:List Int),iv= .int .i64 i∧i≤ys.length∧Hid (AI xs ys (s1*s2) L i)∧Hid (Sl 3 wr (.slice ga xs.length gc) L)∧
   Hid (St w wr [(w.heap.size,#[.int .i64 s1,.slice a1 xs.length c1],48),(w.heap.size+1,#[.int .i64 s2,.slice a2 ys.length c2],48),(w.heap.size+2,#[.int .i64 0,.slice none 0 0],48)] [])) (fun iv _=>ys.length - (intOf iv).toNat)
  case atStart=>exact⟨0,xs,rfl,Nat.zero_le _,AI.start ys _ MA.out,HO0.out,hC0.out⟩
  case round=>
   clear hC0 HO0
   obtain ⟨i,L,rfl,hi,HI,HO,hC⟩:=hrel
   have c11:=hC.out.cell 1 1 rfl rfl
   by_cases hlt:i < ys.length
   ·have hilen:=HI.out.len
    have hlL:i < L.length:=by omega
    have sy:=HW2.out.below hC.out.be L2.out
    obtain ⟨gy,rfl,hgy⟩:=sy.row (by omega)
    obtain ⟨g,rfl,hgl⟩:=HO.out.row (by omega)
    have hgW:=HOB.out g rfl
    have hgz:=HSZ.out
    have hgb:=L2.out gy rfl
    have cy:=ζ (sy.cell (k:=i) hlt)
    have co:=HO.out.cell (k:=i) hlL
    have fo:=HO.out.free i
    have bY:=MB.out _ (List.getElem_mem hlt)
    have bO:=HI.out.rng _ (List.getElem_mem hlL)
    have HST:=ζ (HI.out.step MA.out MB.out hp hlt hlL)
    obtain ⟨Y,hY⟩:∃Y:Int,Y=ys[i]:=⟨_,rfl⟩
    obtain ⟨O,hO⟩:∃O:Int,O=L[i]:=⟨_,rfl⟩
    rw [←hY]at cy bY
    rw [←hO]at co bO
    have hm: -10000≤s1*s2*Y∧s1*s2*Y≤10000:=by
     rcases(show s1*s2= -1∨s1*s2=0∨s1*s2=1 by omega)with h | h | h<;>rw [h]<;>omega
    have j1:IntKind.i64.wrap (s1*s2*Y)=s1*s2*Y:=IntWalk.i64_in _ (by omega)
    have j2:IntKind.i64.wrap (O+s1*s2*Y)=O+s1*s2*Y:=IntWalk.i64_in _ (by omega)
    have HY:=ζ hY
    have HOO:=ζ hO
    have i1:(0:Int)≤(i:Int):=by omega
    have i2:(i:Int) < (xs.length:Int):=by omega
    have i3:(i:Int) < (ys.length:Int):=by omega
    have HCS:=ζ (fun(v:Value)=>hC.out.grown (grownBy_setCell wr g i v) (fun j hj=>by
     simp only [Option.some.injEq]at hj
     subst hj
     refine⟨by omega,fun x hx=>?_⟩
     simp only [List.mem_cons,List.not_mem_nil,or_false]at hx
     rcases hx with rfl | rfl | rfl
     ·show w.heap.size≠_;omega
     ·show w.heap.size+1≠_;omega
     ·show w.heap.size+2≠_;omega))
    have HCY:=ζ (fun(v:Value)=>show(wr.setCell ⟨g,i,none⟩ v).cell? ⟨gy,i,none⟩=some (.int .i64 Y)from by rw [hY];exact(HW2.out.below (HCS.out v).be L2.out).cell hlt)
    clear hY hO sy bY bO hm hgW hgz hgb
    go_wp2
    refine wp_region_noPanic ?_
    refine wp_region_held_drew (S:=(fun w'=>w'.cell? ⟨w.heap.size,0,none⟩=some (.int .i64 s1)∧w'.cell? ⟨w.heap.size+1,0,none⟩=some (.int .i64 s2)∧w'.cell? ⟨w.heap.size+1,1,none⟩=some (.slice (some ⟨gy,0,none⟩) ys.length c2)∧w'.cell? ⟨gy,i,none⟩=some (.int .i64 Y))) (by kernel_rfl) ?_ (fun hH0=>?_)
    ·exact mN9_0
    refine tkA 0 rfl hH0 ?_
    try simp only [Act.put,zI,z0,zS]
    refine tkA 1 rfl hH0 ?_
    try simp only [Act.put,zI,z0,zS]
    refine tkA 2 rfl hH0 ?_
    try simp only [Act.put,zI,z0,zS]
    refine tkA 3 rfl hH0 ?_
    try simp only [Act.put,zI,z0,zS]
    refine tkA 4 rfl hH0 ?_
    try simp only [Act.put,zI,z0,zS]
    refine tkA 6 rfl hH0 ?_
    try simp only [Act.put,zI,z0,zS]
    refine tkA 7 rfl hH0 ?_
    try simp only [Act.put,zI,z0,zS]
    refine tkA 8 rfl hH0 ?_
    try simp only [Act.put,zI,z0,zS]
    refine tkA 9 rfl hH0 ?_
    try simp only [Act.put,zI,z0,zS]
    refine tkA 10 rfl hH0 ?_
    try simp only [Act.put,zI,z0,zS]
    refine tkA 11 rfl hH0 ?_
    try simp only [Act.put,zI,z0,zS]
    refine tkA 12 rfl hH0 ?_
    try simp only [Act.put,zI,z0,zS]
    refine tkA 13 rfl hH0 ?_
    try simp only [Act.put,zI,z0,zS]
    refine tkA 14 rfl hH0 ?_
    try simp only [Act.put,zI,z0,zS]
    refine tkA 15 rfl hH0 ?_
    try simp only [Act.put,zI,z0,zS]
    refine tkA 16 rfl hH0 ?_
    try simp only [Act.put,zI,z0,zS]
    refine rdyL [5] ?_
    refine arc rfl (fun K hK=>?_) ?_
    ·go_simp
     refine hK.out _ _ ?_ (fun hH1=>?_)
     ·exact mN9_0
     clear hK K hH0
     try simp only [Act.put,zI,z0,zS]
     refine tkA 17 rfl hH1 ?_
     try simp only [Act.put,zI,z0,zS]
     refine tkA 18 rfl hH1 ?_
     try simp only [Act.put,zI,z0,zS]
     refine rdyL [19] ?_
     refine arc rfl (fun K hK=>?_) ?_
     ·go_simp
      refine hK.out _ _ ?_ (fun hH2=>?_)
      ·exact mN9_0
      clear hK K hH1
      try simp only [Act.put,zI,z0,zS]
      refine wpAnyH_done (by kernel_rfl) ?_ _
      refine NoPanic.normal ?_
      go_wp2
      go_roundw
      case rel=>exact⟨i+1,L.set i (O+s1*s2*Y),by go_num,by omega,by rw [HOO.out,HY.out];exact HST.out,(HO.out.set i (O+s1*s2*Y)).drew,(HCS.out _).drew⟩
      case measure=>simp [intOf];omega
     exact AllReadyH.nil
    exact AllReadyH.nil
   ·obtain rfl:i=ys.length:=by omega
    have HV:=ζ (show vl 10000 L=(z1.natAbs:Int)+sgnN z1*sgnN z2*(z2.natAbs:Int)from by rw [HI.out.val,List.take_length,VA.out,VB.out,HSA.out,HSB.out])
    have HAE:=ζ (add_end HLE.out)
    have HLL:=ζ HI.out.len
    have c00:=hC.out.cell 0 0 rfl rfl
    go_wp2_with fail
    refine(rmade_b (xs:=L) (by have:=HO.out;exact this) (fun x hx=>by have:=HI.out.rng x hx;omega) (by rw [HV.out];exact HAE.out.1) (by rw [HLL.out];omega) ?_).mono ?_
    ·rcases HVA.out with h | h
     ·exact .inl (by rw [HV.out];exact HAE.out.2.2 h)
     ·exact .inr h
    rintro e w9 ⟨s9,a9,n9,c9,rfl,hz,hb⟩
    have hC9:=ζ ((hC.out.call hb).pn hz)
    clear hz hb c00 c11 hC
    have c20:=hC9.out.cell 2 0 rfl rfl
    have c21:=hC9.out.cell 2 1 rfl rfl
    have f20:=hC9.out.free 2 0 rfl
    have f21:=hC9.out.free 2 1 rfl
    go_wp2
    refine ret_st (hC9.out.set 2 rfl|>.set 2 rfl) (v:= .agg #[.int .i64 s9,.slice a9 n9 c9]) (fun hF=>?_) rfl (fun hF=>⟨s9,a9,n9,c9,rfl,?_,hF.be⟩)
    ·have e0:=hF.cell 2 0 rfl rfl
     have e1:=hF.cell 2 1 rfl rfl
     simp [results,Tryz.results138,go_sem,e0,e1]
    ·have:=hF.n 0 rfl
     rw [HV.out,HSA.out,HAE.out.2.1]at this
     exact this
theorem Bd.lenM (m:Nat) {k:Nat} {z:Int} (h:Bd k z) (hk:k≤10*m):(dg 10000 z.natAbs).length≤m:=by
 refine dg_len_le (by omega) (Nat.lt_of_lt_of_le (h.mono hk) ?_)
 rw [Nat.pow_mul]
 exact Nat.pow_le_pow_left (by omega) _
theorem Bd.lenN {k:Nat} {z:Int} (h:Bd k z) (hk:k≤500000):(dg 10000 z.natAbs).length≤50000:=h.lenM 50000 (by omega)
section
variable {w:World} {s1:Int} {a1:Option Addr} {n1 c1:Nat} {z1:Int} {s2:Int} {a2:Option Addr} {n2 c2:Nat} {z2:Int} {k1 k2:Nat}
theorem addN_b (h1:Nz w s1 (.slice a1 n1 c1) z1) (h2:Nz w s2 (.slice a2 n2 c2) z2) (b1:Bd k1 z1) (b2:Bd k2 z2) (hk1:k1≤500000) (hk2:k2≤500000):
  Calls Tryz.prog 138 #[.agg #[.int .i64 s1,.slice a1 n1 c1],.agg #[.int .i64 s2,.slice a2 n2 c2]] w (RetN w (z1+z2)):=zaddN_any _ _ _ _ _ _ _ _ _ _ _ h1 h2 (b1.lenN hk1) (b2.lenN hk2)
theorem mulN_b (h1:Nz w s1 (.slice a1 n1 c1) z1) (h2:Nz w s2 (.slice a2 n2 c2) z2) (b1:Bd k1 z1) (b2:Bd k2 z2) (hk1:k1≤500000) (hk2:k2≤500000):
  Calls Tryz.prog 139 #[.agg #[.int .i64 s1,.slice a1 n1 c1],.agg #[.int .i64 s2,.slice a2 n2 c2]] w (RetN w (z1*z2)):=zmulN_any _ _ _ _ _ _ _ _ _ _ _ h1 h2 (b1.lenN hk1) (b2.lenN hk2)
theorem negN_b (h1:Nz w s1 (.slice a1 n1 c1) z1):Calls Tryz.prog 164 #[.agg #[.int .i64 s1,.slice a1 n1 c1]] w (RetN w (-z1)):=zneg_any _ _ _ _ _ _ h1
theorem absN_b (h1:Nz w s1 (.slice a1 n1 c1) z1):Calls Tryz.prog 183 #[.agg #[.int .i64 s1,.slice a1 n1 c1]] w (RetN w (z1.natAbs:Int)):=zabs_any _ _ _ _ _ _ h1
end
theorem zsubN_any (s1:Int) (a1:Option Addr) (n1 c1:Nat) (z1:Int) (s2:Int) (a2:Option Addr) (n2 c2:Nat) (z2:Int) (w:World) (h1:Nz w s1 (.slice a1 n1 c1) z1) (h2:Nz w s2 (.slice a2 n2 c2) z2) (k1 k2:Nat) (b1:Bd k1 z1) (b2:Bd k2 z2) (hk1:k1≤500000) (hk2:k2≤500000):
  Calls Tryz.prog 171 #[.agg #[.int .i64 s1,.slice a1 n1 c1],.agg #[.int .i64 s2,.slice a2 n2 c2]] w (RetN w (z1+ -z2)):=by
 have B1:=ζ b1
 have B2:=ζ b2
 clear b1 b2
 have hC:=ζ ((((((St.enter w).pn h1).pn h2).al (w.heap.size) #[.int .i64 s1,.slice a1 n1 c1] 48 rfl rfl).al (w.heap.size+1) #[.int .i64 s2,.slice a2 n2 c2] 48 (by simp) rfl).al (w.heap.size+2) #[.int .i64 0,.slice none 0 0] 48 (by simp) rfl)
 clear h1 h2
 go_enter Tryz.func171,Tryz.ntmps171
 go_wp2
 go_region_held3 (fun w'=>w'.cell? ⟨w.heap.size,0,none⟩=some (.int .i64 s1)∧w'.cell? ⟨w.heap.size,1,none⟩=some (.slice a1 n1 c1)∧w'.cell? ⟨w.heap.size+1,0,none⟩=some (.int .i64 s2)∧w'.cell? ⟨w.heap.size+1,1,none⟩=some (.slice a2 n2 c2)∧True)
  (first
   | (with_reducible refine And.intro (?_:World.cell? (World.setCell (World.setCell w4 _ _) _ _) _=_) ?_;exact(hC4.out|>.set 2 rfl|>.set 2 rfl).cell 0 0 rfl rfl;exact⟨(hC4.out|>.set 2 rfl|>.set 2 rfl).cell 0 1 rfl rfl,(hC4.out|>.set 2 rfl|>.set 2 rfl).cell 1 0 rfl rfl,(hC4.out|>.set 2 rfl|>.set 2 rfl).cell 1 1 rfl rfl,trivial⟩)
   | (with_reducible refine And.intro (?_:World.cell? w4 _=_) ?_;exact hC4.out.cell 0 0 rfl rfl;exact⟨hC4.out.cell 0 1 rfl rfl,hC4.out.cell 1 0 rfl rfl,hC4.out.cell 1 1 rfl rfl,trivial⟩)
   | (with_reducible refine And.intro (?_:World.cell? w3 _=_) ?_;exact hC3.out.cell 0 0 rfl rfl;exact⟨hC3.out.cell 0 1 rfl rfl,hC3.out.cell 1 0 rfl rfl,hC3.out.cell 1 1 rfl rfl,trivial⟩)
   | (with_reducible refine And.intro (?_:World.cell? _ _=_) ?_;exact hC.out.drew.cell 0 0 rfl rfl;exact⟨hC.out.drew.cell 0 1 rfl rfl,hC.out.drew.cell 1 0 rfl rfl,hC.out.drew.cell 1 1 rfl rfl,trivial⟩))
  (first
   | (have _t:=hC3;go_at_call 138;refine(addN_b (hC3.out.n 0 rfl) (hC3.out.n 2 rfl) B1.out B2.out.neg (by omega) (by omega)).mono ?_;rintro e w4 ⟨s4,a4,n4,c4,rfl,hz,hb⟩;have hC4:=ζ ((hC3.out.call hb).pn hz);clear hb hz;have hC4_c20:=hC4.out.cell 2 0 rfl rfl;have hC4_f20:=hC4.out.free 2 0 rfl;have hC4_c21:=hC4.out.cell 2 1 rfl rfl;have hC4_f21:=hC4.out.free 2 1 rfl;clear _t hC3)
   | (have _t:=hC;go_at_call 164;refine(negN_b (hC.out.drew.n 1 rfl)).mono ?_;rintro e w3 ⟨s3,a3,n3,c3,rfl,hz,hb⟩;have hC3:=ζ ((hC.out.drew.call hb).pn hz);clear hb hz;clear _t hC))
 go_wp2
 refine ret_st (hC4.out|>.set 2 rfl|>.set 2 rfl) (v:= .agg #[.int .i64 s4,.slice a4 n4 c4]) (fun hF=>?_) rfl (fun hF=>⟨_,_,_,_,rfl,hF.n 3 rfl,hF.be⟩)
 ·have e0:=hF.cell 2 0 rfl rfl
  have e1:=hF.cell 2 1 rfl rfl
  simp [results,Tryz.results171,go_sem,e0,e1]
section
variable {w:World} {s1:Int} {a1:Option Addr} {n1 c1:Nat} {z1:Int} {s2:Int} {a2:Option Addr} {n2 c2:Nat} {z2:Int} {k1 k2:Nat}
theorem subN_b (h1:Nz w s1 (.slice a1 n1 c1) z1) (h2:Nz w s2 (.slice a2 n2 c2) z2) (b1:Bd k1 z1) (b2:Bd k2 z2) (hk1:k1≤500000) (hk2:k2≤500000):
  Calls Tryz.prog 171 #[.agg #[.int .i64 s1,.slice a1 n1 c1],.agg #[.int .i64 s2,.slice a2 n2 c2]] w (RetN w (z1 - z2)):=by
 rw [Int.sub_eq_add_neg];exact zsubN_any _ _ _ _ _ _ _ _ _ _ _ h1 h2 k1 k2 b1 b2 hk1 hk2
end
theorem fieldN (w:World) (s:Int) (a:Option Addr) (n c:Nat):(Instr.field 48 (.agg #[.int .i64 s,.slice a n c]) 0).run Tryz.prog w= .ok (.int .i64 s) w:=by
 first | kernel_rfl | rfl | simp [Instr.field,go_sem]
theorem zcmpN_any (s1:Int) (a1:Option Addr) (n1 c1:Nat) (z1:Int) (s2:Int) (a2:Option Addr) (n2 c2:Nat) (z2:Int) (w:World) (h1:Nz w s1 (.slice a1 n1 c1) z1) (h2:Nz w s2 (.slice a2 n2 c2) z2) (k1 k2:Nat) (b1:Bd k1 z1) (b2:Bd k2 z2) (hk1:k1≤500000) (hk2:k2≤500000):
  Calls Tryz.prog 141 #[.agg #[.int .i64 s1,.slice a1 n1 c1],.agg #[.int .i64 s2,.slice a2 n2 c2]] w (fun e w'=>e= .returned (.int .i64 (sgnN (z1 - z2)))∧Below w.heap.size w w'):=by
 have B1:=ζ b1
 have B2:=ζ b2
 clear b1 b2
 have hf:=fieldN
 have hC:=ζ (((((St.enter w).pn h1).pn h2).al (w.heap.size) #[.int .i64 s1,.slice a1 n1 c1] 48 rfl rfl).al (w.heap.size+1) #[.int .i64 s2,.slice a2 n2 c2] 48 (by simp) rfl)
 clear h1 h2
 go_enter Tryz.func141,Tryz.ntmps141
 have hC_c00:=hC.out.cell 0 0 rfl rfl
 have hC_f00:=hC.out.free 0 0 rfl
 have hC_c01:=hC.out.cell 0 1 rfl rfl
 have hC_f01:=hC.out.free 0 1 rfl
 have hC_c10:=hC.out.cell 1 0 rfl rfl
 have hC_f10:=hC.out.free 1 0 rfl
 have hC_c11:=hC.out.cell 1 1 rfl rfl
 have hC_f11:=hC.out.free 1 1 rfl
 go_wp2_with fail
 refine(subN_b (hC.out.n 0 rfl) (hC.out.n 1 rfl) B1.out B2.out (by omega) (by omega)).mono ?_
 rintro e w3 ⟨s3,a3,n3,c3,rfl,hz,hb⟩
 have hC3:=ζ ((hC.out.call hb).pn hz)
 clear hb hz
 clear hC
 go_wp2
 go_ret
 exact⟨ret_int (hC3.out.n 2 rfl).s,hC3.out.be⟩
theorem vl_drop {xs:List Int} {k:Nat} (h:k < xs.length):vl 10000 (xs.drop k)=xs[k] +10000*vl 10000 (xs.drop (k+1)):=by
 rw [List.drop_eq_getElem_cons h,vl]
theorem vl_drop_le {xs:List Int} (hm:∀x∈xs,0≤x∧x < 10000) (k:Nat):0≤vl 10000 (xs.drop k)∧vl 10000 (xs.drop k)≤vl 10000 xs:=by
 have h0:=vl_nonneg (b:=10000) (l:=xs.drop k) (fun x hx=>(hm x (List.mem_of_mem_drop hx)).1)
 have h1:=vl_nonneg (b:=10000) (l:=xs.take k) (fun x hx=>(hm x (List.mem_of_mem_take hx)).1)
 have h2:=vl_append 10000 (xs.take k) (xs.drop k)
 rw [List.take_append_drop]at h2
 have h3:(1:Int)≤10000 ^ (xs.take k).length:=by
  have:(0:Int) < 10000 ^ (xs.take k).length:=Int.pow_pos (by omega)
  omega
 have h4:1*vl 10000 (xs.drop k)≤10000 ^ (xs.take k).length*vl 10000 (xs.drop k):=Int.mul_le_mul_of_nonneg_right h3 h0
 simp only [show((10000:Nat):Int)=10000 from rfl]at h0 h1
 exact⟨h0,by omega⟩
theorem value_any (s1:Int) (a1:Option Addr) (n1 c1:Nat) (z1:Int) (w:World) (h1:Nz w s1 (.slice a1 n1 c1) z1) (hz: -9223372036854775808≤z1∧z1 < 9223372036854775808):
  Calls Tryz.prog 182 #[.agg #[.int .i64 s1,.slice a1 n1 c1]] w fun e w'=>e= .returned (.int .i64 z1)∧Below w.heap.size w w':=by
 have hn:=h1.g.len
 have hC:=ζ ((St.enter w).al w.heap.size #[.int .i64 s1,.slice a1 n1 c1] 48 rfl rfl)
 have L1:=ζ h1.g.lt
 have HSB:=ζ h1.sb
 have HM:=ζ h1.g
 have hlen:(dg 10000 z1.natAbs).length≤5:=dg_len_le (by omega) (by omega)
 have VM:=ζ (show vl 10000 (dg 10000 z1.natAbs)=(z1.natAbs:Int)from vl_dg (b:=10000) (by omega) _)
 have MM:=ζ (show ∀x∈dg 10000 z1.natAbs,0≤x∧x < 10000 from dg_mem (b:=10000) (by omega) _)
 have HV:=ζ (show s1*vl 10000 (dg 10000 z1.natAbs)=z1 from by rw [VM.out,h1.s];exact sgn_mul_abs)
 have HZ:=ζ hz
 clear h1 hz
 generalize dg 10000 z1.natAbs=xs at*
 subst hn
 go_enter Tryz.func182,Tryz.ntmps182
 go_wp2
 go_loopw [3,4] (fun nv iv wr=>∃ (k:Nat),iv= .int .i64 ((k:Int) - 1)∧nv= .int .i64 (s1*vl 10000 (xs.drop k))∧k≤xs.length∧
  Hid (St w wr [(w.heap.size,#[.int .i64 s1,.slice a1 xs.length c1],48)] [])) (fun _ iv _=>(intOf iv+1).toNat)
 case atStart=>exact⟨xs.length,rfl,by rw [List.drop_length];simp [vl],Nat.le_refl _,hC.out⟩
 case round=>
  clear hC
  obtain ⟨k,rfl,rfl,hk,hC⟩:=hrel
  cases k with
  | zero=>
    rw [List.drop_zero,HV.out]
    go_wp2
    go_ret
    exact⟨rfl,hC.out.be⟩
  | succ k=>
    have hlt:k < xs.length:=by omega
    have sx:=HM.out.below hC.out.be L1.out
    obtain ⟨g1,rfl,hg1⟩:=sx.row (by omega)
    have cx:=ζ (sx.cell (k:=k) hlt)
    have hd:=vl_drop hlt
    have hb:=vl_drop_le MM.out k
    have hb1:=vl_drop_le MM.out (k+1)
    have bX:=MM.out _ (List.getElem_mem hlt)
    have hsb:=HSB.out
    have hzz:=HZ.out
    have hv:=HV.out
    have HD:=ζ hd
    obtain ⟨X,hX⟩:∃X:Int,X=xs[k]:=⟨_,rfl⟩
    obtain ⟨V,hV⟩:∃V:Int,V=vl 10000 (xs.drop (k+1)):=⟨_,rfl⟩
    rw [←hX]at cx bX hd
    rw [←hV]at hd hb1⊢
    rw [hd]at hb
    have hall: -9223372036854775808≤s1*V*10000∧s1*V*10000 < 9223372036854775808∧ -10000≤s1*X∧s1*X≤10000∧ -9223372036854775808≤s1*V*10000+s1*X∧s1*V*10000+s1*X < 9223372036854775808∧ -9223372036854775808≤s1*V∧s1*V < 9223372036854775808:=by
     rcases hsb with h | h | h<;>rw [h]at hv⊢ <;>omega
    obtain ⟨N,hN⟩:∃N:Int,N=s1*V:=⟨_,rfl⟩
    rw [←hN]at hall⊢
    obtain ⟨q1,q2,q3,q4,q5,q6,q7,q8⟩:=hall
    have j1:IntKind.i64.wrap (N*10000)=N*10000:=IntWalk.i64_in _ (by omega)
    have j2:IntKind.i64.wrap (s1*X)=s1*X:=IntWalk.i64_in _ (by omega)
    have j3:IntKind.i64.wrap (N*10000+s1*X)=N*10000+s1*X:=IntWalk.i64_in _ (by omega)
    have HX:=ζ hX
    have HVV:=ζ hV
    have HN:=ζ hN
    have i1:(0:Int)≤(k:Int):=by omega
    have i2:(k:Int) < (xs.length:Int):=by omega
    clear hX hV hN sx hd hb hb1 hv hsb hzz bX
    rw [show((k+1:Nat):Int) - 1=(k:Int)from by omega]
    go_wp2
    go_region_held3 (fun w'=>w'.cell? ⟨w.heap.size,0,none⟩=some (.int .i64 s1)∧w'.cell? ⟨w.heap.size,1,none⟩=some (.slice (some ⟨g1,0,none⟩) xs.length c1)∧w'.cell? ⟨g1,k,none⟩=some (.int .i64 X))
     (exact⟨hC.out.drew.cell 0 0 rfl rfl,hC.out.drew.cell 0 1 rfl rfl,cx.out⟩) (fail)
    go_wp2
    go_roundw
    case rel=>
     refine⟨k,rfl,?_,by omega,hC.out.drew⟩
     congr 1
     rw [HD.out,←HVV.out,←HX.out,HN.out]
     grind
    case measure=>simp [intOf]
theorem neg_tm (p:Nat):(-(p:Int)).tmod 10000= -((p % 10000:Nat):Int)∧(-(p:Int)).tdiv 10000= -((p / 10000:Nat):Int):=by
 rw [Int.neg_tmod,Int.neg_tdiv,Int.tmod_eq_emod_of_nonneg (by omega),Int.tdiv_eq_ediv_of_nonneg (by omega)]
 constructor<;>rfl
theorem zint_pos (P:Nat) (hP:P < 9223372036854775808) (w:World):Calls Tryz.prog 143 #[.int .i64 (P:Int)] w (RetN w (P:Int)):=by
 have hC:=ζ ((St.enter w).al w.heap.size #[.int .i64 0,.slice none 0 0] 48 rfl rfl)
 go_enter Tryz.func143,Tryz.ntmps143
 go_wp2
 go_loopg [0,4] P (fun gk nv gv wr=>∃ (p:Nat) (L:List Int) (ga:Option Addr) (gn gc:Nat),nv= .int .i64 (p:Int)∧p=gk∧gv= .slice ga gn gc∧p≤9223372036854775808∧Hid (L++dg 10000 p=dg 10000 P)∧L.length≤1000∧p≤P∧Hid (Sl 3 wr (.slice ga gn gc) L)∧Hid (∀j,Value.ownBlock (.slice ga gn gc)=some j→w.heap.size < j)∧Hid (St w wr [(w.heap.size,#[.int .i64 0,.slice none 0 0],48)] []))
 case atStart=>exact⟨P,[],none,0,0,rfl,rfl,rfl,by omega,rfl,by simp,by omega,Sl.nil,fun j hj=>by simp [Value.ownBlock]at hj,hC.out⟩
 case round=>
  clear hC
  obtain ⟨p,L,ga,gn,gc,rfl,rfl,rfl,hp,HD,hLL,hpP,HO,HOB,hC⟩:=hrel
  have hlen:L.length≤5:=by
   have h1:=congrArg List.length HD.out
   have h2:(dg 10000 P).length≤5:=dg_len_le (by omega) (by omega)
   rw [List.length_append]at h1;omega
  by_cases hp0:p=0
  ·subst hp0
   have HLD:=ζ (show L=dg 10000 P from by have:=HD.out;rw [dg_zero,List.append_nil]at this;exact this)
   have hVL:=vl_dg (b:=10000) (by omega) P
   simp only [show((10000:Nat):Int)=10000 from rfl]at hVL
   have HVL:=ζ hVL
   have hM:=dg_mem (b:=10000) (by omega) P
   have HM:=ζ hM
   clear hVL hM HD
   have c00:=hC.out.cell 0 0 rfl rfl
   have c01:=hC.out.cell 0 1 rfl rfl
   have f00:=hC.out.free 0 0 rfl
   have f01:=hC.out.free 0 1 rfl
   go_wp2_with fail
   refine(rmade_b (xs:=L) HO.out (fun x hx=>by have:=HM.out x (by rw [←HLD.out];exact hx);omega) (by rw [HLD.out,HVL.out];omega) (by omega) (.inr (.inl rfl))).mono ?_
   rintro e w3 ⟨s3,a3,n3,c3,rfl,hz,hb⟩
   have hC3:=ζ ((hC.out.call hb).pn hz)
   clear hz hb c00 c01 f00 f01 hC
   have c00:=hC3.out.cell 0 0 rfl rfl
   have c01:=hC3.out.cell 0 1 rfl rfl
   have f00:=hC3.out.free 0 0 rfl
   have f01:=hC3.out.free 0 1 rfl
   go_wp2
   refine ret_st (hC3.out.set 0 rfl|>.set 0 rfl) (v:= .agg #[.int .i64 s3,.slice a3 n3 c3]) (fun hF=>?_) rfl (fun hF=>⟨s3,a3,n3,c3,rfl,?_,hF.be⟩)
   ·have e0:=hF.cell 0 0 rfl rfl
    have e1:=hF.cell 0 1 rfl rfl
    simp [results,Tryz.results143,go_sem,e0,e1]
   ·have:=hF.n 0 rfl
    rw [HLD.out,HVL.out]at this
    rwa [Int.one_mul]at this
  ·have HP0:=ζ hp0
   have HPP:=ζ (show dg 10000 p=((p % 10000:Nat):Int)::dg 10000 (p / 10000)from dg_pos (by omega) (by omega))
   have hne:((p:Int) !=0)=true:=by simp;omega
   clear hp0
   go_wp2_with (at_builtin;refine wpList_append_sl _ rfl _ _ 23 rfl 3 Tryz.underlying23 info_int _ _ rfl (HO.out.alloc _) _ _ rfl (Sl.one _ _ _) ?c3 ?_)
   case c3=>simp;omega
   intro a2 n2 c2 w2 ho2 hg2 hs2
   have hC2:=ζ (hC.out.row.grown hg2 (fun j hj=>⟨by have:=HOB.out j hj;omega,fun x hx=>by rcases List.mem_singleton.1 hx with rfl;have:=HOB.out j hj;show w.heap.size≠j;omega⟩))
   have HO2:=ζ ho2
   have HB2:=ζ (show ∀j,Value.ownBlock (.slice a2 n2 c2)=some j→w.heap.size < j from fun j hj=>by
    rcases hs2 j hj with h | h
    ·exact HOB.out j h
    ·have:=hC.out.lt 0 rfl;have h3:wr.heap.size≤j:=Nat.le_trans (by simp) h;omega)
   clear ho2 hg2 hs2
   go_wp2
   go_roundg (p / 10000)
   case measure=>have:=HP0.out;omega
   case rel=>
    refine⟨p / 10000,L++ [((p % 10000:Nat):Int)],a2,n2,c2,by go_num,rfl,rfl,by omega,?_,by rw [List.length_append,List.length_singleton];omega,by omega,?_,HB2,hC2⟩
    ·have:=HD.out;rw [HPP.out]at this;unfold Hid;rw [←this];simp
    ·exact HO2.out
theorem mN4_0 {P_ : Prop} (h : P_ := by
 go_wp2_with (at_builtin;refine wpList_append_sl _ rfl _ _ 23 rfl 3 Tryz.underlying23 info_int _ _ rfl (HO.out.alloc _) _ _ rfl (Sl.one _ _ _) ?c3 ?_)
 case c3=>simp;omega
 intro a2 n2 c2 w2 ho2 hg2 hs2
 have hC2:=ζ (hC.out.row.grown hg2 (fun j hj=>⟨by have:=HOB.out j hj;omega,fun x hx=>by rcases List.mem_singleton.1 hx with rfl;have:=HOB.out j hj;show w.heap.size≠j;omega⟩))
 have HO2:=ζ ho2
 have HB2:=ζ (show ∀j,Value.ownBlock (.slice a2 n2 c2)=some j→w.heap.size < j from fun j hj=>by
  rcases hs2 j hj with h | h
  ·exact HOB.out j h
  ·have:=hC.out.lt 0 rfl;have h3:wr.heap.size≤j:=Nat.le_trans (by simp) h;omega)
 clear ho2 hg2 hs2
 go_wp2
 go_roundg (p / 10000)
 case measure=>have:=HP0.out;omega
 case rel=>
  refine⟨p / 10000,L++ [((p % 10000:Nat):Int)],a2,n2,c2,rfl,rfl,rfl,by omega,?_,by rw [List.length_append,List.length_singleton];omega,by omega,?_,HB2,hC2⟩
  ·have:=HD.out;rw [HPP.out]at this;unfold Hid;rw [←this];simp
  ·exact(by have:=HO2.out;rw [←HR.out];exact this)) : P_ := h
theorem zint_neg (P:Nat) (hP:0 < P∧P≤9223372036854775808) (w:World):Calls Tryz.prog 143 #[.int .i64 (-(P:Int))] w (RetN w (-(P:Int))):=by
 have hC:=ζ ((St.enter w).al w.heap.size #[.int .i64 0,.slice none 0 0] 48 rfl rfl)
 obtain ⟨hP0,hP⟩:=hP
 go_enter Tryz.func143,Tryz.ntmps143
 go_wp2
 go_loopg [0,4] P (fun gk nv gv wr=>∃ (p:Nat) (L:List Int) (ga:Option Addr) (gn gc:Nat),nv= .int .i64 (-(p:Int))∧p=gk∧gv= .slice ga gn gc∧p≤9223372036854775808∧Hid (L++dg 10000 p=dg 10000 P)∧L.length≤1000∧p≤P∧Hid (Sl 3 wr (.slice ga gn gc) L)∧Hid (∀j,Value.ownBlock (.slice ga gn gc)=some j→w.heap.size < j)∧Hid (St w wr [(w.heap.size,#[.int .i64 0,.slice none 0 0],48)] []))
 case atStart=>exact⟨P,[],none,0,0,rfl,rfl,rfl,by omega,rfl,by simp,by omega,Sl.nil,fun j hj=>by simp [Value.ownBlock]at hj,hC.out⟩
 case round=>
  clear hC
  obtain ⟨p,L,ga,gn,gc,rfl,rfl,rfl,hp,HD,hLL,hpP,HO,HOB,hC⟩:=hrel
  have hlen:L.length≤5:=by
   have h1:=congrArg List.length HD.out
   have h2:(dg 10000 P).length≤5:=dg_len_le (by omega) (by omega)
   rw [List.length_append]at h1;omega
  by_cases hp0:p=0
  ·subst hp0
   have HLD:=ζ (show L=dg 10000 P from by have:=HD.out;rw [dg_zero,List.append_nil]at this;exact this)
   have hVL:=vl_dg (b:=10000) (by omega) P
   simp only [show((10000:Nat):Int)=10000 from rfl]at hVL
   have HVL:=ζ hVL
   have hM:=dg_mem (b:=10000) (by omega) P
   have HM:=ζ hM
   clear hVL hM HD
   have c00:=hC.out.cell 0 0 rfl rfl
   have c01:=hC.out.cell 0 1 rfl rfl
   have f00:=hC.out.free 0 0 rfl
   have f01:=hC.out.free 0 1 rfl
   go_wp2_with fail
   refine(rmade_b (xs:=L) HO.out (fun x hx=>by have:=HM.out x (by rw [←HLD.out];exact hx);omega) (by rw [HLD.out,HVL.out];omega) (by omega) (.inr (.inr rfl))).mono ?_
   rintro e w3 ⟨s3,a3,n3,c3,rfl,hz,hb⟩
   have hC3:=ζ ((hC.out.call hb).pn hz)
   clear hz hb c00 c01 f00 f01 hC
   have c00:=hC3.out.cell 0 0 rfl rfl
   have c01:=hC3.out.cell 0 1 rfl rfl
   have f00:=hC3.out.free 0 0 rfl
   have f01:=hC3.out.free 0 1 rfl
   go_wp2
   refine ret_st (hC3.out.set 0 rfl|>.set 0 rfl) (v:= .agg #[.int .i64 s3,.slice a3 n3 c3]) (fun hF=>?_) rfl (fun hF=>⟨s3,a3,n3,c3,rfl,?_,hF.be⟩)
   ·have e0:=hF.cell 0 0 rfl rfl
    have e1:=hF.cell 0 1 rfl rfl
    simp [results,Tryz.results143,go_sem,e0,e1]
   ·have:=hF.n 0 rfl
    rw [HLD.out,HVL.out]at this
    rwa [Int.neg_one_mul]at this
  ·have HP0:=ζ hp0
   have HPP:=ζ (show dg 10000 p=((p % 10000:Nat):Int)::dg 10000 (p / 10000)from dg_pos (by omega) (by omega))
   have hne:(-(p:Int) !=0)=true:=by simp;omega
   have hq:=(neg_tm p).2
   obtain ⟨R,hR⟩:∃R:Nat,R=p % 10000:=⟨_,rfl⟩
   have hr:=(neg_tm p).1
   rw [←hR]at hr
   have HR:=ζ hR
   have hR1:R < 10000:=by omega
   clear hp0 hR
   by_cases hR0:R=0
   ·subst hR0
    have hr':(-(p:Int)).tmod 10000=0:=by rw [hr];rfl
    clear hr
    exact mN4_0
   ·have hRp:(-(R:Int)) < 0:=by omega
    exact mN4_0
theorem zint_any (n:Int) (hn: -9223372036854775808≤n∧n < 9223372036854775808) (w:World):Calls Tryz.prog 143 #[.int .i64 n] w (RetN w n):=by
 by_cases h:0≤n
 ·obtain ⟨P,rfl⟩:=Int.eq_ofNat_of_zero_le h
  exact zint_pos P (by omega) w
 ·obtain ⟨P,hP⟩:=Int.eq_ofNat_of_zero_le (show 0≤ -n by omega)
  obtain rfl:n= -(P:Int):=by omega
  exact zint_neg P (by omega) w
def i64resN (z:Int):Int×Bool:=if -9223372036854775808≤z∧z≤9223372036854775807 then(z,true)else(0,false)
theorem sgnN_neg {z:Int} (h:z < 0):sgnN z= -1:=by unfold sgnN;rw [if_neg (by omega),if_pos h]
theorem sgnN_nonneg {z:Int} (h:0≤z):0≤sgnN z:=by unfold sgnN;split;omega;split<;>omega
theorem sgnN_pos {z:Int} (h:0 < z):sgnN z=1:=by unfold sgnN;rw [if_neg (by omega),if_neg (by omega)]
theorem sgnN_nonpos {z:Int} (h:z≤0):sgnN z≤0:=by unfold sgnN;split;omega;split<;>omega
section
variable {w:World} {s1:Int} {a1:Option Addr} {n1 c1:Nat} {z1:Int} {s2:Int} {a2:Option Addr} {n2 c2:Nat} {z2:Int} {k1 k2:Nat}
theorem cmpN_b (h1:Nz w s1 (.slice a1 n1 c1) z1) (h2:Nz w s2 (.slice a2 n2 c2) z2) (b1:Bd k1 z1) (b2:Bd k2 z2) (hk1:k1≤500000) (hk2:k2≤500000):
  Calls Tryz.prog 141 #[.agg #[.int .i64 s1,.slice a1 n1 c1],.agg #[.int .i64 s2,.slice a2 n2 c2]] w fun e w'=>e= .returned (.int .i64 (sgnN (z1 - z2)))∧Below w.heap.size w w':=zcmpN_any _ _ _ _ _ _ _ _ _ _ _ h1 h2 k1 k2 b1 b2 hk1 hk2
end
theorem zint64N_any (s:Int) (a:Option Addr) (n c:Nat) (z:Int) (w:World) (h:Nz w s (.slice a n c) z) (k:Nat) (hb:Bd k z) (hk:k≤500000):
  Calls Tryz.prog 162 #[.agg #[.int .i64 s,.slice a n c]] w fun e w'=>e= .returned (.tuple #[.int .i64 (i64resN z).1,.bool (i64resN z).2])∧Below w.heap.size w w':=by
 have hC:=ζ (((St.enter w).pn h).al w.heap.size #[.int .i64 s,.slice a n c] 48 rfl rfl)
 have HB:=ζ hb
 clear h hb
 by_cases h1:z < -9223372036854775808
 ·have V1:=ζ (sgnN_neg (z:=z - -9223372036854775808) (by omega))
  have HR:=ζ (show i64resN z=(0,false)from by unfold i64resN;rw [if_neg (by omega)])
  clear h1
  go_enter Tryz.func162,Tryz.ntmps162
  have x0:=hC.out.cell 0 0 rfl rfl
  have x1:=hC.out.cell 0 1 rfl rfl
  go_wp2
  go_region_with (first
   | (have _t:=hCa;go_at_call 141;refine(cmpN_b (hCa.out.n 0 rfl) (hCa.out.n 1 rfl) HB.out (Bd.i64 (k:= -9223372036854775808) (by omega)) hk (by omega)).mono ?_;rintro e wb ⟨rfl,hb⟩;have hCb:=ζ (hCa.out.call hb);clear hb;rw [V1.out];clear _t)
   | (have _t:=hC;go_at_call 143;refine(zint_any (-9223372036854775808) (by omega) _).mono ?_;rintro e wa ⟨sa,aa,na,ca,rfl,hza,hb⟩;have hCa:=ζ ((hC.out.drew.call hb).pn hza);clear hza hb;clear _t;have y0:=hCa.out.cell 0 0 rfl rfl;have y1:=hCa.out.cell 0 1 rfl rfl))
  all_goals
   go_wp2
   go_ret2
   exact⟨by rw [HR.out];rfl,hCb.out.be⟩
 ·obtain ⟨v,hv⟩:∃v:Int,sgnN (z - -9223372036854775808)=v:=⟨_,rfl⟩
  have d1:decide (v < 0)=false:=by have:=sgnN_nonneg (z:=z - -9223372036854775808) (by omega);simp;omega
  have V1:=ζ hv
  clear hv
  by_cases h2:9223372036854775807 < z
  ·have V2:=ζ (sgnN_pos (z:=z - 9223372036854775807) (by omega))
   have HR:=ζ (show i64resN z=(0,false)from by unfold i64resN;rw [if_neg (by omega)])
   clear h1 h2
   go_enter Tryz.func162,Tryz.ntmps162
   go_wp2
   go_region_held3 (fun w'=>w'.cell? ⟨w.heap.size,0,none⟩=some (.int .i64 s)∧w'.cell? ⟨w.heap.size,1,none⟩=some (.slice a n c)∧True)
    (first
     | (with_reducible refine And.intro (?_:World.cell? wd _=_) ?_;exact hCd.out.cell 0 0 rfl rfl;exact⟨hCd.out.cell 0 1 rfl rfl,trivial⟩)
     | (with_reducible refine And.intro (?_:World.cell? wc _=_) ?_;exact hCc.out.cell 0 0 rfl rfl;exact⟨hCc.out.cell 0 1 rfl rfl,trivial⟩)
     | (with_reducible refine And.intro (?_:World.cell? wb _=_) ?_;exact hCb.out.cell 0 0 rfl rfl;exact⟨hCb.out.cell 0 1 rfl rfl,trivial⟩)
     | (with_reducible refine And.intro (?_:World.cell? wa _=_) ?_;exact hCa.out.cell 0 0 rfl rfl;exact⟨hCa.out.cell 0 1 rfl rfl,trivial⟩)
     | (with_reducible refine And.intro (?_:World.cell? _ _=_) ?_;exact hC.out.drew.cell 0 0 rfl rfl;exact⟨hC.out.drew.cell 0 1 rfl rfl,trivial⟩))
    (first
     | (have _t:=hCc;go_at_call 141;refine(cmpN_b (hCc.out.n 0 rfl) (hCc.out.n 2 rfl) HB.out (Bd.i64 (k:=9223372036854775807) (by omega)) hk (by omega)).mono ?_;rintro e wd ⟨rfl,hb⟩;have hCd:=ζ (hCc.out.call hb);clear hb;rw [V2.out];clear _t hCc)
     | (have _t:=hCb;go_at_call 143;refine(zint_any 9223372036854775807 (by omega) _).mono ?_;rintro e wc ⟨sc,ac,nc,cc,rfl,hzc,hb⟩;have hCc:=ζ ((hCb.out.call hb).pn hzc);clear hzc hb;clear _t hCb)
     | (have _t:=hCa;go_at_call 141;refine(cmpN_b (hCa.out.n 0 rfl) (hCa.out.n 1 rfl) HB.out (Bd.i64 (k:= -9223372036854775808) (by omega)) hk (by omega)).mono ?_;rintro e wb ⟨rfl,hb⟩;have hCb:=ζ (hCa.out.call hb);clear hb;rw [V1.out];clear _t hCa)
     | (have _t:=hC;go_at_call 143;refine(zint_any (-9223372036854775808) (by omega) _).mono ?_;rintro e wa ⟨sa,aa,na,ca,rfl,hza,hb⟩;have hCa:=ζ ((hC.out.drew.call hb).pn hza);clear hza hb;clear _t hC)
     | fail)
   go_wp2
   go_ret2
   exact⟨by rw [HR.out];rfl,hCd.out.be⟩
  ·obtain ⟨v2,hv2⟩:∃v:Int,sgnN (z - 9223372036854775807)=v:=⟨_,rfl⟩
   have d2:decide (0 < v2)=false:=by have:=sgnN_nonpos (z:=z - 9223372036854775807) (by omega);simp;omega
   have V2:=ζ hv2
   clear hv2
   have HR:=ζ (show i64resN z=(z,true)from by unfold i64resN;rw [if_pos (by omega)])
   have HZ:=ζ (show -9223372036854775808≤z∧z < 9223372036854775808 from by omega)
   clear h1 h2
   go_enter Tryz.func162,Tryz.ntmps162
   go_wp2
   go_region_held3 (fun w'=>w'.cell? ⟨w.heap.size,0,none⟩=some (.int .i64 s)∧w'.cell? ⟨w.heap.size,1,none⟩=some (.slice a n c)∧True)
    (first
     | (with_reducible refine And.intro (?_:World.cell? wd _=_) ?_;exact hCd.out.cell 0 0 rfl rfl;exact⟨hCd.out.cell 0 1 rfl rfl,trivial⟩)
     | (with_reducible refine And.intro (?_:World.cell? wc _=_) ?_;exact hCc.out.cell 0 0 rfl rfl;exact⟨hCc.out.cell 0 1 rfl rfl,trivial⟩)
     | (with_reducible refine And.intro (?_:World.cell? wb _=_) ?_;exact hCb.out.cell 0 0 rfl rfl;exact⟨hCb.out.cell 0 1 rfl rfl,trivial⟩)
     | (with_reducible refine And.intro (?_:World.cell? wa _=_) ?_;exact hCa.out.cell 0 0 rfl rfl;exact⟨hCa.out.cell 0 1 rfl rfl,trivial⟩)
     | (with_reducible refine And.intro (?_:World.cell? _ _=_) ?_;exact hC.out.drew.cell 0 0 rfl rfl;exact⟨hC.out.drew.cell 0 1 rfl rfl,trivial⟩))
    (first
     | (have _t:=hCc;go_at_call 141;refine(cmpN_b (hCc.out.n 0 rfl) (hCc.out.n 2 rfl) HB.out (Bd.i64 (k:=9223372036854775807) (by omega)) hk (by omega)).mono ?_;rintro e wd ⟨rfl,hb⟩;have hCd:=ζ (hCc.out.call hb);clear hb;rw [V2.out];clear _t hCc)
     | (have _t:=hCb;go_at_call 143;refine(zint_any 9223372036854775807 (by omega) _).mono ?_;rintro e wc ⟨sc,ac,nc,cc,rfl,hzc,hb⟩;have hCc:=ζ ((hCb.out.call hb).pn hzc);clear hzc hb;clear _t hCb)
     | (have _t:=hCa;go_at_call 141;refine(cmpN_b (hCa.out.n 0 rfl) (hCa.out.n 1 rfl) HB.out (Bd.i64 (k:= -9223372036854775808) (by omega)) hk (by omega)).mono ?_;rintro e wb ⟨rfl,hb⟩;have hCb:=ζ (hCa.out.call hb);clear hb;rw [V1.out];clear _t hCa)
     | (have _t:=hC;go_at_call 143;refine(zint_any (-9223372036854775808) (by omega) _).mono ?_;rintro e wa ⟨sa,aa,na,ca,rfl,hza,hb⟩;have hCa:=ζ ((hC.out.drew.call hb).pn hza);clear hza hb;clear _t hC)
     | fail)
   have x0:=hCd.out.cell 0 0 rfl rfl
   have x1:=hCd.out.cell 0 1 rfl rfl
   go_wp2_with fail
   refine(value_any _ _ _ _ _ _ (hCd.out.n 0 rfl) HZ.out).mono ?_
   rintro e we ⟨rfl,hb⟩
   have hCe:=ζ (hCd.out.call hb)
   clear hb x0 x1
   go_wp2
   go_ret2
   exact⟨by rw [HR.out];rfl,hCe.out.be⟩
structure QI (xs:List Int) (D:Nat) (L:List Int) (k R:Nat):Prop where
 len:L.length=xs.length
 val:vl 10000 (xs.drop k)=vl 10000 (L.drop k)*(D:Int)+(R:Int)
 lt:R < D
 rng:∀x∈L,0≤x∧x < 10000
theorem QI.start {xs:List Int} {D:Nat} (hD:0 < D):QI xs D (List.replicate xs.length 0) xs.length 0:=
 ⟨by simp,by simp [vl],hD,fun x hx=>by have:=List.eq_of_mem_replicate hx;omega⟩
theorem QI.step {xs L:List Int} {D k R:Nat} (h:QI xs D L (k+1) R) (hk:k < xs.length) (hx:0≤xs[k]∧xs[k] < 10000):
  QI xs D (L.set k (((xs[k].toNat+10000*R) / D:Nat):Int)) k ((xs[k].toNat+10000*R) % D):=by
 have hD:0 < D:=Nat.lt_of_le_of_lt (Nat.zero_le _) h.lt
 have hL:k < L.length:=by rw [h.len];exact hk
 have hq:(xs[k].toNat+10000*R) / D < 10000:=by
  rw [Nat.div_lt_iff_lt_mul hD]
  have:=Nat.mul_le_mul_left 10000 (show R+1≤D from h.lt)
  omega
 refine⟨by rw [List.length_set,h.len],?_,Nat.mod_lt _ hD,fun x hx'=>?_⟩
 ·rw [vl_drop hk,List.drop_eq_getElem_cons (show k < (L.set k _).length by rw [List.length_set];exact hL),vl_cons,List.getElem_set_self,List.drop_set_of_lt (by omega),h.val]
  have e:=Nat.div_add_mod (xs[k].toNat+10000*R) D
  have e2:((D*((xs[k].toNat+10000*R) / D)+(xs[k].toNat+10000*R) % D:Nat):Int)=xs[k] +10000*(R:Int):=by
   rw [e];have:=hx.1;omega
  rw [Int.natCast_add,Int.natCast_mul]at e2
  grind
 ·rcases List.mem_or_eq_of_mem_set hx' with h' | h'
  ·exact h.rng x h'
  ·subst h'
   exact⟨Int.natCast_nonneg _,by omega⟩
theorem QI.fin {xs L:List Int} {D R:Nat} (h:QI xs D L 0 R) {N:Nat} (hN:vl 10000 xs=N):vl 10000 L=((N / D:Nat):Int)∧R=N % D:=by
 have hv:=h.val
 rw [List.drop_zero,List.drop_zero,hN]at hv
 have h0:=vl_nonneg (b:=10000) (l:=L) (fun x hx=>(h.rng x hx).1)
 simp only [show((10000:Nat):Int)=10000 from rfl]at h0
 obtain ⟨V,hV⟩:=Int.eq_ofNat_of_zero_le h0
 rw [hV]at hv⊢
 have hn:N=V*D+R:=by
  have:((V*D+R:Nat):Int)=N:=by rw [Int.natCast_add,Int.natCast_mul];exact hv.symm
  omega
 have hD:0 < D:=Nat.lt_of_le_of_lt (Nat.zero_le _) h.lt
 constructor
 ·rw [hn,Nat.mul_comm,Nat.mul_add_div hD,Nat.div_eq_of_lt h.lt,Nat.add_zero]
 ·rw [hn,Nat.mul_comm,Nat.mul_add_mod,Nat.mod_eq_of_lt h.lt]
theorem rest_vl (x:Int) (R:Nat) (hx:0≤x):vl 10000 (x::dg 10000 R)=((x.toNat+10000*R:Nat):Int):=by
 have:=vl_dg (b:=10000) (by omega) R
 simp only [show((10000:Nat):Int)=10000 from rfl]at this
 rw [vl_cons,this];omega
structure HalveN (D N low high:Nat):Prop where
 lo:D*low≤N
 hi:N < D*high
 lt:low < high
 le:high≤10000
theorem HalveN.start {D N R:Nat} {x:Nat} (h:R < D) (hx:x < 10000) (hN:N=x+10000*R):HalveN D N 0 10000:=
 ⟨by omega,by have:=Nat.mul_le_mul_left 10000 (show R+1≤D from h);rw [Nat.mul_comm D];omega,by omega,by omega⟩
theorem HalveN.up {D N low high m:Nat} (h:HalveN D N low high) (hm:D*m≤N) (h2:m < high):HalveN D N m high:=⟨hm,h.hi,h2,h.le⟩
theorem HalveN.dn {D N low high m:Nat} (h:HalveN D N low high) (hm:N < D*m) (h2:low < m) (h3:m < high):HalveN D N low m:=⟨h.lo,hm,h2,by have:=h.le;omega⟩
theorem HalveN.fin {D N low high:Nat} (h:HalveN D N low high) (he:high - low≤1):low=N / D∧N - D*low=N % D:=by
 have hl:=h.lt
 have e:high=low+1:=by omega
 have h1:=h.lo
 have h2:=h.hi
 rw [e,Nat.mul_add,Nat.mul_one]at h2
 have e1:N / D=low:=by
  rw [Nat.div_eq_iff (by omega)]
  rw [Nat.mul_comm low D]
  omega
 refine⟨e1.symm,?_⟩
 have:=Nat.div_add_mod N D
 rw [e1]at this
 omega
theorem nquot {a d:Int} (hd:d≠0):
  (¬ (a < 0∧a.natAbs % d.natAbs≠0)→a / d=(if d < 0 then -(sgnN a*((a.natAbs / d.natAbs:Nat):Int))else sgnN a*((a.natAbs / d.natAbs:Nat):Int))∧a % d=((a.natAbs % d.natAbs:Nat):Int))∧
  (a < 0∧a.natAbs % d.natAbs≠0→a / d=(if d < 0 then -(sgnN a*((a.natAbs / d.natAbs:Nat):Int) - 1)else sgnN a*((a.natAbs / d.natAbs:Nat):Int) - 1)∧a % d=(d.natAbs:Int) - ((a.natAbs % d.natAbs:Nat):Int)):=by
 by_cases ha:a < 0
 ·have hs:sgnN a= -1:=by unfold sgnN;rw [if_neg (by omega),if_pos ha]
  rw [hs,Int.neg_one_mul]
  constructor
  ·intro h
   have h0:a.natAbs % d.natAbs=0:=by
    rcases Nat.eq_zero_or_pos (a.natAbs % d.natAbs)with h' | h'
    ·exact h'
    ·exact absurd ⟨ha,by omega⟩ h
   exact q_0 (by simpa using ha) hd h0
  ·intro h
   exact q_1 (by simpa using ha) hd h.2
 ·constructor
  ·intro _
   obtain ⟨x,y,z⟩:=q_pos (z:=a) (by simpa using ha) hd
   have:=ediv_of x y z
   by_cases h0:a=0
   ·subst h0
    have hs:sgnN 0=0:=rfl
    rw [hs]at*
    simp
   ·have hs:sgnN a=1:=by unfold sgnN;rw [if_neg h0,if_neg ha]
    rw [hs,Int.one_mul];exact this
  ·intro h;exact absurd h.1 ha
end Go.Proofs.YthmdhlopeponcaaGreatDoor

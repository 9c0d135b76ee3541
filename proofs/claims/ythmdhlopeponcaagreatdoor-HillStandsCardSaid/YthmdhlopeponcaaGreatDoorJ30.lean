/- the laws' helpers: points of a profile, lists that are alike, ratios that are nothing, the chapter's profile -/
/- the chapter's profile: what it comes to (plain) -/
/- the pool's level (plain): below it too little, from it on enough -/
/- Dig -/
import Derived.Test.YthmdhlopeponcaaGreatDoorJ0
import Derived.Test.YthmdhlopeponcaaGreatDoorJ26
import Derived.Test.YthmdhlopeponcaaGreatDoorJ17
import Derived.Test.YthmdhlopeponcaaGreatDoorJ29
import Derived.Test.YthmdhlopeponcaaGreatDoorJ28
import Derived.Test.YthmdhlopeponcaaGreatDoorJ27
namespace Go.Proofs.YthmdhlopeponcaaGreatDoor
open Go.RowKit Go.Shelf Dig
def RetRow (w:World) (t:TypeId) (size n:Nat) (xs:List Value) (e:Ending) (w':World):Prop:=∃a c,e= .returned (.slice a n c)∧w'.ownsRow w.heap.size t size (.slice a n c) n xs∧Below w.heap.size w w'
theorem L2_snoc (l:List I2) (k:Nat) (h:k < l.length):L2 (l.take (k+1))=L2 (l.take k)++c2 l[k]:=by rw [List.take_succ_eq_append_getElem h,L2_append];simp [L2]
theorem und_Pts:Tryz.prog.underlying 25=some (.slice 83):=Tryz.underlying25
theorem info_Pts:(Tryz.prog.info? 83).map (fun i=>(i.zero,i.size,i.bytes))=some (some (.agg #[.int .i64 0,.int .i64 0]),2,16):=by kernel_rfl
set_option maxHeartbeats 4000000 in
set_option maxRecDepth 100000 in
theorem conv_Pts (a:Option Addr) (n c:Nat) (l:List I2) (w:World) (hs:Sx 2 w a n c (L2 l)) (hn:n≤100000):
  Calls Tryz.prog 17 #[.slice a n c] w (RetRow w 83 2 l.length (L2 l)):=by
 have hlen:=hs.n2
 have HS:=Lib.hid hs
 obtain rfl:l.length=n:=hlen.symm
 clear hs hlen
 go_enter Tryz.func17,Tryz.ntmps17
 go_wp2
 go_loopw [3,4] (fun ov iv wr=>∃ (k:Nat) (a1:Option Addr) (c1:Nat),k≤l.length∧ov= .slice a1 k c1∧iv= .int .i64 k∧Hid (Sy w wr [] [⟨.slice a1 k c1,83,2,k,L2 (l.take k)⟩] [])) (fun _ iv _=>l.length - (intOf iv).toNat)
 case atStart=>exact⟨0,none,0,Nat.zero_le _,rfl,rfl,Lib.hid ((Sy.enter w).onil _ 2)⟩
 case round=>
  obtain ⟨k,a1,c1,hk,rfl,rfl,hC⟩:=hrel
  by_cases hlt:k < l.length
  ·obtain ⟨g0,o0,rfl⟩:=HS.out.addr (by omega)
   have HF:=Lib.hid (fun V (hV:Below w.heap.size w V)=>(HS.out.below hV).at2 hlt)
   have HT:=Lib.hid (L2_snoc l k hlt)
   generalize l[k]=x at*
   obtain ⟨u0,u1⟩:=x
   go_upto_region 5 with fail
   refine wp_region_noPanic ?_
   refine wp_region_held_drew (S:=(fun w'=>w'.cell? ⟨g0,o0+k*2,none⟩=some (.int .i64 u0)∧w'.cell? ⟨g0,o0+k*2+1,none⟩=some (.int .i64 u1)∧True)) (by kernel_rfl) ⟨(HF.out _ hC.out.drew.be).1,(HF.out _ hC.out.drew.be).2,trivial⟩ (fun hH=>?_)
   refine wpAnyH_geny (show Sy w _ [] [⟨.slice a1 k c1,83,2,k,L2 (l.take k)⟩] []from hC.out.drew) hH ?_
   intro VPts_0 hc hHPts_0
   have hVPts_0:=Lib.hid hc
   clear hc hH hC
   refine tkL 0 ?_ rfl hHPts_0 ?_ ?_;rotate_left
   ·intro wS hSw;(try dsimp only at hSw);go_simp;try with_reducible rfl
   try simp only [Act.put,zI,z0,zS]
   refine tkL 1 ?_ rfl hHPts_0 ?_ ?_;rotate_left
   ·intro wS hSw;(try dsimp only at hSw);go_simp;try with_reducible rfl
   try simp only [Act.put,zI,z0,zS]
   refine tkL 2 ?_ rfl hHPts_0 ?_ ?_;rotate_left
   ·intro wS hSw;(try dsimp only at hSw);go_simp;try with_reducible rfl
   try simp only [Act.put,zI,z0,zS]
   refine tkL 3 ?_ rfl hHPts_0 ?_ ?_;rotate_left
   ·intro wS hSw;(try dsimp only at hSw);go_simp;try with_reducible rfl
   try simp only [Act.put,zI,z0,zS]
   refine tkL 4 ?_ rfl hHPts_0 ?_ ?_;rotate_left
   ·intro wS hSw;(try dsimp only at hSw);go_simp;try with_reducible rfl
   try simp only [Act.put,zI,z0,zS]
   refine tkL 5 ?_ rfl hHPts_0 ?_ ?_;rotate_left
   ·intro wS hSw;(try dsimp only at hSw);go_simp;try with_reducible rfl
   try simp only [Act.put,zI,z0,zS]
   refine tkL 6 ?_ rfl hHPts_0 ?_ ?_;rotate_left
   ·intro wS hSw;(try dsimp only at hSw);go_simp;try with_reducible rfl
   try simp only [Act.put,zI,z0,zS]
   refine tkL 7 ?_ rfl hHPts_0 ?_ ?_;rotate_left
   ·intro wS hSw;(try dsimp only at hSw);go_simp;try with_reducible rfl
   try simp only [Act.put,zI,z0,zS]
   refine tkL 8 ?_ rfl hHPts_0 ?_ ?_;rotate_left
   ·intro wS hSw;(try dsimp only at hSw);go_simp;try with_reducible rfl
   try simp only [Act.put,zI,z0,zS]
   refine tkL 9 ?_ rfl hHPts_0 ?_ ?_;rotate_left
   ·intro wS hSw;(try dsimp only at hSw);go_simp;try with_reducible rfl
   try simp only [Act.put,zI,z0,zS]
   refine tkL 10 ?_ rfl hHPts_0 ?_ ?_;rotate_left
   ·intro wS hSw;(try dsimp only at hSw);go_simp;try with_reducible rfl
   try simp only [Act.put,zI,z0,zS]
   refine tkL 11 ?_ rfl hHPts_0 ?_ ?_;rotate_left
   ·intro wS hSw;(try dsimp only at hSw);go_simp;try with_reducible rfl
   try simp only [Act.put,zI,z0,zS]
   refine rdy1 12 rfl (fun Kq hKq=>?_)
   go_simp
   refine stepY hKq (show Sy w _ [] [⟨.slice a1 k c1,83,2,k,L2 (l.take k)⟩,⟨.slice (some ⟨VPts_0.heap.size,0,none⟩) 1 1,83,2,1,[.int .i64 u0,.int .i64 u1]⟩] []from(hVPts_0.out.onew VPts_0.heap.size #[.int .i64 u0,.int .i64 u1] 83 2 1 rfl (by omega) rfl)) (fun _ hX=>⟨(HF.out _ hX.be).1,(HF.out _ hX.be).2,trivial⟩) ?_
   intro VPts_1 hc hHPts_1
   have hVPts_1:=Lib.hid hc
   clear hc hKq Kq hVPts_0 hHPts_0
   try simp only [Act.put,zI,z0,zS]
   refine rdy1 13 rfl (fun Kq hKq=>?_)
   rw [if_pos (by rfl)]
   refine op_append_sy hVPts_1.out 0 1 rfl rfl _ _ _ rfl und_Pts info_Pts rfl (by omega) rfl rfl (by intro u hu;simp at hu;rcases hu with rfl | rfl<;>rfl) (by omega) (by omega) (fun aAPts_2 cAPts_2 _ hc=>?_)
   refine stepY hKq (show Sy w _ [] [⟨.slice aAPts_2 (k+1) cAPts_2,83,2,k+1,L2 (l.take k)++ [.int .i64 u0,.int .i64 u1]⟩,⟨.slice (some ⟨VPts_0.heap.size,0,none⟩) 1 1,83,2,1,[.int .i64 u0,.int .i64 u1]⟩] []from hc) (fun _ hX=>⟨(HF.out _ hX.be).1,(HF.out _ hX.be).2,trivial⟩) ?_
   intro VPts_2 hc2 hHPts_2
   have hVPts_2:=Lib.hid hc2
   clear hc2 hKq Kq hVPts_1 hc hHPts_1
   try simp only [Act.put,zI,z0,zS]
   refine rdy1 14 rfl (fun Kq hKq=>?_)
   go_simp
   refine stepY hKq (show Sy w _ [] [⟨.slice aAPts_2 (k+1) cAPts_2,83,2,k+1,L2 (l.take k)++ [.int .i64 u0,.int .i64 u1]⟩,⟨.slice (some ⟨VPts_0.heap.size,0,none⟩) 1 1,83,2,1,[.int .i64 u0,.int .i64 u1]⟩] []from hVPts_2.out) (fun _ hX=>⟨(HF.out _ hX.be).1,(HF.out _ hX.be).2,trivial⟩) ?_
   intro VPts_3 hc hHPts_3
   have hVPts_3:=Lib.hid hc
   clear hc hKq Kq hVPts_2 hHPts_2
   try simp only [Act.put,zI,z0,zS]
   refine wpAnyH_done (by kernel_rfl) ?_ _
   refine NoPanic.normal ?_
   go_wp2
   go_roundw
   case rel=>
    refine⟨k+1,_,_,by omega,rfl,by go_num,?_⟩
    rw [HT.out]
    exact Lib.hid (hVPts_3.out.thin (List.Sublist.refl _) (by exact List.Sublist.cons_cons _ (List.nil_sublist _)))
   case measure=>simp [intOf];omega
  ·obtain rfl:k=l.length:=by omega
   go_wp2
   go_ret
   exact⟨_,_,rfl,by have h:=hC.out.gives 0 rfl;rwa [List.take_length]at h,hC.out.be⟩
section
variable (w:World)
set_option maxHeartbeats 4000000 in
set_option maxRecDepth 100000 in
theorem ints_any (a1 a2:Option Addr) (n1 c1 n2 c2:Nat) (xs ys:List Int) (h1:Sx 1 w a1 n1 c1 (L1 xs)) (h2:Sx 1 w a2 n2 c2 (L1 ys)):
  Calls Tryz.prog 23 #[.slice a1 n1 c1,.slice a2 n2 c2] w (Gives (.bool (decide (xs=ys))) w):=by
 have cap1:=h1.cap
 have cap2:=h2.cap
 unfold maxLen at cap1 cap2
 obtain rfl:=h1.n1
 obtain rfl:=h2.n1
 have H1:=Lib.hid h1
 have H2:=Lib.hid h2
 clear h1 h2
 go_enter Tryz.func23,Tryz.ntmps23
 by_cases hl:xs.length=ys.length
 rotate_left
 ·have h3:((xs.length:Int) !=(ys.length:Int))=true:=bne_iff_ne.2 (by omega)
  have HE:=Lib.hid (show decide (xs=ys)=false from decide_eq_false (fun e=>hl (by rw [e])))
  go_wp2
  go_ret
  exact⟨congrArg (fun z=>Ending.returned (Value.bool z)) HE.out.symm,Below.refl _ _⟩
 have h3:((xs.length:Int) !=(ys.length:Int))=false:=bne_eq_false_iff_eq.2 (by omega)
 have hC:=Lib.hid (Sy.enter w)
 go_wp2
 go_loopw [5] (fun iv wr=>∃k:Nat,k≤xs.length∧iv= .int .i64 k∧Hid (xs.take k=ys.take k)∧Hid (Sy w wr [] [] [])) (fun iv _=>xs.length - (intOf iv).toNat)
 case atStart=>exact⟨0,Nat.zero_le _,rfl,Lib.hid rfl,hC⟩
 case round=>
  clear hC
  obtain ⟨k,hk,rfl,HT,hC⟩:=hrel
  by_cases hlt:k < xs.length
  ·have hl2:k < ys.length:=by omega
   have j0:(0:Int)≤(k:Int):=by omega
   have j1:(k:Int) < (xs.length:Int):=by omega
   have j2:(k:Int) < (ys.length:Int):=by omega
   obtain ⟨g1,o1,rfl⟩:=H1.out.addr (by omega)
   obtain ⟨g2,o2,rfl⟩:=H2.out.addr (by omega)
   have y0:=(H1.out.below hC.out.be).at1 hlt
   have y1:=(H2.out.below hC.out.be).at1 hl2
   have HS:=Lib.hid (show xs.take (k+1)=xs.take k++ [xs[k]]from List.take_succ_eq_append_getElem hlt)
   have HS2:=Lib.hid (show ys.take (k+1)=ys.take k++ [ys[k]]from List.take_succ_eq_append_getElem hl2)
   have HN:=Lib.hid (show xs[k]≠ys[k]→decide (xs=ys)=false from fun h=>decide_eq_false (fun e=>h (by subst e;rfl)))
   clear h3 hl
   generalize xs[k]=x at*
   generalize ys[k]=y at*
   by_cases he:x=y
   ·subst he
    clear HN
    go_upto_region 6 with fail
    go_quiet (fail)
    have hD:=Lib.hid (hC.out.call (below_dN (Below.refl _ _) nq))
    go_wp2
    go_roundw
    case rel=>exact⟨k+1,by omega,by go_num,Lib.hid (by rw [HS.out,HS2.out,HT.out]),hD⟩
    case measure=>simp [intOf];omega
   ·have h4:(x !=y)=true:=bne_iff_ne.2 he
    have HE:=Lib.hid (HN.out he)
    clear HN HS HS2 HT
    go_upto_region 6 with fail
    go_quiet (fail)
    have hD:=Lib.hid (hC.out.call (below_dN (Below.refl _ _) nq))
    go_wp2
    go_ret
    exact⟨congrArg (fun z=>Ending.returned (Value.bool z)) HE.out.symm,hD.out.be⟩
  ·obtain rfl:k=xs.length:=by omega
   have HE:=Lib.hid (show decide (xs=ys)=true from decide_eq_true (by have:=HT.out;rw [List.take_length,hl,List.take_length]at this;exact this))
   clear HT h3 hl hlt hk
   go_wp2
   go_ret
   exact⟨congrArg (fun z=>Ending.returned (Value.bool z)) HE.out.symm,hC.out.be⟩
def slopeL:List Pt:=[(0,0),(1000,0),(3000,400),(4000,400)]
set_option maxHeartbeats 4000000 in
theorem slope_any:Calls Tryz.prog 58 #[] w (RetRow w 83 2 4 (L2 slopeL)):=by
 go_enter Tryz.func58,Tryz.ntmps58
 go_wp2
 go_ret
 have hC:=(Sy.enter w).onew w.heap.size #[.int .i64 0,.int .i64 0,.int .i64 1000,.int .i64 0,.int .i64 3000,.int .i64 400,.int .i64 4000,.int .i64 400] 83 2 4 rfl (by omega) rfl
 exact⟨_,_,rfl,hC.orow 0 rfl,hC.be⟩
end
end Go.Proofs.YthmdhlopeponcaaGreatDoor
namespace Go.Proofs.YthmdhlopeponcaaGreatDoor
open Go.RowKit Go.Shelf Dig
def brk5:List Int:=[0,1000,2000,3000,4000]
theorem sl_prof:profB slopeL=true:=by decide+kernel
theorem sl_e1:strErr slopeL 0 2000=0:=by decide+kernel
theorem sl_e2:strErr slopeL 0 4000=0:=by decide+kernel
theorem sl_g:grd slopeL 1500=100:=by decide+kernel
theorem sl_a:above slopeL 0 2000 100=25000:=by decide+kernel
theorem sl_b:below slopeL 0 2000 100=125000:=by decide+kernel
theorem sl_feet:folL min 150 ((nbr brk5).map fun t=>footI slopeL t.1 t.2 50)= [-50,-50,100,250]:=by decide+kernel
theorem sl_heads:folL max (-150) ((nbr brk5).map fun t=>headI slopeL t.1 t.2 1000)= [1100,1250,1400,1400]:=by decide+kernel
theorem sl_dig:digQ slopeL brk5 [-50,-50,100,250]=550000:=by decide+kernel
theorem sl_best:bestC slopeL 0 1000 1000 50 4 2=some (600000,[0,2000,4000]):=by decide+kernel
theorem sl_pool:poolB slopeL 0 2000 100000 100083=true:=by decide+kernel
theorem sl_pool':poolB slopeL 0 2000 100000 100082=false:=by decide+kernel
theorem count_mono {p:Nat→Bool} {k:Nat} (h1:∀i,k≤i→p i=true) (h0:∀i,i < k→p i=false):∀n,(List.range n).countP (fun i=> !p i)=min n k
 | 0=>by simp
 | n+1=>by
   rw [List.range_succ,List.countP_append,count_mono h1 h0 n,List.countP_singleton]
   by_cases h:n < k
   ·rw [h0 n h];simp only [Bool.not_false,if_true];omega
   ·rw [h1 n (by omega)];simp only [Bool.not_true,Bool.false_eq_true,if_false];omega
theorem Strt.poolN_eq {l:List Pt} {a b area:Int} (hT:Strt l a b) {k:Nat} (hk:k < 200001) (h1:poolB l a b area k=true) (h0:poolB l a b area (k - 1)=false):poolN l a b area=k:=by
 have h3:=count_mono (p:=fun i=>if i < 200001 then poolB l a b area i else true) (k:=k) (fun i hi=>by
  split
  ·rename_i h;exact hT.pool_mono k i hi h h1
  ·rfl) (fun i hi=>by
  rw [if_pos (by omega)]
  cases e:poolB l a b area i
  ·rfl
  ·rw [hT.pool_mono i (k - 1) (by omega) (by omega) e]at h0;cases h0) 200001
 unfold poolN
 rw [show min 200001 k=k by omega]at h3
 rw [←h3]
 refine List.countP_congr fun i hi=>?_
 rw [if_pos (List.mem_range.1 hi)]
theorem sl_flood:floodErr slopeL 0 2000 100000=0∧floodLev slopeL 0 2000 100000=83:=by
 have h:=(strErr_zero sl_e1).poolN_eq (by omega) sl_pool sl_pool'
 have he:floodErr slopeL 0 2000 100000=0:=by
  unfold floodErr
  rw [if_pos sl_e1,if_pos (by decide),h]
  rfl
 refine⟨he,?_⟩
 unfold floodLev
 rw [if_pos he,h]
 rfl
theorem sl_rows:rowsErr slopeL brk5 [-50,-50,100,250] [1100,1250,1400,1400] 300=0:=by decide+kernel
theorem sl_rows4:(rowsL brk5 [-50,-50,100,250] [1100,1250,1400,1400] 300).length=4:=by decide+kernel
end Go.Proofs.YthmdhlopeponcaaGreatDoor
namespace Go.Proofs.YthmdhlopeponcaaGreatDoor
open Go.RowKit Go.Shelf Dig
theorem mono_thr {p:Nat→Bool} :∀N:Nat,(∀x y,x≤y→y < N→p x=true→p y=true)→∃k,k≤N∧(∀i,i < k→p i=false)∧∀i,k≤i→i < N→p i=true
 | 0,_=>⟨0,Nat.le_refl _,fun _ h=>absurd h (by omega),fun _ _ h=>absurd h (by omega)⟩
 | N+1,h=>by
   obtain ⟨k,hk,h1,h2⟩:=mono_thr N (fun x y hxy hy hp=>h x y hxy (by omega) hp)
   by_cases hkN:k < N
   ·exact⟨k,by omega,h1,fun i hi hN=>h k i hi hN (h2 k (Nat.le_refl _) hkN)⟩
   ·obtain rfl:k=N:=by omega
    cases hp:p k
    ·refine⟨k+1,Nat.le_refl _,fun i hi=>?_,fun i hi hN=>absurd hN (by omega)⟩
     by_cases e:i=k
     ·rw [e];exact hp
     ·exact h1 i (by omega)
    ·refine⟨k,by omega,h1,fun i hi hN=>?_⟩
     obtain rfl:i=k:=by omega
     exact hp
theorem Strt.poolN_is {l:List Pt} {a b area:Int} (hT:Strt l a b):poolN l a b area≤200001∧(∀i,i < poolN l a b area→poolB l a b area i=false)∧∀i,poolN l a b area≤i→i < 200001→poolB l a b area i=true:=by
 obtain ⟨k,hk,h1,h2⟩:=mono_thr (p:=poolB l a b area) 200001 hT.pool_mono
 have h3:=count_mono (p:=fun i=>if i < 200001 then poolB l a b area i else true) (k:=k) (fun i hi=>by
  split
  ·rename_i h;exact h2 i hi h
  ·rfl) (fun i hi=>by
  rw [if_pos (by omega)]
  exact h1 i hi) 200001
 have e:poolN l a b area=k:=by
  unfold poolN
  rw [show min 200001 k=k by omega]at h3
  rw [←h3]
  refine List.countP_congr fun i hi=>?_
  rw [if_pos (List.mem_range.1 hi)]
 rw [e]
 exact⟨hk,h1,h2⟩
theorem Strt.flood_is {l:List Pt} {a b area:Int} (hT:Strt l a b) (h0:strErr l a b=0) (hf:floodErr l a b area=0):(1≤area∧area≤1000000000000)∧(-100000≤floodLev l a b area∧floodLev l a b area≤100000)∧0≤cmpQ (below l a b (floodLev l a b area)) (area:Rat)∧(-100000 < floodLev l a b area→cmpQ (below l a b (floodLev l a b area - 1)) (area:Rat) < 0):=by
 have hf0:=hf
 unfold floodErr at hf
 rw [if_pos h0]at hf
 by_cases hin:inB area 1 1000000000000=true
 ·rw [if_pos hin]at hf
  by_cases hp:poolN l a b area=200001
  ·rw [if_pos hp]at hf;cases hf
  ·obtain ⟨p1,p2,p3⟩:=hT.poolN_is (area:=area)
   have e:floodLev l a b area=(poolN l a b area:Int) - 100000:=by unfold floodLev;rw [if_pos hf0]
   rw [e]
   refine⟨inB_iff.1 hin,by omega,?_,fun h=>?_⟩
   ·have:=p3 _ (Nat.le_refl _) (by omega)
    unfold poolB at this
    exact of_decide_eq_true this
   ·have:=p2 (poolN l a b area - 1) (by omega)
    unfold poolB at this
    have:=of_decide_eq_false this
    rw [show((poolN l a b area - 1:Nat):Int) - 100000=(poolN l a b area:Int) - 100000 - 1 by omega]at this
    omega
 ·rw [if_neg hin]at hf;cases hf
theorem flood_err {l:List Pt} {a b area:Int} (h0:strErr l a b=0):floodErr l a b area=0∨floodErr l a b area=3∨floodErr l a b area=12:=by
 unfold floodErr
 rw [if_pos h0]
 split
 ·split
  ·exact .inr (.inr rfl)
  ·exact .inl rfl
 ·exact .inr (.inl rfl)
end Go.Proofs.YthmdhlopeponcaaGreatDoor
namespace Go.Proofs.YthmdhlopeponcaaGreatDoor
open Go.RowKit Go.Shelf Dig
def digB (l:List Pt) (bs zs:List Int):Bool:=brkB l bs && !wrongB (bs.length - 1) zs
theorem wrongB_no {n:Nat} {zs:List Int} (h:wrongB n zs=false):zs.length=n∧∀z∈zs,-200000≤z∧z≤200000:=by
 unfold wrongB at h
 rw [Bool.or_eq_false_iff]at h
 refine⟨by have:=of_decide_eq_false h.1;omega,fun z hz=>?_⟩
 have:=List.any_eq_false.1 h.2 z hz
 have h2:inB z (-200000) 200000=true:=by cases e:inB z (-200000) 200000<;>simp_all
 exact inB_iff.1 h2
section
variable (w:World)
set_option maxHeartbeats 8000000 in
set_option maxRecDepth 100000 in
theorem hDig_ok (sa:Option Addr) (sn sc:Nat) (l:List Pt) (hs:Sx 2 w sa sn sc (L2 l)) (ba:Option Addr) (bn bc:Nat) (bs:List Int) (hb:Sx 1 w ba bn bc (L1 bs)) (za:Option Addr) (zn zc:Nat) (zs:List Int) (hz:Sx 1 w za zn zc (L1 zs)) (hok:digB l bs zs=true):Calls Tryz.prog 26 #[.slice sa sn sc,.slice ba bn bc,.slice za zn zc] w (RetRE w (digQ l bs zs) 0):=by
 have HT:=Lib.hid (fun W (hW:Below w.heap.size w W)=>treads_any W sa sn sc l (hs.below hW) ba bn bc bs (hb.below hW))
 have HWR:=Lib.hid (fun W (hW:Below w.heap.size w W) ta tc=>wrong_any W ta (bs.length - 1) tc za zn zc zs (hz.below hW))
 have hok2:=hok
 unfold digB at hok2
 rw [Bool.and_eq_true,Bool.not_eq_true']at hok2
 obtain ⟨hk1,hk2⟩:=hok2
 obtain ⟨hzl,hzb⟩:=wrongB_no hk2
 obtain ⟨-,⟨hl1,hl2⟩,-,-⟩:=brk_ok hk1
 rw [hk1]at HT
 rw [hk2]at HWR
 have HBQ:=Lib.hid (fun k=>dig_bq hk1 (fun z hz=>by have:=hzb z hz;unfold InZ;omega) hzl k)
 have HAB:=Lib.hid (fun W (hW:Below w.heap.size w W) t (ht:t∈nbr bs) z (hz:z∈zs)=>above_any W sa sn sc l t.1 t.2 z (brk_strt hk1 ht) (by have:=hzb z hz;unfold InZ;omega) (hs.below hW))
 have HAQ:=Lib.hid (fun t (ht:t∈nbr bs) z (hz:z∈zs)=>(brk_strt hk1 ht).above_bq (z:=z) (by have:=hzb z hz;unfold InZ;omega))
 have HZ:=Lib.hid (fun W (hW:Below w.heap.size w W)=>hz.below hW)
 obtain rfl:=hz.n1
 have HZ0:=Lib.hid hz
 have HDL:=Lib.hid (digP_len hzl)
 have HNL:=Lib.hid (nbr_len bs)
 have HTD:=Lib.hid (fun k (h:k < (nbr bs).length)=>tdC_get (v:= .slice sa sn sc) h)
 have HZL:=Lib.hid hzl
 clear hs hb hz hok hk1 hk2 hzb hzl
 have hC:=Lib.hid ((Sy.enter w).al w.heap.size #[.slice none 0 0,.bool false,.slice none 0 0] 42 rfl)
 go_enter Tryz.func26,Tryz.ntmps26
 go_wp2_with fail
 refine(HT.out _ hC.out.be).mono ?_
 rintro e w1 (⟨-,a,c,rfl,hr,hbb⟩ | ⟨h1,-⟩)
 rotate_left
 ·cases h1
 have hD:=Lib.hid (hC.out.adopt hbb hr)
 clear hC hbb HT hr
 go_wp2_with fail
 refine(HWR.out _ hD.out.be _ _).mono ?_
 rintro e w2 ⟨rfl,hbb⟩
 have hE:=Lib.hid (hD.out.call hbb)
 clear hD hbb HWR
 obtain ⟨nn,hnn⟩:∃nn,bs.length - 1=nn:=⟨_,rfl⟩
 rw [hnn]at hE HDL HNL HZL⊢
 have hn1:0 < nn∧nn≤60:=by omega
 obtain ⟨g,hga,hnc⟩:=hE.out.oaddr 0 rfl hn1.1
 subst hga
 obtain ⟨gz,oz,hza⟩:=HZ0.out.addr (by rw [HZL.out];exact hn1.1)
 subst hza
 clear hnn hl1 hl2 HZ0
 go_upto_region 5 with fail
 have hF:=Lib.hid (hE.out.al w2.heap.size #[.slice none 0 0,.bool false,.slice none 0 0] 42 rfl)
 obtain ⟨b10,hb10⟩:∃b,w2.heap.size=b:=⟨_,rfl⟩
 rw [hb10]at hF⊢
 refine wp_geny hF.out ?_
 intro V3 hc
 have hF2:=Lib.hid hc
 clear hc hF hE hb10
 have hG0:=Lib.hid (hF2.out.pR rfl rfl (Rd.nil (w:=V3)))
 clear hF2
 go_wp2
 go_loopw [29] (fun iv wr=>∃ (k:Nat) (a1:Option Addr) (n1 c1:Nat) (m1:Bool) (d1:Option Addr) (e1 f1:Nat),k≤nn∧iv= .int .i64 k∧Hid (Sy w wr [(w.heap.size,#[.slice none 0 0,.bool false,.slice none 0 0],42),(b10,#[.slice a1 n1 c1,.bool m1,.slice d1 e1 f1],42)] [⟨.slice (some ⟨g,0,none⟩) nn c,120,3,nn,tdC (.slice sa sn sc) (nbr bs)⟩] [(fun V=>Rd V (.slice a1 n1 c1) m1 (.slice d1 e1 f1) (smQ (((digP bs zs).take k).map (digA l))))])) (fun iv _=>nn - (intOf iv).toNat)
 case atStart=>exact⟨0,none,0,0,false,none,0,0,Nat.zero_le _,rfl,hG0⟩
 case round=>
  clear hG0
  obtain ⟨k,a1,n1,c1,m1,d1,e1,f1,hk,rfl,hS⟩:=hrel
  by_cases hkl:k < nn
  ·have hkn:k < (nbr bs).length:=by rw [HNL.out];exact hkl
   have hkz:k < zs.length:=by rw [HZL.out];exact hkl
   have hkd:k < (digP bs zs).length:=by rw [HDL.out];exact hkl
   obtain ⟨t0,t1,t2⟩:=HTD.out k hkn
   have HTK:=Lib.hid (show smQ (((digP bs zs).take (k+1)).map (digA l))=smQ (((digP bs zs).take k).map (digA l))+above l (nbr bs)[k].1 (nbr bs)[k].2 zs[k]from by
    rw [List.take_succ_eq_append_getElem hkd,List.map_append,List.map_singleton,smQ_snoc,digP_at hkn hkz hkd];rfl)
   have HCA:=Lib.hid (fun W (hW:Below w.heap.size w W)=>HAB.out W hW _ (List.getElem_mem hkn) _ (List.getElem_mem hkz))
   have BA:=Lib.hid (HAQ.out _ (List.getElem_mem hkn) _ (List.getElem_mem hkz))
   have BS:=Lib.hid (HBQ.out k)
   have HZC:=Lib.hid (fun W (hW:Below w.heap.size w W)=>(HZ.out W hW).at1 hkz)
   have HNX:=Lib.hid (show ∀q,q=smQ (((digP bs zs).take (k+1)).map (digA l))→q=smQ (((digP bs zs).take (k+1)).map (digA l))from fun _ h=>h)
   obtain ⟨q0,hq0⟩:∃q,smQ (((digP bs zs).take k).map (digA l))=q:=⟨_,rfl⟩
   rw [hq0]at HTK BS hS
   clear hq0
   generalize zs[k]=z at*
   generalize (nbr bs)[k]=t at*
   obtain ⟨u1,u2⟩:=t
   dsimp only at t1 t2 HCA BA HTK
   obtain ⟨q2,hq2⟩:∃q,above l u1 u2 z=q:=⟨_,rfl⟩
   rw [hq2]at HCA BA HTK
   clear hq2
   have c0:=hS.out.rcell 0 rfl t0
   have c1':=hS.out.rcell 0 rfl t1
   have c2':=hS.out.rcell 0 rfl t2
   have i0:(0:Int)≤(k:Int):=by omega
   have i1:(k:Int) < (nn:Int):=by omega
   have hE:=Lib.hid (hS.out.al wr.heap.size #[.slice sa sn sc,.int .i64 u1,.int .i64 u2] 120 rfl)
   clear t0 t1 t2
   go_upto_region 8 with fail
   obtain ⟨bb,hbb⟩:∃bb,wr.heap.size=bb:=⟨_,rfl⟩
   rw [hbb]at hE⊢
   refine wp_geny hE.out ?_
   intro V1 hc
   have hG:=Lib.hid hc
   clear hc hE hS c0 c1' c2' hbb
   have i2:(k:Int) < (zs.length:Int):=by rw [HZL.out];omega
   have HSL:∀V ex os rs,Sy w V ([(w.heap.size,#[.slice none 0 0,.bool false,.slice none 0 0],42),(b10,#[.slice a1 n1 c1,.bool m1,.slice d1 e1 f1],42),(bb,#[.slice sa sn sc,.int .i64 u1,.int .i64 u2],120)]++ex) os rs→(fun w'=>w'.cell? ⟨bb,0,none⟩=some (.slice sa sn sc)∧w'.cell? ⟨bb,1,none⟩=some (.int .i64 u1)∧w'.cell? ⟨bb,2,none⟩=some (.int .i64 u2)∧w'.cell? ⟨gz,oz+k,none⟩=some (.int .i64 z)∧True) V:=fun V ex os rs hX=>⟨hX.cell 2 0 rfl rfl,hX.cell 2 1 rfl rfl,hX.cell 2 2 rfl rfl,(HZC.out _ hX.be),trivial⟩
   refine wp_region_noPanic ?_
   refine wp_region_held_drew (S:=(fun w'=>w'.cell? ⟨bb,0,none⟩=some (.slice sa sn sc)∧w'.cell? ⟨bb,1,none⟩=some (.int .i64 u1)∧w'.cell? ⟨bb,2,none⟩=some (.int .i64 u2)∧w'.cell? ⟨gz,oz+k,none⟩=some (.int .i64 z)∧True)) (by kernel_rfl) ⟨hG.out.drew.cell 2 0 rfl rfl,hG.out.drew.cell 2 1 rfl rfl,hG.out.drew.cell 2 2 rfl rfl,(HZC.out _ hG.out.drew.be),trivial⟩ (fun hH=>?_)
   refine wpAnyH_geny (show Sy w _ [(w.heap.size,#[.slice none 0 0,.bool false,.slice none 0 0],42),(b10,#[.slice a1 n1 c1,.bool m1,.slice d1 e1 f1],42),(bb,#[.slice sa sn sc,.int .i64 u1,.int .i64 u2],120)] [⟨.slice (some ⟨g,0,none⟩) nn c,120,3,nn,tdC (.slice sa sn sc) (nbr bs)⟩] [(fun V=>Rd V (.slice a1 n1 c1) m1 (.slice d1 e1 f1) (q0))]from hG.out.drew) hH ?_
   intro VG_0 hc hHG_0
   have hVG_0:=Lib.hid hc
   clear hc hH hG
   refine tkL 1 ?_ rfl hHG_0 ?_ ?_;rotate_left
   ·intro wS hSw;(try dsimp only at hSw);go_simp;try with_reducible rfl
   try simp only [Act.put,zI,z0,zS]
   refine tkL 2 ?_ rfl hHG_0 ?_ ?_;rotate_left
   ·intro wS hSw;(try dsimp only at hSw);go_simp;try with_reducible rfl
   try simp only [Act.put,zI,z0,zS]
   refine tkL 3 ?_ rfl hHG_0 ?_ ?_;rotate_left
   ·intro wS hSw;(try dsimp only at hSw);go_simp;try with_reducible rfl
   try simp only [Act.put,zI,z0,zS]
   refine tkL 4 ?_ rfl hHG_0 ?_ ?_;rotate_left
   ·intro wS hSw;(try dsimp only at hSw);go_simp;try with_reducible rfl
   try simp only [Act.put,zI,z0,zS]
   refine tkL 5 ?_ rfl hHG_0 ?_ ?_;rotate_left
   ·intro wS hSw;(try dsimp only at hSw);go_simp;try with_reducible rfl
   try simp only [Act.put,zI,z0,zS]
   refine wpAnyH_ready (rs:=[0,6]) (by kernel_rfl) (by simp) ?_
   refine AllReadyH.cons (o:=⟨_,_,_,_,_,_⟩) rfl (fun Kq hKq=>?_) ?_
   ·have cQ0:=hVG_0.out.cell 1 0 rfl rfl
    have cQ1:=hVG_0.out.cell 1 1 rfl rfl
    have cQ2:=hVG_0.out.cell 1 2 rfl rfl
    go_simp
    refine stepY hKq hVG_0.out (fun _ hX=>HSL _ _ _ _ hX) ?_
    intro VG_1 hc hHG_1
    have hVG_1:=Lib.hid hc
    clear hc hKq Kq hVG_0 cQ0 cQ1 cQ2 hHG_0
    try simp only [Act.put,zI,z0,zS]
    refine rdy1 6 rfl (fun Kq hKq=>?_)
    go_simp
    go_at_call 70
    refine(HCA.out _ hVG_1.out.be).mono ?_
    rintro e wT ⟨a2,n2,c2,m2,d2,e2,f2,rfl,hz,hb⟩
    (try go_wp2_with fail)
    refine stepY hKq ((hVG_1.out.call hb).pR rfl rfl hz) (fun _ hX=>HSL _ _ _ _ hX) ?_
    intro VG_2 hc hHG_2
    have hVG_2:=Lib.hid hc
    clear hc hKq Kq hVG_1 hb hz hHG_1
    try simp only [Act.put,zI,z0,zS]
    refine rdy1 7 rfl (fun Kq hKq=>?_)
    go_simp
    go_at_call 40
    refine(radd_b (hVG_2.out.r 0 rfl) (hVG_2.out.r 1 rfl) BS.out BA.out (by omega) (by omega)).mono ?_
    rintro e wT ⟨a3,n3,c3,m3,d3,e3,f3,rfl,hz,hb⟩
    (try go_wp2_with fail)
    refine stepY hKq ((hVG_2.out.call hb).pR rfl rfl hz) (fun _ hX=>HSL _ _ _ _ hX) ?_
    intro VG_3 hc hHG_3
    have hVG_3:=Lib.hid hc
    clear hc hKq Kq hVG_2 hb hz hHG_2
    try simp only [Act.put,zI,z0,zS]
    refine rdy1 8 rfl (fun Kq hKq=>?_)
    have cQ0:=hVG_3.out.cell 1 0 rfl rfl
    have fQ0:=hVG_3.out.free 1 0 rfl
    have cQ1:=hVG_3.out.cell 1 1 rfl rfl
    have fQ1:=hVG_3.out.free 1 1 rfl
    have cQ2:=hVG_3.out.cell 1 2 rfl rfl
    have fQ2:=hVG_3.out.free 1 2 rfl
    go_simp
    refine stepY hKq (hVG_3.out|>.set (j:=0) (v:= .slice a3 n3 c3) 1 rfl|>.set (j:=1) (v:= .bool m3) 1 rfl|>.set (j:=2) (v:= .slice d3 e3 f3) 1 rfl) (fun _ hX=>⟨hX.cell 2 0 rfl rfl,hX.cell 2 1 rfl rfl,hX.cell 2 2 rfl rfl,(HZC.out _ hX.be),trivial⟩) ?_
    intro VG_4 hc hHG_4
    have hVG_4:=Lib.hid hc
    clear hc hKq Kq hVG_3 cQ0 fQ0 cQ1 fQ1 cQ2 fQ2 hHG_3
    try simp only [Act.put]
    refine wpAnyH_done (by kernel_rfl) ?_ _
    refine NoPanic.normal ?_
    go_wp2
    go_roundw
    case rel=>exact⟨k+1,_,_,_,_,_,_,_,by omega,by go_num,by rw [HTK.out];exact Lib.hid ((hVG_4.out.thin (bs':=[(w.heap.size,#[.slice none 0 0,.bool false,.slice none 0 0],42),(b10,#[.slice a3 n3 c3,.bool m3,.slice d3 e3 f3],42)]) (List.sublist_append_left [_,_] _) (List.Sublist.refl _)).pick [2] rfl)⟩
    case measure=>simp [intOf];omega
   refine AllReadyH.cons (o:=⟨_,_,_,_,_,_⟩) rfl (fun Kq hKq=>?_) ?_
   ·go_simp
    go_at_call 70
    refine(HCA.out _ hVG_0.out.be).mono ?_
    rintro e wT ⟨a2,n2,c2,m2,d2,e2,f2,rfl,hz,hb⟩
    (try go_wp2_with fail)
    refine stepY hKq ((hVG_0.out.call hb).pR rfl rfl hz) (fun _ hX=>HSL _ _ _ _ hX) ?_
    intro VG_1 hc hHG_1
    have hVG_1:=Lib.hid hc
    clear hc hKq Kq hVG_0 hb hz hHG_0
    try simp only [Act.put,zI,z0,zS]
    refine rdy1 0 rfl (fun Kq hKq=>?_)
    have cQ0:=hVG_1.out.cell 1 0 rfl rfl
    have cQ1:=hVG_1.out.cell 1 1 rfl rfl
    have cQ2:=hVG_1.out.cell 1 2 rfl rfl
    go_simp
    refine stepY hKq hVG_1.out (fun _ hX=>HSL _ _ _ _ hX) ?_
    intro VG_2 hc hHG_2
    have hVG_2:=Lib.hid hc
    clear hc hKq Kq hVG_1 cQ0 cQ1 cQ2 hHG_1
    try simp only [Act.put,zI,z0,zS]
    refine rdy1 7 rfl (fun Kq hKq=>?_)
    go_simp
    go_at_call 40
    refine(radd_b (hVG_2.out.r 0 rfl) (hVG_2.out.r 1 rfl) BS.out BA.out (by omega) (by omega)).mono ?_
    rintro e wT ⟨a3,n3,c3,m3,d3,e3,f3,rfl,hz,hb⟩
    (try go_wp2_with fail)
    refine stepY hKq ((hVG_2.out.call hb).pR rfl rfl hz) (fun _ hX=>HSL _ _ _ _ hX) ?_
    intro VG_3 hc hHG_3
    have hVG_3:=Lib.hid hc
    clear hc hKq Kq hVG_2 hb hz hHG_2
    try simp only [Act.put,zI,z0,zS]
    refine rdy1 8 rfl (fun Kq hKq=>?_)
    have cQ0:=hVG_3.out.cell 1 0 rfl rfl
    have fQ0:=hVG_3.out.free 1 0 rfl
    have cQ1:=hVG_3.out.cell 1 1 rfl rfl
    have fQ1:=hVG_3.out.free 1 1 rfl
    have cQ2:=hVG_3.out.cell 1 2 rfl rfl
    have fQ2:=hVG_3.out.free 1 2 rfl
    go_simp
    refine stepY hKq (hVG_3.out|>.set (j:=0) (v:= .slice a3 n3 c3) 1 rfl|>.set (j:=1) (v:= .bool m3) 1 rfl|>.set (j:=2) (v:= .slice d3 e3 f3) 1 rfl) (fun _ hX=>⟨hX.cell 2 0 rfl rfl,hX.cell 2 1 rfl rfl,hX.cell 2 2 rfl rfl,(HZC.out _ hX.be),trivial⟩) ?_
    intro VG_4 hc hHG_4
    have hVG_4:=Lib.hid hc
    clear hc hKq Kq hVG_3 cQ0 fQ0 cQ1 fQ1 cQ2 fQ2 hHG_3
    try simp only [Act.put]
    refine wpAnyH_done (by kernel_rfl) ?_ _
    refine NoPanic.normal ?_
    go_wp2
    go_roundw
    case rel=>exact⟨k+1,_,_,_,_,_,_,_,by omega,by go_num,by rw [HTK.out];exact Lib.hid ((hVG_4.out.thin (bs':=[(w.heap.size,#[.slice none 0 0,.bool false,.slice none 0 0],42),(b10,#[.slice a3 n3 c3,.bool m3,.slice d3 e3 f3],42)]) (List.sublist_append_left [_,_] _) (List.Sublist.refl _)).pick [2] rfl)⟩
    case measure=>simp [intOf];omega
   exact AllReadyH.nil
  ·obtain rfl:k=nn:=by omega
   have HFIN:=Lib.hid (show smQ (((digP bs zs).take k).map (digA l))=digQ l bs zs from by unfold digQ;rw [List.take_of_length_le (by rw [HDL.out];exact Nat.le_refl _)])
   rw [HFIN.out]at hS
   have x0_0:=hS.out.cell 0 0 rfl rfl
   have xf0_0:=hS.out.free 0 0 rfl
   have x0_1:=hS.out.cell 0 1 rfl rfl
   have xf0_1:=hS.out.free 0 1 rfl
   have x0_2:=hS.out.cell 0 2 rfl rfl
   have xf0_2:=hS.out.free 0 2 rfl
   have y1_0:=hS.out.cell 1 0 rfl rfl
   have y1_1:=hS.out.cell 1 1 rfl rfl
   have y1_2:=hS.out.cell 1 2 rfl rfl
   have l0:=hS.out.lt 0 rfl
   go_wp2
   have hZ:=Lib.hid (hS.out|>.set (j:=0) (v:= .slice a1 n1 c1) 0 rfl|>.set (j:=1) (v:= .bool m1) 0 rfl|>.set (j:=2) (v:= .slice d1 e1 f1) 0 rfl)
   refine ret_sy hZ.out (v:= .tuple #[.agg #[.slice a1 n1 c1,.bool m1,.slice d1 e1 f1],.int .i64 0]) (fun hF=>?_) rfl (fun hF=>⟨_,_,_,_,_,_,_,rfl,hF.r 0 rfl,hF.be⟩)
   have g0_0:=hF.cell 0 0 rfl rfl
   have g0_1:=hF.cell 0 1 rfl rfl
   have g0_2:=hF.cell 0 2 rfl rfl
   simp [results,Tryz.results26,go_sem,g0_0,g0_1,g0_2]
end
end Go.Proofs.YthmdhlopeponcaaGreatDoor

/- the reference's small, Foot, Head -/
import Derived.Test.YthmdhlopeponcaaGreatDoorX0
import Derived.Test.YthmdhlopeponcaaGreatDoorX48
import Derived.Test.YthmdhlopeponcaaGreatDoorX27
import Derived.Test.YthmdhlopeponcaaGreatDoorX1
import Derived.Test.YthmdhlopeponcaaGreatDoorX29
import Derived.Test.YthmdhlopeponcaaGreatDoorX34
set_option maxRecDepth 100000
set_option maxHeartbeats 8000000
namespace Go.Proofs.YthmdhlopeponcaaGreatDoor
open Go.RowKit Go.Shelf Dig
theorem i64res_is {z:Int} (h: -9223372036854775808≤z∧z≤9223372036854775807):i64resN z=(z,true):=if_pos h
section
variable (w:World)
theorem rsmall_any (s:Int) (a:Option Addr) (n c:Nat) (z:Int) (hz:Nz w s (.slice a n c) z) (hb: -1000000≤z∧z≤1000000):
  Calls Tryz.prog 124 #[.agg #[.int .i64 s,.slice a n c]] w (Gives (.int .i64 z) w):=by
 have hC:=ζ (((Sy.enter w).al w.heap.size #[.int .i64 s,.slice a n c] 48 rfl))
 have HZ:=ζ (fun V (hV:Keeps w V)=>zint64N_any s a n c z V (hz.keep hV) 21 (by unfold Bd;omega) (by omega))
 have HI:=ζ (i64res_is (z:=z) (by omega))
 rw [HI.out]at HZ
 clear hz HI
 have HK:=ζ (Below.keeps hC.out.be)
 go_enter Tryz.func124,Tryz.ntmps124
 have x0:=hC.out.cell 0 0 rfl rfl
 have x1:=hC.out.cell 0 1 rfl rfl
 go_wp2_with fail
 refine(HZ.out _ HK.out).mono ?_
 rintro e W1 ⟨rfl,hb⟩
 have hD:=ζ (hC.out.call hb)
 clear hb hC x0 x1
 go_wp2
 go_ret
 exact⟨rfl,hD.out.be⟩
theorem rFoot_any (a:Option Addr) (n c:Nat) (l:List Pt) (x y d:Int) (hs:Sx 2 w a n c (L2 l)) (hT:Strt l x y) (hd:0≤d∧d≤3000):
  Calls Tryz.prog 65 #[.slice a n c,.int .i64 x,.int .i64 y,.int .i64 d] w (Gives (.int .i64 (footI l x y d)) w):=by
 have HBO:=ζ (fun W (hW:Below w.heap.size w W)=>rBounds_any W a n c l x y (hs.below hW) hT)
 have HGD:=ζ (hT.lo_gd)
 have HVL:=ζ (show footI l x y d=(loQ l x y).floor - d from rfl)
 rw [HVL.out]
 clear hs hT HVL
 generalize loQ l x y=lo at*
 generalize hiQ l x y=hi at*
 have hC:=ζ (Sy.enter w)
 go_enter Tryz.func65,Tryz.ntmps65
 go_wp2_with fail
 refine(HBO.out _ hC.out.be).mono ?_
 rintro e W1 ⟨s1,a1,n1,c1,t1,d1,e1,f1,s2,a2,n2,c2,t2,d2,e2,f2,rfl,hz1,hz2,hb⟩
 have hD:=ζ (((hC.out.call hb).pq rfl rfl hz1).pq rfl rfl hz2)
 clear hb hz1 hz2 hC HBO
 go_upto_region 2 with fail
 have hX:=ζ (hD.out.al W1.heap.size #[.int .i64 s1,.slice a1 n1 c1,.int .i64 t1,.slice d1 e1 f1] 50 rfl|>.al (W1.heap.size+1) #[.int .i64 s2,.slice a2 n2 c2,.int .i64 t2,.slice d2 e2 f2] 50 (by simp))
 obtain ⟨b9,hb9⟩:∃b,W1.heap.size=b:=⟨_,rfl⟩
 have HB9:=ζ hb9
 refine wp_geny hX.out ?_
 intro V1 hc
 have hE:=ζ hc
 clear hc hX hD HB9 hb9
 have x0:=hE.out.cell 0 0 rfl rfl
 have x1:=hE.out.cell 0 1 rfl rfl
 have x2:=hE.out.cell 0 2 rfl rfl
 have x3:=hE.out.cell 0 3 rfl rfl
 go_wp2_with fail
 refine(rfloorN_b (hE.out.r 0 rfl) HGD.out.bq (by omega)).mono ?_
 rintro e W2 ⟨s3,a3,n3,c3,rfl,hz,hb⟩
 have hF:=ζ (hE.out.call hb)
 clear hb hE x0 x1 x2 x3
 have hfb:=HGD.out.floor
 obtain ⟨v,hv⟩:∃v,lo.floor=v:=⟨_,rfl⟩
 rw [hv]at hfb hz
 have HV:=ζ hv
 clear hv
 have v1:IntKind.i64.wrap (v - d)=v - d:=IntWalk.i64_in _ (by omega)
 go_wp2_with fail
 refine(rsmall_any _ s3 a3 n3 c3 v hz (by omega)).mono ?_
 rintro e W3 ⟨rfl,hb⟩
 have hG:=ζ (hF.out.call hb)
 clear hb hz hF
 go_wp2
 go_ret
 exact⟨ret_int (by rw [HV.out]),hG.out.be⟩
theorem rHead_any (a:Option Addr) (n c:Nat) (l:List Pt) (x y d:Int) (hs:Sx 2 w a n c (L2 l)) (hT:Strt l x y) (hd:0≤d∧d≤3000):
  Calls Tryz.prog 67 #[.slice a n c,.int .i64 x,.int .i64 y,.int .i64 d] w (Gives (.int .i64 (headI l x y d)) w):=by
 have HBO:=ζ (fun W (hW:Below w.heap.size w W)=>rBounds_any W a n c l x y (hs.below hW) hT)
 have HGD:=ζ (hT.hi_gd)
 have HVL:=ζ (show headI l x y d=(hiQ l x y).ceil+d from rfl)
 rw [HVL.out]
 clear hs hT HVL
 generalize loQ l x y=lo at*
 generalize hiQ l x y=hi at*
 have hC:=ζ (Sy.enter w)
 go_enter Tryz.func67,Tryz.ntmps67
 go_wp2_with fail
 refine(HBO.out _ hC.out.be).mono ?_
 rintro e W1 ⟨s1,a1,n1,c1,t1,d1,e1,f1,s2,a2,n2,c2,t2,d2,e2,f2,rfl,hz1,hz2,hb⟩
 have hD:=ζ (((hC.out.call hb).pq rfl rfl hz1).pq rfl rfl hz2)
 clear hb hz1 hz2 hC HBO
 go_upto_region 2 with fail
 have hX:=ζ (hD.out.al W1.heap.size #[.int .i64 s1,.slice a1 n1 c1,.int .i64 t1,.slice d1 e1 f1] 50 rfl|>.al (W1.heap.size+1) #[.int .i64 s2,.slice a2 n2 c2,.int .i64 t2,.slice d2 e2 f2] 50 (by simp))
 obtain ⟨b9,hb9⟩:∃b,W1.heap.size=b:=⟨_,rfl⟩
 have HB9:=ζ hb9
 refine wp_geny hX.out ?_
 intro V1 hc
 have hE:=ζ hc
 clear hc hX hD HB9 hb9
 have x0:=hE.out.cell 1 0 rfl rfl
 have x1:=hE.out.cell 1 1 rfl rfl
 have x2:=hE.out.cell 1 2 rfl rfl
 have x3:=hE.out.cell 1 3 rfl rfl
 go_wp2_with fail
 refine(rceilN_any _ _ _ _ _ _ _ _ _ _ (hE.out.r 1 rfl) 36 HGD.out.bq (by omega)).mono ?_
 rintro e W2 ⟨s3,a3,n3,c3,rfl,hz,hb⟩
 have hF:=ζ (hE.out.call hb)
 clear hb hE x0 x1 x2 x3
 have hfb:=HGD.out.ceil
 rw [show -((-hi).floor)=hi.ceil from ceil_neg hi]at hz
 obtain ⟨v,hv⟩:∃v,hi.ceil=v:=⟨_,rfl⟩
 rw [hv]at hfb hz
 have HV:=ζ hv
 clear hv
 have v1:IntKind.i64.wrap (v+d)=v+d:=IntWalk.i64_in _ (by omega)
 go_wp2_with fail
 refine(rsmall_any _ s3 a3 n3 c3 v hz (by omega)).mono ?_
 rintro e W3 ⟨rfl,hb⟩
 have hG:=ζ (hF.out.call hb)
 clear hb hz hF
 go_wp2
 go_ret
 exact⟨ret_int (by rw [HV.out]),hG.out.be⟩
end
section
section
variable {l:List Pt} {bs:List Int} {d r:Int}
def baseL (l:List Pt) (bs:List Int) (d:Int):List Int:=(nbr bs).map fun t=>footI l t.1 t.2 d
theorem baseL_len:(baseL l bs d).length=bs.length - 1:=by unfold baseL;rw [List.length_map,nbr_len]
theorem baseL_at {i:Nat} (h:i+1 < bs.length):bX (baseL l bs d) i=footI l (bX bs i) (bX bs (i+1)) d:=by
 rw [bX_at (by rw [baseL_len];omega),bX_at h,bX_at (show i < bs.length by omega)]
 unfold baseL
 rw [List.getElem_map]
 have:=nbr_get h
 have hl:i < (nbr bs).length:=by rw [nbr_len];omega
 rw [List.getElem?_eq_getElem hl]at this
 rw [Option.some.inj this]
theorem feet_low (hr:0≤r) {i:Nat} (hi:i < bs.length - 1):IsLow (bX (baseL l bs d)) r (bs.length - 1) i (bX (folL min r (baseL l bs d)) i):=by
 rw [folL_at (by rw [baseL_len];exact hi),baseL_len,bkG_min]
 have:=bk_low (l:=bX (baseL l bs d)) hr (n:=bs.length - 1) (bs.length - 1 - 1 - i) (by omega)
 rw [show bs.length - 1 - 1 - (bs.length - 1 - 1 - i)=i by omega]at this
 exact this
end
def downL (l:List Pt):List Pt:=l.map fun p=>(p.1,-p.2)
section
variable {l:List Pt} {a b x z:Int}
theorem downL_len:(downL l).length=l.length:=List.length_map _
theorem down_X (l:List Pt) (i:Nat):hX (downL l) i=hX l i:=by
 unfold hX downL
 rw [List.getD_eq_getElem?_getD,List.getD_eq_getElem?_getD,List.getElem?_map]
 cases l[i]? <;>rfl
theorem down_Z (l:List Pt) (i:Nat):hZ (downL l) i= -hZ l i:=by
 unfold hZ downL
 rw [List.getD_eq_getElem?_getD,List.getD_eq_getElem?_getD,List.getElem?_map]
 cases l[i]? <;>rfl
theorem down_sg (x:Int):sg (downL l) x=sg l x:=by
 unfold sg
 rw [downL_len]
 simp only [down_X]
theorem down_grd (x:Int):grd (downL l) x= -grd l x:=by
 unfold grd grdI
 rw [down_sg,down_X,down_X,down_Z,down_Z]
 simp only [Rat.intCast_sub,Rat.intCast_neg]
 grind
theorem down_xs:(downL l).map (·.x)=l.map (·.x):=by
 unfold downL
 rw [List.map_map];rfl
theorem down_pcs:pcs (downL l) a b=pcs l a b:=by unfold pcs;rw [down_xs]
theorem fold_neg:∀ (qs:List Rat) (q:Rat),(qs.map fun y=> -y).foldl minQ (-q)= -(qs.foldl maxQ q)
 | [],q=>rfl
 | y::qs,q=>by
   rw [List.map_cons,List.foldl_cons,List.foldl_cons,←fold_neg qs]
   congr 1
   unfold minQ maxQ
   by_cases h:q < y
   ·rw [if_pos (by grind),if_pos h]
   ·rw [if_neg (by grind),if_neg h]
theorem down_lo:loQ (downL l) a b= -hiQ l a b:=by
 unfold loQ hiQ
 rw [down_pcs,down_grd,←fold_neg,List.map_map]
 congr 1
 refine List.map_congr_left fun t _=>?_
 exact down_grd t.2
theorem down_foot (h:Int):footI (downL l) a b h= -headI l a b h:=by
 unfold footI headI
 rw [down_lo]
 have:=ceil_neg (hiQ l a b)
 omega
end
section
variable {l:List Pt} {bs:List Int} {x z:Int}
theorem down_heads (hh r:Int) {i:Nat} (hi:i < bs.length - 1):bX (folL max (-r) ((nbr bs).map fun t=>headI l t.1 t.2 hh)) i= -bX (folL min r ((nbr bs).map fun t=>footI (downL l) t.1 t.2 hh)) i:=by
 rw [folL_at (by rw [List.length_map,nbr_len];exact hi),folL_at (by rw [List.length_map,nbr_len];exact hi),List.length_map,List.length_map,bkG_max,bkG_min]
 congr 2
 funext j
 unfold bX
 rw [List.getD_eq_getElem?_getD,List.getD_eq_getElem?_getD,List.getElem?_map,List.getElem?_map]
 cases (nbr bs)[j]? with
 | none=>rfl
 | some t=>exact(down_foot hh).symm
end
def covB (br:Nat→Int) (t:Nat) (b:Int×Int):Bool:=decide (b.1≤br t) && decide (br (t+1)≤b.2)
structure BayOk (br:Nat→Int) (has:Nat→Bool) (i:Nat) (l:List (Int×Int)):Prop where
 cnt:∀t,t < i→l.countP (covB br t)=if has t then 1 else 0
 sep:∀t,t < i→∀b∈l,covB br t b=true∨b.2≤br t∨br (t+1)≤b.1
 rng:∀b∈l,b.1 < b.2∧b.2≤br i
section
variable {bs feet heads:List Int} {low h:Int} {n:Nat}
end
section
variable {l:List Pt} {bs:List Int} {d e r h:Int}
def headsL (l:List Pt) (bs:List Int) (e r:Int):List Int:=folL max (-r) ((nbr bs).map fun t=>headI l t.1 t.2 e)
theorem headsL_len:(headsL l bs e r).length=bs.length - 1:=by unfold headsL;rw [folL_len,List.length_map,nbr_len]
theorem headsL_at {i:Nat} (hi:i < bs.length - 1):bX (headsL l bs e r) i= -bX (folL min r (baseL (downL l) bs e)) i:=down_heads e r hi
end
section
variable {bs F D:List Int} {h:Int}
end
section
variable {l:List Pt} {bs:List Int} {d e r:Int}
theorem lows_is (hr:0≤r) {i:Nat} (hi:i < bs.length - 1):lows (bX (baseL l bs d)) r i (bs.length - 1)=bX (folL min r (baseL l bs d)) i:=(lows_low hi).uniq (feet_low hr hi)
theorem lows_in {f:Nat→Int} {s lo:Int} {i:Nat} (hs:0≤s) (hi:lo≤f i):∀m,(∀k,k < m→lo≤f k)→lo≤lows f s i m∧lows f s i m≤f i
 | 0,_=>⟨hi,Int.le_refl _⟩
 | m+1,h=>by
   have ih:=lows_in hs hi m (fun k hk=>h k (by omega))
   have h1:=h m (by omega)
   have h2:0≤s*dif i m:=Int.mul_nonneg hs (dif_nonneg i m)
   show lo≤min (lows f s i m) (f m+s*dif i m)∧min (lows f s i m) (f m+s*dif i m)≤f i
   omega
theorem dif_in {i k n:Nat} (hi:i < n) (hk:k < n):0≤dif i k∧dif i k≤n:=by unfold dif;omega
theorem dif_max (i k:Nat):dif i k=max ((i:Int) - k) (-((i:Int) - k)):=by unfold dif;omega
def highs (f:Nat→Int) (s:Int) (i:Nat):Nat→Int
 | 0=>f i
 | k+1=>max (highs f s i k) (f k - s*dif i k)
theorem highs_neg {f g:Nat→Int} {s:Int} {i:Nat} (hi:f i= -g i):∀m,(∀k,k < m→f k= -g k)→highs f s i m= -lows g s i m
 | 0,_=>hi
 | m+1,h=>by
   have ih:=highs_neg (s:=s) hi m (fun k hk=>h k (by omega))
   have h1:=h m (by omega)
   show max (highs f s i m) (f m - s*dif i m)= -(min (lows g s i m) (g m+s*dif i m))
   rw [ih,h1]
   omega
def topL (l:List Pt) (bs:List Int) (e:Int):List Int:=(nbr bs).map fun t=>headI l t.1 t.2 e
theorem topL_len:(topL l bs e).length=bs.length - 1:=by unfold topL;rw [List.length_map,nbr_len]
theorem topL_at {i:Nat} (h:i+1 < bs.length):bX (topL l bs e) i=headI l (bX bs i) (bX bs (i+1)) e:=by
 rw [bX_at (by rw [topL_len];omega),bX_at h,bX_at (show i < bs.length by omega)]
 unfold topL
 rw [List.getElem_map]
 have:=nbr_get h
 rw [List.getElem?_eq_getElem (by rw [nbr_len];omega)]at this
 simp only [Option.some.injEq]at this
 rw [this]
theorem top_down {i:Nat} (h:i+1 < bs.length):bX (topL l bs e) i= -bX (baseL (downL l) bs e) i:=by
 rw [topL_at h,baseL_at h,down_foot];omega
theorem highs_is (hr:0≤r) {i:Nat} (hi:i < bs.length - 1):highs (bX (topL l bs e)) r i (bs.length - 1)=bX (headsL l bs e r) i:=by
 rw [headsL_at hi,←lows_is hr hi]
 exact highs_neg (top_down (by omega)) _ (fun k hk=>top_down (by omega))
theorem highs_in {f:Nat→Int} {s hi:Int} {i:Nat} (hs:0≤s) (h0:f i≤hi):∀m,(∀k,k < m→f k≤hi)→f i≤highs f s i m∧highs f s i m≤hi
 | 0,_=>⟨Int.le_refl _,h0⟩
 | m+1,h=>by
   have ih:=highs_in (s:=s) hs h0 m (fun k hk=>h k (by omega))
   have h1:=h m (by omega)
   have h2:0≤s*dif i m:=Int.mul_nonneg hs (dif_nonneg i m)
   show f i≤max (highs f s i m) (f m - s*dif i m)∧max (highs f s i m) (f m - s*dif i m)≤hi
   omega
theorem base_in (hk:brkB l bs=true) (hd:0≤d∧d≤3000) {i:Nat} (h:i+1 < bs.length): -103000≤bX (baseL l bs d) i∧bX (baseL l bs d) i≤100000:=by
 rw [baseL_at h]
 have hm:((bX bs i,bX bs (i+1)):Int×Int)∈nbr bs:=by
  rw [bX_at h,bX_at (show i < bs.length by omega)];exact List.mem_of_getElem? (nbr_get h)
 have:=(brk_strt hk hm).lo_gd.floor
 unfold footI
 dsimp only at this
 omega
theorem top_in (hk:brkB l bs=true) (he:0≤e∧e≤3000) {i:Nat} (h:i+1 < bs.length): -100000≤bX (topL l bs e) i∧bX (topL l bs e) i≤103000:=by
 rw [topL_at h]
 have hm:((bX bs i,bX bs (i+1)):Int×Int)∈nbr bs:=by
  rw [bX_at h,bX_at (show i < bs.length by omega)];exact List.mem_of_getElem? (nbr_get h)
 have:=(brk_strt hk hm).hi_gd.ceil
 unfold headI
 dsimp only at this
 omega
theorem brk_at (hk:brkB l bs=true) {i:Nat} (h:i+1 < bs.length):Strt l (bX bs i) (bX bs (i+1)):=by
 have hm:((bX bs i,bX bs (i+1)):Int×Int)∈nbr bs:=by
  rw [bX_at h,bX_at (show i < bs.length by omega)];exact List.mem_of_getElem? (nbr_get h)
 exact brk_strt hk hm
end
theorem L1_take_snoc {L:List Int} {k:Nat} (h:k < L.length):L1 (L.take (k+1))=L1 (L.take k)++ [.int .i64 (bX L k)]:=by
 rw [List.take_succ_eq_append_getElem h,bX_at h]
 unfold L1
 rw [List.map_append];rfl
end
section
open Go.RowKit Go.Shelf Dig
def RetL1 (w:World) (L:List Int) (e:Ending) (w':World):Prop:=∃ (a:Option Addr) (c:Nat),e= .returned (.slice a L.length c)∧Hid (Sx 1 w' a L.length c (L1 L))∧Below w.heap.size w w'
section
variable (w:World)
theorem rabs8_any (i k:Nat) (h:i≤1000∧k≤1000):Calls Tryz.prog 66 #[.int .i64 ((i:Int) - k)] w (Gives (.int .i64 (dif i k)) w):=by
 have HD:=ζ (dif_max i k)
 rw [HD.out]
 obtain ⟨x,hx⟩:∃x,(i:Int) - k=x:=⟨_,rfl⟩
 rw [hx]
 have v1:IntKind.i64.wrap (-x)= -x:=IntWalk.i64_in _ (by omega)
 clear HD hx
 go_enter Tryz.func66,Tryz.ntmps66
 go_wp2
 go_ret
 exact⟨by first | rfl | (congr 2;first | rfl | omega | (split<;>omega)),Below.refl _ _⟩
theorem mY6_0 {P_ : Prop} (h : P_ := by
 refine(HG.out _ hVB_0.out.be).mono ?_
 rintro e wT ⟨rfl,hb⟩
 (try go_wp2_with fail)
 refine stepZ hKq (hVB_0.out.call hb) (fun _=>HSL _ _ _ _) ?_
 intro VB_1 hVB_1 hHB_1
 clear hKq Kq hVB_0 hb hHB_0
 try simp only [Act.put,zI,z0,zS]
 refine rdy1 17 rfl (fun Kq hKq=>?_)
 go_simp
 go_at_call 66
 refine(HAB.out _).mono ?_
 rintro e wT ⟨rfl,hb⟩
 (try go_wp2_with fail)
 refine stepZ hKq (hVB_1.out.call hb) (fun _=>HSL _ _ _ _) ?_
 intro VB_2 hVB_2 hHB_2
 clear hKq Kq hVB_1 hb hHB_1
 try simp only [Act.put,zI,z0,zS]
 refine tkA 18 rfl hHB_2 ?_
 try simp only [Act.put,zI,z0,zS]
 refine tkA 19 rfl hHB_2 ?_
 try simp only [Act.put,zI,z0,zS]
 refine tkA 20 rfl hHB_2 ?_
 try simp only [Act.put,zI,z0,zS]
 refine rdy1 21 rfl (fun Kq hKq=>?_)
 go_simp
 refine stepZ hKq hVB_2.out (fun _=>HSL _ _ _ _) ?_
 intro VB_3 hVB_3 hHB_3
 clear hKq Kq hVB_2 hHB_2
 try simp only [Act.put,zI,z0,zS]
 refine wpAnyH_done (by kernel_rfl) ?_ _
 have hT:=ζ (hVB_3.out.thin (bs':=[]) (os':=[⟨.slice a' i c',3,1,i,L1 (F.take i)⟩]) (List.nil_sublist _) (List.Sublist.refl _))
 clear hVB_3
 go_wp2
 go_roundw
 case rel=>exact⟨m+1,by omega,(by rw [HNX.out];try go_num),by have:=HM1.out;go_num,hT⟩
 case measure=>have:=HM1.out;simp [intOf];omega) : P_ := h
theorem mY6_1 {P_ : Prop} (h : P_ := by
 obtain rfl:m=nn:=by omega
 have HV:=ζ (HIS.out i hlt)
 rw [HV.out]
 have HTK:=ζ (L1_take_snoc (L:=F) (k:=i) (by rw [HFL.out];exact hlt))
 have j7:¬ (m1:Int) < (bs.length:Int):=by rw [HBL.out];omega
 generalize bX F i=v at*
 go_upto_region 4 with (refine wpList_append_sy (o:=⟨some 63,_,_,_,_,_⟩) rfl (hS.out.onew wr.heap.size #[.int .i64 v] 3 1 1 rfl (by omega) rfl) 0 1 rfl rfl _ _ _ rfl und_hint info_hint rfl (by omega) rfl rfl (by intro u hu;simp at hu;rcases hu with rfl;rfl) (by omega) (by omega) ?_;intro a3 c3 V3 hV3;have hJ:=ζ hV3;clear hV3)
 have hK:=ζ (hJ.out.thin (bs':=[]) (List.nil_sublist _) (List.Sublist.cons_cons _ (List.nil_sublist _)))
 clear hJ
 go_wp2
 go_roundw
 case rel=>exact⟨i+1,a3,c3,by omega,rfl,by have:=HI1.out;go_num,by rw [HTK.out];exact hK⟩
 case measure=>have:=HI1.out;simp [intOf];omega) : P_ := h
theorem mY6_2 {P_ : Prop} (h : P_ := by
 obtain rfl:i=nn:=by omega
 have HTK:=ζ (show F.take i=F from List.take_of_length_le (by rw [HFL.out];exact Nat.le_refl _))
 have HFL2:=ζ HFL.out.symm
 rw [HTK.out]at hS
 have i7:¬ (i1:Int) < (bs.length:Int):=by rw [HBL.out];omega
 go_wp2
 go_ret
 exact⟨a',c',(by rw [HFL.out];first | done | rfl),ζ (by rw [HFL.out];exact Sx.owns (hS.out.orow 0 rfl)),hS.out.be⟩) : P_ := h
theorem mY6_3 {P_ : Prop} (h : P_ := by
 have h1:=Int.mul_nonneg (show 0≤r by omega) hdb.1
 have h2:=Int.mul_le_mul (show r≤3000 by omega) (show D≤60 by omega) hdb.1 (by omega)
 omega) : P_ := h
theorem rFeet_any (a:Option Addr) (n c:Nat) (l:List Pt) (ba:Option Addr) (bn bc:Nat) (bs:List Int) (d r:Int) (hs:Sx 2 w a n c (L2 l)) (hb:Sx 1 w ba bn bc (L1 bs)) (hk:brkB l bs=true) (hd:0≤d∧d≤3000) (hr:0≤r∧r≤3000):
  Calls Tryz.prog 24 #[.slice a n c,.slice ba bn bc,.int .i64 d,.int .i64 r] w (RetL1 w (folL min r (baseL l bs d))):=by
 obtain rfl:=hb.n1
 obtain ⟨-,hbn,-,-⟩:=brk_ok hk
 obtain ⟨gb,ob,rfl⟩:=hb.addr (by omega)
 obtain ⟨nn,hnn⟩:∃nn,nn=bs.length - 1:=⟨_,rfl⟩
 have HBL:=ζ (show bs.length=nn+1 from by omega)
 have HBX:=ζ (fun W (hW:Below w.heap.size w W) k (h:k < bs.length)=>(hb.below hW).atX h)
 have HFT:=ζ (fun W (hW:Below w.heap.size w W) k (h:k+1 < bs.length)=>show Calls Tryz.prog 65 #[.slice a n c,.int .i64 (bX bs k),.int .i64 (bX bs (k+1)),.int .i64 d] W (Gives (.int .i64 (bX (baseL l bs d) k)) W)from by
  rw [baseL_at h];exact rFoot_any W a n c l _ _ d (hs.below hW) (brk_at hk h) hd)
 have HFB:=ζ (fun k (h:k+1 < bs.length)=>base_in hk hd h)
 have HB0:=fun i (hi:i < nn)=>base_in hk hd (i:=i) (show i+1 < bs.length by omega)
 have HLI:=ζ (fun i (hi:i < nn) m (hm:m≤nn)=>lows_in (f:=bX (baseL l bs d)) hr.1 ((HB0 i hi).1) m (fun k hk'=>(HB0 k (by omega)).1))
 have HIS:=ζ (show ∀i,i < nn→lows (bX (baseL l bs d)) r i nn=bX (folL min r (baseL l bs d)) i from fun i hi=>by rw [hnn];exact lows_is hr.1 (by omega))
 have HFL:=ζ (show(folL min r (baseL l bs d)).length=nn from by rw [folL_len,baseL_len];exact hnn.symm)
 have hn1:0 < nn∧nn≤60:=by omega
 clear hs hb hk hbn hnn HB0
 have HF0:=ζ (fun i=>show bX (baseL l bs d) i=lows (bX (baseL l bs d)) r i 0 from rfl)
 generalize bX (baseL l bs d)=f at*
 generalize folL min r (baseL l bs d)=F at*
 have hO:=ζ ((Sy.enter w).onil 3 1)
 go_enter Tryz.func24,Tryz.ntmps24
 go_wp2
 go_loopw [9,10] (fun ov iv wr=>∃ (i:Nat) (a':Option Addr) (c':Nat),i≤nn∧ov= .slice a' i c'∧iv= .int .i64 i∧Hid (Sy w wr [] [⟨.slice a' i c',3,1,i,L1 (F.take i)⟩] [])) (fun _ iv _=>nn - (intOf iv).toNat)
 case atStart=>exact⟨0,none,0,Nat.zero_le _,rfl,rfl,hO⟩
 case round=>
  clear hO
  obtain ⟨i,a',c',hi,rfl,rfl,hS⟩:=hrel
  obtain ⟨i1,hi1⟩:∃k,k=i+1:=⟨_,rfl⟩
  have i5:IntKind.i64.wrap ((i:Int)+1)=(i1:Int):=by rw [IntWalk.i64_in _ (by omega)];omega
  by_cases hlt:i < nn
  ·have HG:=ζ (fun W hW=>HFT.out W hW i (by rw [HBL.out];omega))
   have HX1:=ζ (fun W hW=>HBX.out W hW i (by rw [HBL.out];omega))
   have HX2:=ζ (fun W hW=>HBX.out W hW (i+1) (by rw [HBL.out];omega))
   have HF0:=ζ (HF0.out i)
   have HLI:=ζ (HLI.out i hlt)
   obtain ⟨g,hg⟩:∃g,f i=g:=⟨_,rfl⟩
   rw [hg]at HG HF0
   obtain ⟨u1,hu1⟩:∃u,bX bs i=u:=⟨_,rfl⟩
   obtain ⟨u2,hu2⟩:∃u,bX bs (i+1)=u:=⟨_,rfl⟩
   rw [hu1,hu2]at HG
   rw [hu1]at HX1
   rw [hu2,←hi1]at HX2
   have i0:(0:Int)≤(i:Int):=by omega
   have i4:(i:Int) < (bs.length:Int):=by rw [HBL.out];omega
   have i6:(0:Int)≤(i1:Int):=by omega
   have i7:(i1:Int) < (bs.length:Int):=by rw [HBL.out];omega
   have HI1:=ζ hi1
   clear hi1 hg hu1 hu2
   go_upto_region 5 with fail
   have HSL:∀V ex os rs,Sy w V ([]++ex) os rs→(fun w'=>w'.cell? ⟨gb,ob+i,none⟩=some (.int .i64 u1)∧w'.cell? ⟨gb,ob+i1,none⟩=some (.int .i64 u2)∧True) V:=fun V ex os rs hX=>⟨(HX1.out _ hX.be),(HX2.out _ hX.be),trivial⟩
   refine wp_region_held_drew (S:=(fun w'=>w'.cell? ⟨gb,ob+i,none⟩=some (.int .i64 u1)∧w'.cell? ⟨gb,ob+i1,none⟩=some (.int .i64 u2)∧True)) (by kernel_rfl) ⟨(HX1.out _ hS.out.drew.be),(HX2.out _ hS.out.drew.be),trivial⟩ (fun hH=>?_)
   refine wpAnyH_geny (show Sy w _ [] [⟨.slice a' i c',3,1,i,L1 (F.take i)⟩] []from hS.out.drew) hH ?_
   intro VA_0 hc hHA_0
   have hVA_0:=ζ hc
   clear hc hH hS
   refine tkA 0 rfl hHA_0 ?_
   try simp only [Act.put,zI,z0,zS]
   refine tkA 1 rfl hHA_0 ?_
   try simp only [Act.put,zI,z0,zS]
   refine tkA 2 rfl hHA_0 ?_
   try simp only [Act.put,zI,z0,zS]
   refine tkA 3 rfl hHA_0 ?_
   try simp only [Act.put,zI,z0,zS]
   refine tkA 4 rfl hHA_0 ?_
   try simp only [Act.put,zI,z0,zS]
   refine tkA 5 rfl hHA_0 ?_
   try simp only [Act.put,zI,z0,zS]
   refine tkA 6 rfl hHA_0 ?_
   try simp only [Act.put,zI,z0,zS]
   refine tkA 7 rfl hHA_0 ?_
   try simp only [Act.put,zI,z0,zS]
   refine tkA 8 rfl hHA_0 ?_
   try simp only [Act.put,zI,z0,zS]
   refine tkA 9 rfl hHA_0 ?_
   try simp only [Act.put,zI,z0,zS]
   refine tkA 10 rfl hHA_0 ?_
   try simp only [Act.put,zI,z0,zS]
   refine rdy1 11 rfl (fun Kq hKq=>?_)
   go_simp
   go_at_call 65
   refine(HG.out _ hVA_0.out.be).mono ?_
   rintro e wT ⟨rfl,hb⟩
   (try go_wp2_with fail)
   refine stepZ hKq (hVA_0.out.call hb) (fun _=>HSL _ _ _ _) ?_
   intro VA_1 hVA_1 hHA_1
   clear hKq Kq hVA_0 hb hHA_0
   try simp only [Act.put,zI,z0,zS]
   refine rdy1 12 rfl (fun Kq hKq=>?_)
   go_simp
   refine stepZ hKq hVA_1.out (fun _=>HSL _ _ _ _) ?_
   intro VA_2 hVA_2 hHA_2
   clear hKq Kq hVA_1 hHA_1
   try simp only [Act.put,zI,z0,zS]
   refine wpAnyH_done (by kernel_rfl) ?_ _
   have h5:=ζ (hVA_2.out.thin (bs':=[]) (os':=[⟨.slice a' i c',3,1,i,L1 (F.take i)⟩]) (List.nil_sublist _) (List.Sublist.refl _))
   clear hVA_2
   go_upto_region 7 with fail
   refine wp_geny h5.out ?_
   intro W5 hc
   have hS:=ζ hc
   clear hc h5
   go_wp2
   go_loopw [11,12] (fun lv kv wr=>∃m:Nat,m≤nn∧lv= .int .i64 (lows f r i m)∧kv= .int .i64 m∧Hid (Sy w wr [] [⟨.slice a' i c',3,1,i,L1 (F.take i)⟩] [])) (fun _ kv _=>nn - (intOf kv).toNat)
   case atStart=>exact⟨0,Nat.zero_le _,by rw [HF0.out],rfl,hS⟩
   case round=>
    clear hS
    obtain ⟨m,hm,rfl,rfl,hS⟩:=hrel
    obtain ⟨m1,hm1⟩:∃k,k=m+1:=⟨_,rfl⟩
    have j5:IntKind.i64.wrap ((m:Int)+1)=(m1:Int):=by rw [IntWalk.i64_in _ (by omega)];omega
    by_cases hml:m < nn
    ·have HG:=ζ (fun W hW=>HFT.out W hW m (by rw [HBL.out];omega))
     have HY1:=ζ (fun W hW=>HBX.out W hW m (by rw [HBL.out];omega))
     have HY2:=ζ (fun W hW=>HBX.out W hW (m+1) (by rw [HBL.out];omega))
     have HAB:=ζ (fun W=>rabs8_any W i m (by omega))
     have HNX:=ζ (show lows f r i (m+1)=min (lows f r i m) (f m+r*dif i m)from rfl)
     have hvb:=HLI.out m (by omega)
     have hgb:=HFB.out m (by rw [HBL.out];omega)
     have hdb:=dif_in (i:=i) (k:=m) (n:=nn) (by omega) hml
     generalize lows f r i m=v at*
     generalize f m=g at*
     generalize bX bs m=v1 at*
     generalize bX bs (m+1)=v2 at*
     rw [←hm1]at HY2
     generalize dif i m=D at*
     obtain ⟨y,hy⟩:∃y,r*D=y:=⟨_,rfl⟩
     have hyb:0≤y∧y≤180000:=by
      exact mY6_3
     rw [hy]at HNX
     have e1:IntKind.i64.wrap (r*D)=y:=by rw [hy];exact IntWalk.i64_in _ (by omega)
     have e2:IntKind.i64.wrap (g+y)=g+y:=IntWalk.i64_in _ (by omega)
     have e3:IntKind.i64.wrap ((i:Int) - (m:Int))=(i:Int) - (m:Int):=IntWalk.i64_in _ (by omega)
     have j0:(0:Int)≤(m:Int):=by omega
     have j4:(m:Int) < (bs.length:Int):=by rw [HBL.out];omega
     have j6:(0:Int)≤(m1:Int):=by omega
     have j7:(m1:Int) < (bs.length:Int):=by rw [HBL.out];omega
     have HM1:=ζ hm1
     clear hm1 hy hdb hvb
     go_upto_region 9 with fail
     have HSL:∀V ex os rs,Sy w V ([]++ex) os rs→(fun w'=>w'.cell? ⟨gb,ob+m,none⟩=some (.int .i64 v1)∧w'.cell? ⟨gb,ob+m1,none⟩=some (.int .i64 v2)∧True) V:=fun V ex os rs hX=>⟨(HY1.out _ hX.be),(HY2.out _ hX.be),trivial⟩
     refine wp_region_held_drew (S:=(fun w'=>w'.cell? ⟨gb,ob+m,none⟩=some (.int .i64 v1)∧w'.cell? ⟨gb,ob+m1,none⟩=some (.int .i64 v2)∧True)) (by kernel_rfl) ⟨(HY1.out _ hS.out.drew.be),(HY2.out _ hS.out.drew.be),trivial⟩ (fun hH=>?_)
     refine wpAnyH_geny (show Sy w _ [] [⟨.slice a' i c',3,1,i,L1 (F.take i)⟩] []from hS.out.drew) hH ?_
     intro VB_0 hc hHB_0
     have hVB_0:=ζ hc
     clear hc hH hS
     refine tkA 0 rfl hHB_0 ?_
     try simp only [Act.put,zI,z0,zS]
     refine tkA 1 rfl hHB_0 ?_
     try simp only [Act.put,zI,z0,zS]
     refine tkA 2 rfl hHB_0 ?_
     try simp only [Act.put,zI,z0,zS]
     refine tkA 3 rfl hHB_0 ?_
     try simp only [Act.put,zI,z0,zS]
     refine tkA 4 rfl hHB_0 ?_
     try simp only [Act.put,zI,z0,zS]
     refine tkA 5 rfl hHB_0 ?_
     try simp only [Act.put,zI,z0,zS]
     refine tkA 6 rfl hHB_0 ?_
     try simp only [Act.put,zI,z0,zS]
     refine tkA 7 rfl hHB_0 ?_
     try simp only [Act.put,zI,z0,zS]
     refine tkA 8 rfl hHB_0 ?_
     try simp only [Act.put,zI,z0,zS]
     refine tkA 9 rfl hHB_0 ?_
     try simp only [Act.put,zI,z0,zS]
     refine tkA 10 rfl hHB_0 ?_
     try simp only [Act.put,zI,z0,zS]
     refine tkA 11 rfl hHB_0 ?_
     try simp only [Act.put,zI,z0,zS]
     refine tkA 13 rfl hHB_0 ?_
     try simp only [Act.put,zI,z0,zS]
     refine tkA 14 rfl hHB_0 ?_
     try simp only [Act.put,zI,z0,zS]
     refine tkA 15 rfl hHB_0 ?_
     try simp only [Act.put,zI,z0,zS]
     refine tkA 16 rfl hHB_0 ?_
     try simp only [Act.put,zI,z0,zS]
     refine rdy1 12 rfl (fun Kq hKq=>?_)
     go_simp
     go_at_call 65
     exact mY6_0
    ·exact mY6_1
  ·exact mY6_2
theorem rHeads_any (a:Option Addr) (n c:Nat) (l:List Pt) (ba:Option Addr) (bn bc:Nat) (bs:List Int) (d r:Int) (hs:Sx 2 w a n c (L2 l)) (hb:Sx 1 w ba bn bc (L1 bs)) (hk:brkB l bs=true) (hd:0≤d∧d≤3000) (hr:0≤r∧r≤3000):
  Calls Tryz.prog 25 #[.slice a n c,.slice ba bn bc,.int .i64 d,.int .i64 r] w (RetL1 w (headsL l bs d r)):=by
 obtain rfl:=hb.n1
 obtain ⟨-,hbn,-,-⟩:=brk_ok hk
 obtain ⟨gb,ob,rfl⟩:=hb.addr (by omega)
 obtain ⟨nn,hnn⟩:∃nn,nn=bs.length - 1:=⟨_,rfl⟩
 have HBL:=ζ (show bs.length=nn+1 from by omega)
 have HBX:=ζ (fun W (hW:Below w.heap.size w W) k (h:k < bs.length)=>(hb.below hW).atX h)
 have HFT:=ζ (fun W (hW:Below w.heap.size w W) k (h:k+1 < bs.length)=>show Calls Tryz.prog 67 #[.slice a n c,.int .i64 (bX bs k),.int .i64 (bX bs (k+1)),.int .i64 d] W (Gives (.int .i64 (bX (topL l bs d) k)) W)from by
  rw [topL_at h];exact rHead_any W a n c l _ _ d (hs.below hW) (brk_at hk h) hd)
 have HFB:=ζ (fun k (h:k+1 < bs.length)=>top_in hk hd h)
 have HB0:=fun i (hi:i < nn)=>top_in hk hd (i:=i) (show i+1 < bs.length by omega)
 have HLI:=ζ (fun i (hi:i < nn) m (hm:m≤nn)=>highs_in (f:=bX (topL l bs d)) hr.1 ((HB0 i hi).2) m (fun k hk'=>(HB0 k (by omega)).2))
 have HIS:=ζ (show ∀i,i < nn→highs (bX (topL l bs d)) r i nn=bX (headsL l bs d r) i from fun i hi=>by rw [hnn];exact highs_is hr.1 (by omega))
 have HFL:=ζ (show(headsL l bs d r).length=nn from by rw [headsL_len];exact hnn.symm)
 have hn1:0 < nn∧nn≤60:=by omega
 clear hs hb hk hbn hnn HB0
 have HF0:=ζ (fun i=>show bX (topL l bs d) i=highs (bX (topL l bs d)) r i 0 from rfl)
 generalize bX (topL l bs d)=f at*
 generalize headsL l bs d r=F at*
 have hO:=ζ ((Sy.enter w).onil 3 1)
 go_enter Tryz.func25,Tryz.ntmps25
 go_wp2
 go_loopw [9,10] (fun ov iv wr=>∃ (i:Nat) (a':Option Addr) (c':Nat),i≤nn∧ov= .slice a' i c'∧iv= .int .i64 i∧Hid (Sy w wr [] [⟨.slice a' i c',3,1,i,L1 (F.take i)⟩] [])) (fun _ iv _=>nn - (intOf iv).toNat)
 case atStart=>exact⟨0,none,0,Nat.zero_le _,rfl,rfl,hO⟩
 case round=>
  clear hO
  obtain ⟨i,a',c',hi,rfl,rfl,hS⟩:=hrel
  obtain ⟨i1,hi1⟩:∃k,k=i+1:=⟨_,rfl⟩
  have i5:IntKind.i64.wrap ((i:Int)+1)=(i1:Int):=by rw [IntWalk.i64_in _ (by omega)];omega
  by_cases hlt:i < nn
  ·have HG:=ζ (fun W hW=>HFT.out W hW i (by rw [HBL.out];omega))
   have HX1:=ζ (fun W hW=>HBX.out W hW i (by rw [HBL.out];omega))
   have HX2:=ζ (fun W hW=>HBX.out W hW (i+1) (by rw [HBL.out];omega))
   have HF0:=ζ (HF0.out i)
   have HLI:=ζ (HLI.out i hlt)
   obtain ⟨g,hg⟩:∃g,f i=g:=⟨_,rfl⟩
   rw [hg]at HG HF0
   obtain ⟨u1,hu1⟩:∃u,bX bs i=u:=⟨_,rfl⟩
   obtain ⟨u2,hu2⟩:∃u,bX bs (i+1)=u:=⟨_,rfl⟩
   rw [hu1,hu2]at HG
   rw [hu1]at HX1
   rw [hu2,←hi1]at HX2
   have i0:(0:Int)≤(i:Int):=by omega
   have i4:(i:Int) < (bs.length:Int):=by rw [HBL.out];omega
   have i6:(0:Int)≤(i1:Int):=by omega
   have i7:(i1:Int) < (bs.length:Int):=by rw [HBL.out];omega
   have HI1:=ζ hi1
   clear hi1 hg hu1 hu2
   go_upto_region 5 with fail
   have HSL:∀V ex os rs,Sy w V ([]++ex) os rs→(fun w'=>w'.cell? ⟨gb,ob+i,none⟩=some (.int .i64 u1)∧w'.cell? ⟨gb,ob+i1,none⟩=some (.int .i64 u2)∧True) V:=fun V ex os rs hX=>⟨(HX1.out _ hX.be),(HX2.out _ hX.be),trivial⟩
   refine wp_region_held_drew (S:=(fun w'=>w'.cell? ⟨gb,ob+i,none⟩=some (.int .i64 u1)∧w'.cell? ⟨gb,ob+i1,none⟩=some (.int .i64 u2)∧True)) (by kernel_rfl) ⟨(HX1.out _ hS.out.drew.be),(HX2.out _ hS.out.drew.be),trivial⟩ (fun hH=>?_)
   refine wpAnyH_geny (show Sy w _ [] [⟨.slice a' i c',3,1,i,L1 (F.take i)⟩] []from hS.out.drew) hH ?_
   intro VA_0 hc hHA_0
   have hVA_0:=ζ hc
   clear hc hH hS
   refine tkA 0 rfl hHA_0 ?_
   try simp only [Act.put,zI,z0,zS]
   refine tkA 1 rfl hHA_0 ?_
   try simp only [Act.put,zI,z0,zS]
   refine tkA 2 rfl hHA_0 ?_
   try simp only [Act.put,zI,z0,zS]
   refine tkA 3 rfl hHA_0 ?_
   try simp only [Act.put,zI,z0,zS]
   refine tkA 4 rfl hHA_0 ?_
   try simp only [Act.put,zI,z0,zS]
   refine tkA 5 rfl hHA_0 ?_
   try simp only [Act.put,zI,z0,zS]
   refine tkA 6 rfl hHA_0 ?_
   try simp only [Act.put,zI,z0,zS]
   refine tkA 7 rfl hHA_0 ?_
   try simp only [Act.put,zI,z0,zS]
   refine tkA 8 rfl hHA_0 ?_
   try simp only [Act.put,zI,z0,zS]
   refine tkA 9 rfl hHA_0 ?_
   try simp only [Act.put,zI,z0,zS]
   refine tkA 10 rfl hHA_0 ?_
   try simp only [Act.put,zI,z0,zS]
   refine rdy1 11 rfl (fun Kq hKq=>?_)
   go_simp
   go_at_call 67
   refine(HG.out _ hVA_0.out.be).mono ?_
   rintro e wT ⟨rfl,hb⟩
   (try go_wp2_with fail)
   refine stepZ hKq (hVA_0.out.call hb) (fun _=>HSL _ _ _ _) ?_
   intro VA_1 hVA_1 hHA_1
   clear hKq Kq hVA_0 hb hHA_0
   try simp only [Act.put,zI,z0,zS]
   refine rdy1 12 rfl (fun Kq hKq=>?_)
   go_simp
   refine stepZ hKq hVA_1.out (fun _=>HSL _ _ _ _) ?_
   intro VA_2 hVA_2 hHA_2
   clear hKq Kq hVA_1 hHA_1
   try simp only [Act.put,zI,z0,zS]
   refine wpAnyH_done (by kernel_rfl) ?_ _
   have h5:=ζ (hVA_2.out.thin (bs':=[]) (os':=[⟨.slice a' i c',3,1,i,L1 (F.take i)⟩]) (List.nil_sublist _) (List.Sublist.refl _))
   clear hVA_2
   go_upto_region 7 with fail
   refine wp_geny h5.out ?_
   intro W5 hc
   have hS:=ζ hc
   clear hc h5
   go_wp2
   go_loopw [11,12] (fun lv kv wr=>∃m:Nat,m≤nn∧lv= .int .i64 (highs f r i m)∧kv= .int .i64 m∧Hid (Sy w wr [] [⟨.slice a' i c',3,1,i,L1 (F.take i)⟩] [])) (fun _ kv _=>nn - (intOf kv).toNat)
   case atStart=>exact⟨0,Nat.zero_le _,by rw [HF0.out],rfl,hS⟩
   case round=>
    clear hS
    obtain ⟨m,hm,rfl,rfl,hS⟩:=hrel
    obtain ⟨m1,hm1⟩:∃k,k=m+1:=⟨_,rfl⟩
    have j5:IntKind.i64.wrap ((m:Int)+1)=(m1:Int):=by rw [IntWalk.i64_in _ (by omega)];omega
    by_cases hml:m < nn
    ·have HG:=ζ (fun W hW=>HFT.out W hW m (by rw [HBL.out];omega))
     have HY1:=ζ (fun W hW=>HBX.out W hW m (by rw [HBL.out];omega))
     have HY2:=ζ (fun W hW=>HBX.out W hW (m+1) (by rw [HBL.out];omega))
     have HAB:=ζ (fun W=>rabs8_any W i m (by omega))
     have HNX:=ζ (show highs f r i (m+1)=max (highs f r i m) (f m - r*dif i m)from rfl)
     have hvb:=HLI.out m (by omega)
     have hgb:=HFB.out m (by rw [HBL.out];omega)
     have hdb:=dif_in (i:=i) (k:=m) (n:=nn) (by omega) hml
     generalize highs f r i m=v at*
     generalize f m=g at*
     generalize bX bs m=v1 at*
     generalize bX bs (m+1)=v2 at*
     rw [←hm1]at HY2
     generalize dif i m=D at*
     obtain ⟨y,hy⟩:∃y,r*D=y:=⟨_,rfl⟩
     have hyb:0≤y∧y≤180000:=by
      exact mY6_3
     rw [hy]at HNX
     have e1:IntKind.i64.wrap (r*D)=y:=by rw [hy];exact IntWalk.i64_in _ (by omega)
     have e2:IntKind.i64.wrap (g - y)=g - y:=IntWalk.i64_in _ (by omega)
     have e3:IntKind.i64.wrap ((i:Int) - (m:Int))=(i:Int) - (m:Int):=IntWalk.i64_in _ (by omega)
     have j0:(0:Int)≤(m:Int):=by omega
     have j4:(m:Int) < (bs.length:Int):=by rw [HBL.out];omega
     have j6:(0:Int)≤(m1:Int):=by omega
     have j7:(m1:Int) < (bs.length:Int):=by rw [HBL.out];omega
     have HM1:=ζ hm1
     clear hm1 hy hdb hvb
     go_upto_region 9 with fail
     have HSL:∀V ex os rs,Sy w V ([]++ex) os rs→(fun w'=>w'.cell? ⟨gb,ob+m,none⟩=some (.int .i64 v1)∧w'.cell? ⟨gb,ob+m1,none⟩=some (.int .i64 v2)∧True) V:=fun V ex os rs hX=>⟨(HY1.out _ hX.be),(HY2.out _ hX.be),trivial⟩
     refine wp_region_held_drew (S:=(fun w'=>w'.cell? ⟨gb,ob+m,none⟩=some (.int .i64 v1)∧w'.cell? ⟨gb,ob+m1,none⟩=some (.int .i64 v2)∧True)) (by kernel_rfl) ⟨(HY1.out _ hS.out.drew.be),(HY2.out _ hS.out.drew.be),trivial⟩ (fun hH=>?_)
     refine wpAnyH_geny (show Sy w _ [] [⟨.slice a' i c',3,1,i,L1 (F.take i)⟩] []from hS.out.drew) hH ?_
     intro VB_0 hc hHB_0
     have hVB_0:=ζ hc
     clear hc hH hS
     refine tkA 0 rfl hHB_0 ?_
     try simp only [Act.put,zI,z0,zS]
     refine tkA 1 rfl hHB_0 ?_
     try simp only [Act.put,zI,z0,zS]
     refine tkA 2 rfl hHB_0 ?_
     try simp only [Act.put,zI,z0,zS]
     refine tkA 3 rfl hHB_0 ?_
     try simp only [Act.put,zI,z0,zS]
     refine tkA 4 rfl hHB_0 ?_
     try simp only [Act.put,zI,z0,zS]
     refine tkA 5 rfl hHB_0 ?_
     try simp only [Act.put,zI,z0,zS]
     refine tkA 6 rfl hHB_0 ?_
     try simp only [Act.put,zI,z0,zS]
     refine tkA 7 rfl hHB_0 ?_
     try simp only [Act.put,zI,z0,zS]
     refine tkA 8 rfl hHB_0 ?_
     try simp only [Act.put,zI,z0,zS]
     refine tkA 9 rfl hHB_0 ?_
     try simp only [Act.put,zI,z0,zS]
     refine tkA 10 rfl hHB_0 ?_
     try simp only [Act.put,zI,z0,zS]
     refine tkA 11 rfl hHB_0 ?_
     try simp only [Act.put,zI,z0,zS]
     refine tkA 13 rfl hHB_0 ?_
     try simp only [Act.put,zI,z0,zS]
     refine tkA 14 rfl hHB_0 ?_
     try simp only [Act.put,zI,z0,zS]
     refine tkA 15 rfl hHB_0 ?_
     try simp only [Act.put,zI,z0,zS]
     refine tkA 16 rfl hHB_0 ?_
     try simp only [Act.put,zI,z0,zS]
     refine rdy1 12 rfl (fun Kq hKq=>?_)
     go_simp
     go_at_call 67
     exact mY6_0
    ·exact mY6_1
  ·exact mY6_2
end
theorem lvErr_wild {l:List Pt} {bs:List Int} {far rise:Int} (h:¬ (0≤rise∧rise≤3000)):lvErr l bs far rise≠0:=by
 unfold lvErr
 have:inB rise 0 3000=false:=by
  cases e:inB rise 0 3000
  ·rfl
  ·exact absurd (inB_iff.1 e) h
 rw [this,Bool.and_false]
 split<;>decide
theorem mQ13_0 {P_ : Prop} (h : P_ := by
 refine(HW.out _).mono ?_
 rintro e WZ ⟨rfl,hb⟩
 have hZ:=ζ (hN.out.call hb)
 clear hb
 go_wp2
 go_ret
 exact⟨rfl,hZ.out.be⟩) : P_ := h
theorem mQ13_1 {P_ : Prop} (h : P_ := by
 go_wp2_with fail
 refine HK.out.mono ?_
 rintro e w1 (⟨h1,-⟩ | ⟨h1,rfl,hbb⟩)
 ·exact absurd h1 H0.out
 ·have HB:=ζ hbb
  have H1:=ζ h1
  clear hbb HK h1
  go_wp2
  go_ret2
  exact .inr ⟨H1.out,rfl,HB.out⟩) : P_ := h
theorem mQ13_2 {P_ : Prop} (h : P_ := by
 go_enter Tryz.func3,Tryz.ntmps3
 go_wp2_with fail
 refine(HW.out _).mono ?_
 rintro e WZ ⟨rfl,hb⟩
 have hZ:=ζ (hC.out.call hb)
 clear hb
 go_wp2
 go_ret
 exact⟨rfl,hZ.out.be⟩) : P_ := h
theorem hFeet_all (w:World) (sa:Option Addr) (sn sc:Nat) (l:List Pt) (hs:Sx 2 w sa sn sc (L2 l)) (ba:Option Addr) (bn bc:Nat) (bs:List Int) (hb:Sx 1 w ba bn bc (L1 bs)) (far rise:Int) (hr: -9223372036854775808≤rise∧rise < 9223372036854775808):
  Calls Tryz.prog 18 #[.slice sa sn sc,.slice ba bn bc,.int .i64 far,.int .i64 rise] w (RetLv w (lvErr l bs far rise) (folL min rise (baseL l bs far))):=by
 by_cases hm: -9223372036854775807≤rise
 ·exact hFeet_any w sa sn sc l hs ba bn bc bs hb far rise hm (by omega)
 obtain ⟨st,hst⟩:∃st,IntKind.i64.wrap (-rise)=st:=⟨_,rfl⟩
 have HK:=ζ (levels_any w sa sn sc l hs ba bn bc bs hb far rise rise (fun h=>by omega) 61 62 (fun t=>footI l t.1 t.2 far) min feet1_any eg_feet1 eg_foot
  (fun hk hf W hW t ht=>⟨foot_any W sa sn sc l t.1 t.2 far (brk_strt hk ht) (by omega) (hs.below hW),by have:=(brk_strt hk ht).lo_gd.floor;unfold footI;omega⟩))
 have H0:=ζ (lvErr_wild (l:=l) (bs:=bs) (far:=far) (rise:=rise) (by omega))
 generalize lvErr l bs far rise=er at*
 generalize folL min rise ((nbr bs).map fun t=>footI l t.1 t.2 far)=vs at*
 generalize folL min rise (baseL l bs far)=us at*
 clear hs hb hm hr
 go_enter Tryz.func18,Tryz.ntmps18
 exact mQ13_1
theorem hHeads_all (w:World) (sa:Option Addr) (sn sc:Nat) (l:List Pt) (hs:Sx 2 w sa sn sc (L2 l)) (ba:Option Addr) (bn bc:Nat) (bs:List Int) (hb:Sx 1 w ba bn bc (L1 bs)) (far rise:Int) (hr: -9223372036854775808≤rise∧rise < 9223372036854775808):
  Calls Tryz.prog 19 #[.slice sa sn sc,.slice ba bn bc,.int .i64 far,.int .i64 rise] w (RetLv w (lvErr l bs far rise) (headsL l bs far rise)):=by
 by_cases hm: -9223372036854775807≤rise
 ·exact hHeads_any w sa sn sc l hs ba bn bc bs hb far rise hm (by omega)
 obtain ⟨st,hst⟩:∃st,IntKind.i64.wrap (-rise)=st:=⟨_,rfl⟩
 have HK:=ζ (levels_any w sa sn sc l hs ba bn bc bs hb far rise st (fun h=>by omega) 63 64 (fun t=>headI l t.1 t.2 far) max heads1_any eg_heads1 eg_head
  (fun hk hf W hW t ht=>⟨head_any W sa sn sc l t.1 t.2 far (brk_strt hk ht) (by omega) (hs.below hW),by have:=(brk_strt hk ht).hi_gd.ceil;unfold headI;omega⟩))
 have H0:=ζ (lvErr_wild (l:=l) (bs:=bs) (far:=far) (rise:=rise) (by omega))
 generalize lvErr l bs far rise=er at*
 generalize folL max st ((nbr bs).map fun t=>headI l t.1 t.2 far)=vs at*
 generalize headsL l bs far rise=us at*
 clear hs hb hm hr
 go_enter Tryz.func19,Tryz.ntmps19
 exact mQ13_1
section
variable (w:World)
theorem hillFeet_walk (la:Option Addr) (ln lc:Nat) (l:List Pt) (ba:Option Addr) (bn bc:Nat) (bs:List Int) (d r:Int) (hs:Sx 2 w la ln lc (L2 l)) (hb:Sx 1 w ba bn bc (L1 bs)) (hr: -9223372036854775808≤r∧r < 9223372036854775808):
  Calls Tryz.prog 3 #[.slice la ln lc,.slice ba bn bc,.int .i64 d,.int .i64 r] w (Gives (.bool true) w):=by
 have HW:=ζ wakes08
 obtain rfl:=hs.n2
 obtain rfl:=hb.n1
 have hC:=ζ (Sy.enter w)
 by_cases g0:50 < l.length
 ·have pl1:=decide_eq_true (show(50:Int) < (l.length:Int)by omega)
  have pl2:=decide_eq_true (show 50 < l.length by omega)
  clear g0
  exact mQ13_2
 by_cases g1:70 < bs.length
 ·have pl1:=decide_eq_false (show ¬ (50:Int) < (l.length:Int)by omega)
  have pl2:=decide_eq_false (show ¬ 50 < l.length by omega)
  have pbs1:=decide_eq_true (show(70:Int) < (bs.length:Int)by omega)
  have pbs2:=decide_eq_true (show 70 < bs.length by omega)
  clear g0 g1
  exact mQ13_2
 have pl1:=decide_eq_false (show ¬ (50:Int) < (l.length:Int)by omega)
 have pl2:=decide_eq_false (show ¬ 50 < l.length by omega)
 have pbs1:=decide_eq_false (show ¬ (70:Int) < (bs.length:Int)by omega)
 have pbs2:=decide_eq_false (show ¬ 70 < bs.length by omega)
 have HS:=ζ (fun W (hW:Below w.heap.size w W)=>hs.below hW)
 have HBS:=ζ (fun W (hW:Below w.heap.size w W)=>hb.below hW)
 have HPT:=ζ (fun W (hW:Below w.heap.size w W)=>conv_Pts la l.length lc l W (HS.out W hW) (by omega))
 have HV:=ζ (fun W (hW:Below w.heap.size w W)=>rValid_any W la l.length lc l (HS.out W hW))
 have HBR:=ζ (fun W (hW:Below w.heap.size w W) hp=>rBreaks_any W la l.length lc l (HS.out W hW) ba bs.length bc bs (HBS.out W hW) hp)
 have HI1:=ζ (fun W=>rIn_any W d 0 3000)
 have HI2:=ζ (fun W=>rIn_any W r 0 3000)
 have HF:=ζ (fun W (hW:Below w.heap.size w W) a c (hh:Sx 2 W a l.length c (L2 l))=>hFeet_all W a l.length c l hh ba bs.length bc bs (HBS.out W hW) d r hr)
 have HH:=ζ (fun W (hW:Below w.heap.size w W) a c (hh:Sx 2 W a l.length c (L2 l))=>hHeads_all W a l.length c l hh ba bs.length bc bs (HBS.out W hW) d r hr)
 have HRF:=ζ (fun W (hW:Below w.heap.size w W)=>rFeet_any W la l.length lc l ba bs.length bc bs d r (HS.out W hW) (HBS.out W hW))
 have HRH:=ζ (fun W (hW:Below w.heap.size w W)=>rHeads_any W la l.length lc l ba bs.length bc bs d r (HS.out W hW) (HBS.out W hW))
 have HER:=ζ (show lvErr l bs d r=if brkB l bs=true then(if inB d 0 3000 && inB r 0 3000 then 0 else 3)else 2 from rfl)
 have HPB:=ζ (show profB l=false→brkB l bs=false from fun q=>by unfold brkB;rw [q];rfl)
 clear hs hb g0 g1
 generalize folL min r (baseL l bs d)=F at*
 generalize headsL l bs d r=D at*
 generalize lvErr l bs d r=k at*
 go_enter Tryz.func3,Tryz.ntmps3
 go_wp2_with fail
 refine(HPT.out _ hC.out.be).mono ?_
 rintro e W1 ⟨a1,c1,rfl,hr,hb⟩
 have hD:=ζ (show Sy w _ [] [⟨.slice a1 l.length c1,83,2,l.length,L2 l⟩] []from hC.out.adopt hb hr)
 clear hb hr hC HPT
 cases qp:profB l
 ·have HE:=ζ (show(if brkB l bs=true then(if inB d 0 3000 && inB r 0 3000 then 0 else 3)else 2)=(2:Int)from by rw [HPB.out qp];rfl)
  rw [qp]at HV
  clear qp
  obtain rfl:k=2:=HER.out.trans HE.out
  go_wp2_with fail
  refine(HF.out _ hD.out.be _ _ (hD.out.osx 0 rfl)).mono ?_
  rintro e W2 (⟨hX,-⟩ | ⟨-,rfl,hb⟩)
  ·cases hX
  have hE:=ζ (hD.out.call hb)
  clear hb hD
  go_wp2_with fail
  refine(HH.out _ hE.out.be _ _ (hE.out.osx 0 rfl)).mono ?_
  rintro e W3 (⟨hX,-⟩ | ⟨-,rfl,hb⟩)
  ·cases hX
  have hG:=ζ (hE.out.call hb)
  clear hb hE HF HH HRF HRH HER HE
  go_wp2_with fail
  refine(HV.out _ hG.out.be).mono ?_
  rintro e W4 ⟨rfl,hb⟩
  have hV:=ζ (hG.out.call hb)
  clear hb hG
  go_wp2_with fail
  refine(HW.out _).mono ?_
  rintro e WZ ⟨rfl,hb⟩
  have hZ:=ζ (hV.out.call hb)
  clear hb
  go_wp2
  go_ret
  exact⟨rfl,hZ.out.be⟩
 rw [qp]at HV
 have HBR2:=ζ (fun W hW=>HBR.out W hW qp)
 clear HBR HPB
 cases qk:brkB l bs
 ·have HE:=ζ (show(if brkB l bs=true then(if inB d 0 3000 && inB r 0 3000 then 0 else 3)else 2)=(2:Int)from by rw [qk];rfl)
  rw [qk]at HBR2
  clear qk
  obtain rfl:k=2:=HER.out.trans HE.out
  go_wp2_with fail
  refine(HF.out _ hD.out.be _ _ (hD.out.osx 0 rfl)).mono ?_
  rintro e W2 (⟨hX,-⟩ | ⟨-,rfl,hb⟩)
  ·cases hX
  have hE:=ζ (hD.out.call hb)
  clear hb hD
  go_wp2_with fail
  refine(HH.out _ hE.out.be _ _ (hE.out.osx 0 rfl)).mono ?_
  rintro e W3 (⟨hX,-⟩ | ⟨-,rfl,hb⟩)
  ·cases hX
  have hG:=ζ (hE.out.call hb)
  clear hb hE HF HH HRF HRH HER HE
  go_wp2_with fail
  refine(HV.out _ hG.out.be).mono ?_
  rintro e W4 ⟨rfl,hb⟩
  have hV:=ζ (hG.out.call hb)
  clear hb hG
  go_wp2_with fail
  refine(HBR2.out _ hV.out.be).mono ?_
  rintro e W5 ⟨rfl,hb⟩
  have hN:=ζ (hV.out.call hb)
  clear hb hV
  go_wp2_with fail
  exact mQ13_0
 rw [qk]at HBR2
 have HRF2:=ζ (fun W hW=>HRF.out W hW qk)
 have HRH2:=ζ (fun W hW=>HRH.out W hW qk)
 clear HRF HRH
 have HRF:=HRF2
 have HRH:=HRH2
 clear HRF2 HRH2
 rw [qk,if_pos rfl]at HER
 clear qk qp
 cases q1:inB d 0 3000
 ·have HE:=ζ (show(if inB d 0 3000 && inB r 0 3000 then 0 else 3)=(3:Int)from by rw [q1];rfl)
  rw [q1]at HI1
  clear q1
  obtain rfl:k=3:=HER.out.trans HE.out
  go_wp2_with fail
  refine(HF.out _ hD.out.be _ _ (hD.out.osx 0 rfl)).mono ?_
  rintro e W2 (⟨hX,-⟩ | ⟨-,rfl,hb⟩)
  ·cases hX
  have hE:=ζ (hD.out.call hb)
  clear hb hD
  go_wp2_with fail
  refine(HH.out _ hE.out.be _ _ (hE.out.osx 0 rfl)).mono ?_
  rintro e W3 (⟨hX,-⟩ | ⟨-,rfl,hb⟩)
  ·cases hX
  have hG:=ζ (hE.out.call hb)
  clear hb hE HF HH HRF HRH HER HE
  go_wp2_with fail
  refine(HV.out _ hG.out.be).mono ?_
  rintro e W4 ⟨rfl,hb⟩
  have hV:=ζ (hG.out.call hb)
  clear hb hG
  go_wp2_with fail
  refine(HBR2.out _ hV.out.be).mono ?_
  rintro e W5 ⟨rfl,hb⟩
  have hN:=ζ (hV.out.call hb)
  clear hb hV
  go_wp2_with ((first | (with_reducible refine(HI1.out _).mono ?_));rintro e WI ⟨rfl,rfl⟩)
  exact mQ13_0
 cases q2:inB r 0 3000
 ·have HE:=ζ (show(if inB d 0 3000 && inB r 0 3000 then 0 else 3)=(3:Int)from by rw [q1,q2];rfl)
  rw [q1]at HI1
  rw [q2]at HI2
  clear q1 q2
  obtain rfl:k=3:=HER.out.trans HE.out
  go_wp2_with fail
  refine(HF.out _ hD.out.be _ _ (hD.out.osx 0 rfl)).mono ?_
  rintro e W2 (⟨hX,-⟩ | ⟨-,rfl,hb⟩)
  ·cases hX
  have hE:=ζ (hD.out.call hb)
  clear hb hD
  go_wp2_with fail
  refine(HH.out _ hE.out.be _ _ (hE.out.osx 0 rfl)).mono ?_
  rintro e W3 (⟨hX,-⟩ | ⟨-,rfl,hb⟩)
  ·cases hX
  have hG:=ζ (hE.out.call hb)
  clear hb hE HF HH HRF HRH HER HE
  go_wp2_with fail
  refine(HV.out _ hG.out.be).mono ?_
  rintro e W4 ⟨rfl,hb⟩
  have hV:=ζ (hG.out.call hb)
  clear hb hG
  go_wp2_with fail
  refine(HBR2.out _ hV.out.be).mono ?_
  rintro e W5 ⟨rfl,hb⟩
  have hN:=ζ (hV.out.call hb)
  clear hb hV
  go_wp2_with ((first | (with_reducible refine(HI1.out _).mono ?_) | (with_reducible refine(HI2.out _).mono ?_));rintro e WI ⟨rfl,rfl⟩)
  exact mQ13_0
 have HE:=ζ (show(if inB d 0 3000 && inB r 0 3000 then 0 else 3)=(0:Int)from by rw [q1,q2];rfl)
 have HRF3:=ζ (fun W hW=>HRF.out W hW (inB_iff.1 q1) (inB_iff.1 q2))
 have HRH3:=ζ (fun W hW=>HRH.out W hW (inB_iff.1 q1) (inB_iff.1 q2))
 rw [q1]at HI1
 rw [q2]at HI2
 clear q1 q2 HRF HRH
 obtain rfl:k=0:=HER.out.trans HE.out
 clear HER HE
 go_wp2_with fail
 refine(HF.out _ hD.out.be _ _ (hD.out.osx 0 rfl)).mono ?_
 rintro e W2 (⟨-,a5,c5,rfl,hrr,hb⟩ | ⟨hX,-⟩)
 rotate_left
 ·exact absurd rfl hX
 have hE:=ζ (show Sy w _ [] [⟨.slice a1 l.length c1,83,2,l.length,L2 l⟩,⟨.slice a5 F.length c5,3,1,F.length,L1 F⟩] []from hD.out.adopt hb hrr)
 clear hb hrr hD HF
 go_wp2_with fail
 refine(HH.out _ hE.out.be _ _ (hE.out.osx 0 rfl)).mono ?_
 rintro e W3 (⟨-,a6,c6,rfl,hrr,hb⟩ | ⟨hX,-⟩)
 rotate_left
 ·exact absurd rfl hX
 have hG:=ζ (show Sy w _ [] [⟨.slice a1 l.length c1,83,2,l.length,L2 l⟩,⟨.slice a5 F.length c5,3,1,F.length,L1 F⟩,⟨.slice a6 D.length c6,3,1,D.length,L1 D⟩] []from hE.out.adopt hb hrr)
 clear hb hrr hE HH
 go_wp2_with fail
 refine(HV.out _ hG.out.be).mono ?_
 rintro e W4 ⟨rfl,hb⟩
 have hV:=ζ (hG.out.call hb)
 clear hb hG
 go_wp2_with fail
 refine(HBR2.out _ hV.out.be).mono ?_
 rintro e W5 ⟨rfl,hb⟩
 have hN:=ζ (hV.out.call hb)
 clear hb hV
 go_wp2_with ((first | (with_reducible refine(HI1.out _).mono ?_) | (with_reducible refine(HI2.out _).mono ?_));rintro e WI ⟨rfl,rfl⟩)
 refine(HRF3.out _ hN.out.be).mono ?_
 rintro e W6 ⟨a7,c7,rfl,hr7,hb⟩
 have hJ:=ζ (hN.out.call hb)
 clear hb hN
 go_wp2_with fail
 refine(ints_any _ _ _ _ _ _ _ F F (hJ.out.osx 1 rfl) hr7.out).mono ?_
 rintro e W7 ⟨rfl,hb⟩
 have hK:=ζ (hJ.out.call hb)
 clear hb hJ hr7
 rw [decide_eq_true (show F=F from rfl)]
 go_wp2_with fail
 refine(HRH3.out _ hK.out.be).mono ?_
 rintro e W8 ⟨a8,c8,rfl,hr8,hb⟩
 have hL:=ζ (hK.out.call hb)
 clear hb hK
 go_wp2_with fail
 refine(ints_any _ _ _ _ _ _ _ D D (hL.out.osx 2 rfl) hr8.out).mono ?_
 rintro e W9 ⟨rfl,hb⟩
 have hM:=ζ (hL.out.call hb)
 clear hb hL hr8
 rw [decide_eq_true (show D=D from rfl)]
 go_wp2_with fail
 refine(HW.out _).mono ?_
 rintro e WZ ⟨rfl,hb⟩
 have hZ:=ζ (hM.out.call hb)
 clear hb
 go_wp2
 go_ret
 exact⟨rfl,hZ.out.be⟩
end
end
end Go.Proofs.YthmdhlopeponcaaGreatDoor

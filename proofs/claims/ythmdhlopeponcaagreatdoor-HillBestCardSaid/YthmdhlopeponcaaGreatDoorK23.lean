/- part -/
import Derived.Test.YthmdhlopeponcaaGreatDoorK20
import Derived.Test.YthmdhlopeponcaaGreatDoorK21
set_option maxRecDepth 100000
set_option maxHeartbeats 4000000
namespace Go.Proofs.YthmdhlopeponcaaGreatDoor
open Go.RowKit Go.Shelf Dig
abbrev Ct:=Rat×List Int
def cmpI (x y:Int):Int:=if x < y then -1 else if y < x then 1 else 0
def lexC:List Int->List Int->Int
 | [],[]=>0
 | [],_::_=> -1
 | _::_,[]=>1
 | x::xs,y::ys=>if cmpI x y=0 then lexC xs ys else cmpI x y
def betB (c:Ct):Option Ct->Bool
 | none=>true
 | some o=>decide (cmpQ c.1 o.1 < 0) || (decide (cmpQ c.1 o.1=0) && decide (lexC c.2 o.2 < 0))
section
variable (l:List Pt) (a unit least depth:Int)
def atC (i:Nat):Int:=a+(i:Int)*unit
def costI (i k:Nat):Rat:=above l (atC a unit i) (atC a unit k) (footI l (atC a unit i) (atC a unit k) depth)
def pickC (row:Nat->Option Ct) (k i:Nat) (cur:Option Ct):Option Ct:=
 match row i with
 | none=>cur
 | some c=>if ((k:Int) - (i:Int))*unit < least then cur else if betB (c.1+costI l a unit depth i k,c.2++ [atC a unit k]) cur then some (c.1+costI l a unit depth i k,c.2++ [atC a unit k])else cur
def nextC (row:Nat->Option Ct) (k:Nat):Nat->Option Ct
 | 0=>none
 | i+1=>pickC l a unit least depth row k i (nextC row k i)
def rowC (n:Nat):Nat->Nat->Option Ct
 | 0=>fun j=>if j=0 then some (0,[a])else none
 | t+1=>fun j=>if 1<=j/\j<=n then nextC l a unit least depth (rowC n t) j j else none
def takeC (c b:Option Ct):Option Ct:=
 match c,b with
 | none,b=>b
 | some c,none=>some c
 | some c,some b=>if cmpQ c.1 b.1 < 0 then some c else some b
def bestC (n:Nat):Nat->Option Ct
 | 0=>none
 | t+1=>takeC (rowC l a unit least depth n (t+1) n) (bestC n t)
inductive Chn:Nat->Nat->List Int->Rat->Prop
 | zero:Chn 0 0 [a] 0
 | step {t i j:Nat} {bs:List Int} {c:Rat} (h:Chn t i bs c) (hij:i < j) (hl:¬ ((j:Int) - (i:Int))*unit < least):Chn (t+1) j (bs++ [atC a unit j]) (c+costI l a unit depth i j)
def costL (bs:List Int):Rat:=smQ ((nbr bs).map fun t=>above l t.1 t.2 (footI l t.1 t.2 depth))
end
section
variable {l:List Pt} {a unit least depth:Int}
theorem pick_chn {row:Nat->Option Ct} {t:Nat} (hr:∀i c,row i=some c->Chn l a unit least depth t i c.2 c.1) {k i:Nat} (hi:i < k) {cur:Option Ct} (hc:∀c,cur=some c->Chn l a unit least depth (t+1) k c.2 c.1):∀c,pickC l a unit least depth row k i cur=some c->Chn l a unit least depth (t+1) k c.2 c.1:=by
 intro c h;unfold pickC at h
 split at h
 ·exact hc c h
 ·rename_i d hd
  split at h
  ·exact hc c h
  ·rename_i hl
   split at h
   ·cases h;exact .step (hr i d hd) hi hl
   ·exact hc c h
theorem next_chn {row:Nat->Option Ct} {t:Nat} (hr:∀i c,row i=some c->Chn l a unit least depth t i c.2 c.1) {k:Nat} :∀ {i:Nat},i<=k->∀c,nextC l a unit least depth row k i=some c->Chn l a unit least depth (t+1) k c.2 c.1
 | 0,_,c,h=>by cases h
 | i+1,hi,c,h=>pick_chn hr (show i < k by omega) (next_chn hr (i:=i) (by omega)) c h
theorem row_chn {n:Nat} :∀ {t j:Nat} {c:Ct},rowC l a unit least depth n t j=some c->Chn l a unit least depth t j c.2 c.1
 | 0,j,c,h=>by
   unfold rowC at h
   split at h
   ·rename_i h0;cases h;subst h0;exact .zero
   ·cases h
 | t+1,j,c,h=>by
   unfold rowC at h
   split at h
   ·exact next_chn (fun i c hc=>row_chn hc) (Nat.le_refl _) c h
   ·cases h
theorem Chn.len {t j:Nat} {bs:List Int} {c:Rat} (h:Chn l a unit least depth t j bs c):bs.length=t+1:=by
 induction h with
 | zero=>rfl
 | step h _ _ ih=>rw [List.length_append,ih];rfl
theorem Chn.last {t j:Nat} {bs:List Int} {c:Rat} (h:Chn l a unit least depth t j bs c):∃pre,bs=pre++ [atC a unit j]:=by
 cases h with
 | zero=>exact⟨[],by simp [atC]⟩
 | step h _ _=>exact⟨_,rfl⟩
theorem Chn.head {t j:Nat} {bs:List Int} {c:Rat} (h:Chn l a unit least depth t j bs c):∃r,bs=a::r:=by
 induction h with
 | zero=>exact⟨[],rfl⟩
 | step h _ _ ih=>obtain ⟨r,rfl⟩:=ih;exact⟨r++_,rfl⟩
theorem Chn.cost {t j:Nat} {bs:List Int} {c:Rat} (h:Chn l a unit least depth t j bs c):c=costL l depth bs:=by
 induction h with
 | zero=>rfl
 | step h _ _ ih=>
   obtain ⟨pre,rfl⟩:=h.last;unfold costL;rw [List.append_assoc,List.singleton_append,nbr_snoc,List.map_append,smQ_app,<-costL,<-ih,List.map_cons,List.map_nil,smQ_cons,smQ_nil,Rat.add_zero];rfl
theorem Chn.hi {t j:Nat} {bs:List Int} {c:Rat} (h:Chn l a unit least depth t j bs c):t=0/\j=0\/0 < t/\t<=j:=by
 induction h with
 | zero=>exact .inl ⟨rfl,rfl⟩
 | step h _ _ ih=>right;omega
theorem atC_lt {i j:Nat} (hu:1<=unit) (h:i < j):atC a unit i < atC a unit j:=by
 unfold atC;have:=Int.mul_lt_mul_of_pos_right (show(i:Int) < (j:Int)by omega) (show 0 < unit by omega);omega
theorem atC_le {i j:Nat} (hu:1<=unit) (h:i<=j):atC a unit i<=atC a unit j:=by
 unfold atC;have:=Int.mul_le_mul_of_nonneg_right (show(i:Int)<=(j:Int)by omega) (show 0<=unit by omega);omega
theorem atC_zero:atC a unit 0=a:=by simp [atC]
theorem Chn.mem {t j:Nat} {bs:List Int} {c:Rat} (h:Chn l a unit least depth t j bs c) (hu:1<=unit):(∀x∈bs,a<=x/\x<=atC a unit j)/\bs.Pairwise (· < ·):=by
 induction h with
 | zero=>exact⟨fun x hx=>by rw [List.mem_singleton.1 hx,atC_zero];exact⟨Int.le_refl _,Int.le_refl _⟩,List.pairwise_singleton ..⟩
 | step h hij _ ih=>
   have hlt:=atC_lt (a:=a) hu hij;have h0:=atC_le (a:=a) hu (Nat.zero_le _) (j:= ‹Nat›);refine⟨fun x hx=>?_,List.pairwise_append.2 ⟨ih.2,List.pairwise_singleton ..,fun x hx y hy=>?_⟩⟩
   ·rcases List.mem_append.1 hx with hx | hx
    ·have:=ih.1 x hx;omega
    ·rw [List.mem_singleton.1 hx];have:=atC_le (a:=a) hu (Nat.zero_le _) (j:= ‹Nat›);rw [atC_zero]at this;have h3:=ih.1;obtain ⟨pre,rfl⟩:=h.last;have h4:=h3 _ (List.mem_append_right _ (List.mem_singleton.2 rfl));omega
   ·rw [List.mem_singleton.1 hy];have:=ih.1 x hx;omega
theorem Chn.brk {t j n:Nat} {bs:List Int} {c:Rat} (h:Chn l a unit least depth t j bs c) (hu:1<=unit) (hT:Strt l a (atC a unit n)) (hj:j<=n) (h0:0 < t) (h60:t<=60) (hp:profB l=true):brkB l bs=true:=by
 obtain ⟨hm,hs⟩:=h.mem hu;have hl:=h.len;have hle:=atC_le (a:=a) hu hj;unfold brkB;rw [hp,Bool.true_and,Bool.and_eq_true,Bool.and_eq_true];refine⟨inB_iff.2 (by omega),upI_iff.2 fun i hi=>?_,List.all_eq_true.2 fun x hx=>?_⟩
 ·rw [bX_at (by omega),bX_at hi];exact List.pairwise_iff_getElem.1 hs i (i+1) (by omega) hi (by omega)
 ·have:=hm x hx;unfold hasB;refine inB_iff.2 ?_;have h1:=hT.lo;have h2:=hT.hi;constructor
  ·exact Int.le_trans h1 this.1
  ·exact Int.le_trans (Int.le_trans this.2 hle) h2
theorem dig_costL (l:List Pt) (depth:Int) (bs:List Int):digQ l bs ((nbr bs).map fun t=>footI l t.1 t.2 depth)=costL l depth bs:=by
 unfold digQ digP costL;congr 1;generalize nbr bs=ts;induction ts with
 | nil=>rfl
 | cons t ts ih=>rw [List.map_cons,List.zip_cons_cons,List.map_cons,List.map_cons,ih];rfl
theorem Strt.in100 {l:List Pt} {a b:Int} (h:Strt l a b): -100000<=a/\a < b/\b<=100000:=by
 have h2:=h.ok.two;have f0:=(h.ok.far (l[0]'(by omega)) (List.getElem_mem _)).1;have f1:=(h.ok.far (l[l.length - 1]'(by omega)) (List.getElem_mem _)).1;have h3:=h.lo;have h4:=h.hi;have h5:=h.lt;rw [hX_at (by omega)]at h3 h4;omega
theorem bq_zero (n:Nat):Bq (n+1) 0:=by
 have h:1 < 2 ^ (n+1):=Nat.one_lt_two_pow (by omega);exact⟨by show(0:Int).natAbs < 2 ^ (n+1);simp only [Int.natAbs_zero];omega,by show((1:Nat):Int).natAbs < 2 ^ (n+1);simp only [Int.natAbs_natCast];exact h⟩
theorem foot_inZ {l:List Pt} {a b depth:Int} (hT:Strt l a b) (h0:0<=depth) (h1:depth<=3000): -103000<=footI l a b depth/\footI l a b depth<=100000:=by
 have:=hT.lo_gd.floor;unfold footI;omega
theorem Chn.bq {t j n:Nat} {bs:List Int} {c:Rat} (h:Chn l a unit least depth t j bs c) (hu:1<=unit) (hT:Strt l a (atC a unit n)) (hj:j<=n) (h60:t<=60) (hp:profB l=true) (hd:0<=depth/\depth<=3000):Bq 17800 c:=by
 by_cases h0:t=0
 ·subst h0;cases h;exact bq_zero 17799
 ·have hb:=h.brk hu hT hj (by omega) h60 hp;rw [h.cost,<-dig_costL];have:=dig_bq (l:=l) (bs:=bs) (zs:=(nbr bs).map fun t=>footI l t.1 t.2 depth) hb (fun z hz=>by
   obtain ⟨q,hq,rfl⟩:=List.mem_map.1 hz;have:=foot_inZ (brk_strt hb hq) hd.1 hd.2;unfold InZ;omega) (by rw [List.length_map,nbr_len]) (digP bs ((nbr bs).map fun t=>footI l t.1 t.2 depth)).length
  rw [List.take_length]at this;exact this
end
def RetRow (w:World) (t:TypeId) (size n:Nat) (xs:List Value) (e:Ending) (w':World):Prop:=∃a c,e= .returned (.slice a n c)/\w'.ownsRow w.heap.size t size (.slice a n c) n xs/\Below w.heap.size w w'
theorem L2_snoc (l:List I2) (k:Nat) (h:k < l.length):L2 (l.take (k+1))=L2 (l.take k)++c2 l[k]:=by rw [List.take_succ_eq_append_getElem h,L2_append];simp [L2]
theorem und_Pts:Tryz.prog.underlying 25=some (.slice 83):=Tryz.underlying25
theorem info_Pts:(Tryz.prog.info? 83).map (fun i=>(i.zero,i.size,i.bytes))=some (some (.agg #[.int .i64 0,.int .i64 0]),2,16):=by kernel_rfl
theorem conv_Pts (a:OA) (n c:Nat) (l:List I2) (w:World) (hs:Sx 2 w a n c (L2 l)) (hn:n<=100000):
  Calls Tryz.prog 17 #[.slice a n c] w (RetRow w 83 2 l.length (L2 l)):=by
 have hlen:=hs.n2;have HS:=ζ hs;obtain rfl:l.length=n:=hlen.symm;clear hs hlen;go_enter Tryz.func17,Tryz.ntmps17;go_wp2;go_loopw [3,4] (fun ov iv wr=>∃ (k:Nat) (a1:OA) (c1:Nat),k<=l.length/\ov= .slice a1 k c1/\iv= .int .i64 k/\Hid (Sy w wr [] [⟨.slice a1 k c1,83,2,k,L2 (l.take k)⟩] [])) (fun _ iv _=>l.length - (intOf iv).toNat)
 case atStart=>exact⟨0,none,0,Nat.zero_le _,rfl,rfl,ζ ((Sy.enter w).onil _ 2)⟩
 case round=>
  obtain ⟨k,a1,c1,hk,rfl,rfl,hC⟩:=hrel;by_cases hlt:k < l.length
  ·obtain ⟨g0,o0,rfl⟩:=HS.out.addr (by omega);have HF:=ζ (fun V (hV:Below w.heap.size w V)=>(HS.out.below hV).at2 hlt);have HT:=ζ (L2_snoc l k hlt);generalize l[k]=x at*;obtain ⟨u0,u1⟩:=x;go_upto_region 5 with fail
   refine wp_region_noPanic ?_;refine wp_region_held_drew (S:=(fun w'=>w'.cell? ⟨g0,o0+k*2,none⟩=some (.int .i64 u0)/\w'.cell? ⟨g0,o0+k*2+1,none⟩=some (.int .i64 u1)/\True)) (by kernel_rfl) ⟨(HF.out _ hC.out.drew.be).1,(HF.out _ hC.out.drew.be).2,trivial⟩ (fun hH=>?_);refine wpAnyH_geny (show Sy w _ [] [⟨.slice a1 k c1,83,2,k,L2 (l.take k)⟩] []from hC.out.drew) hH ?_;intro VPts_0 hc hHPts_0;have hVPts_0:=ζ hc;clear hc hH hC;refine tkA 0 rfl hHPts_0 ?_;(try simp only [zP]);refine tkA 1 rfl hHPts_0 ?_;(try simp only [zP]);refine tkA 2 rfl hHPts_0 ?_;(try simp only [zP]);refine tkA 3 rfl hHPts_0 ?_;(try simp only [zP]);refine tkA 4 rfl hHPts_0 ?_;(try simp only [zP]);refine tkA 5 rfl hHPts_0 ?_;(try simp only [zP]);refine tkA 6 rfl hHPts_0 ?_;(try simp only [zP]);refine tkA 7 rfl hHPts_0 ?_;(try simp only [zP]);refine tkA 8 rfl hHPts_0 ?_;(try simp only [zP]);refine tkA 9 rfl hHPts_0 ?_;(try simp only [zP]);refine tkA 10 rfl hHPts_0 ?_;(try simp only [zP]);refine tkA 11 rfl hHPts_0 ?_;(try simp only [zP]);refine rdy1 12 rfl (fun Kq AA=>?_);go_simp;refine stepZ AA (show Sy w _ [] [⟨.slice a1 k c1,83,2,k,L2 (l.take k)⟩,⟨.slice (some ⟨VPts_0.heap.size,0,none⟩) 1 1,83,2,1,[.int .i64 u0,.int .i64 u1]⟩] []from(hVPts_0.out.onew VPts_0.heap.size #[.int .i64 u0,.int .i64 u1] 83 2 1 rfl (by omega) rfl)) (fun _ hX=>⟨(HF.out _ hX.be).1,(HF.out _ hX.be).2,trivial⟩) ?_;intro VPts_1 hVPts_1 hHPts_1;clear AA Kq hVPts_0 hHPts_0;(try simp only [zP]);refine rdy1 13 rfl (fun Kq AA=>?_);rw [if_pos (by rfl)];refine op_append_sy hVPts_1.out 0 1 rfl rfl _ _ _ rfl und_Pts info_Pts rfl (by omega) rfl rfl (by intro u hu;simp at hu;rcases hu with rfl | rfl<;>rfl) (by omega) (by omega) (fun aAPts_2 cAPts_2 _ hc=>?_);refine stepZ AA (show Sy w _ [] [⟨.slice aAPts_2 (k+1) cAPts_2,83,2,k+1,L2 (l.take k)++ [.int .i64 u0,.int .i64 u1]⟩,⟨.slice (some ⟨VPts_0.heap.size,0,none⟩) 1 1,83,2,1,[.int .i64 u0,.int .i64 u1]⟩] []from hc) (fun _ hX=>⟨(HF.out _ hX.be).1,(HF.out _ hX.be).2,trivial⟩) ?_;intro VPts_2 hVPts_2 hHPts_2;clear AA Kq hVPts_1 hc hHPts_1;(try simp only [zP]);refine rdy1 14 rfl (fun Kq AA=>?_);go_simp;refine stepZ AA (show Sy w _ [] [⟨.slice aAPts_2 (k+1) cAPts_2,83,2,k+1,L2 (l.take k)++ [.int .i64 u0,.int .i64 u1]⟩,⟨.slice (some ⟨VPts_0.heap.size,0,none⟩) 1 1,83,2,1,[.int .i64 u0,.int .i64 u1]⟩] []from hVPts_2.out) (fun _ hX=>⟨(HF.out _ hX.be).1,(HF.out _ hX.be).2,trivial⟩) ?_;intro VPts_3 hVPts_3 hHPts_3;clear AA Kq hVPts_2 hHPts_2;(try simp only [zP]);refine wpAnyH_done (by kernel_rfl) ?_ _;refine NoPanic.normal ?_;go_wp2;go_roundw
   case rel=>
    refine⟨k+1,_,_,by omega,rfl,by go_num,?_⟩;rw [HT.out];exact ζ (hVPts_3.out.thin (List.Sublist.refl _) (by exact List.Sublist.cons_cons _ (List.nil_sublist _)))
   case measure=>simp [intOf];omega
  ·obtain rfl:k=l.length:=by omega
   go_wp2;go_ret;exact⟨_,_,rfl,by have h:=hC.out.gives 0 rfl;rwa [List.take_length]at h,hC.out.be⟩
section
variable (w:World)
theorem ints_any (a1 a2:OA) (n1 c1 n2 c2:Nat) (xs ys:List Int) (h1:Sx 1 w a1 n1 c1 (L1 xs)) (h2:Sx 1 w a2 n2 c2 (L1 ys)):
  Calls Tryz.prog 23 #[.slice a1 n1 c1,.slice a2 n2 c2] w (Gives (.bool (decide (xs=ys))) w):=by
 have cap1:=h1.cap;have cap2:=h2.cap;unfold maxLen at cap1 cap2;obtain rfl:=h1.n1;obtain rfl:=h2.n1;have H1:=ζ h1;have H2:=ζ h2;clear h1 h2;go_enter Tryz.func23,Tryz.ntmps23;by_cases hl:xs.length=ys.length;rotate_left
 ·have h3:((xs.length:Int) !=(ys.length:Int))=true:=bne_iff_ne.2 (by omega);have HE:=ζ (show decide (xs=ys)=false from decide_eq_false (fun e=>hl (by rw [e])));go_wp2;go_ret;exact⟨congrArg (fun z=>Ending.returned (Value.bool z)) HE.out.symm,Below.refl _ _⟩
 have h3:((xs.length:Int) !=(ys.length:Int))=false:=bne_eq_false_iff_eq.2 (by omega);have hC:=ζ (Sy.enter w);go_wp2;go_loopw [5] (fun iv wr=>∃k:Nat,k<=xs.length/\iv= .int .i64 k/\Hid (xs.take k=ys.take k)/\Hid (Sy w wr [] [] [])) (fun iv _=>xs.length - (intOf iv).toNat)
 case atStart=>exact⟨0,Nat.zero_le _,rfl,ζ rfl,hC⟩
 case round=>
  clear hC;obtain ⟨k,hk,rfl,HT,hC⟩:=hrel;by_cases hlt:k < xs.length
  ·have hl2:k < ys.length:=(by omega);have j0:(0:Int)<=(k:Int):=(by omega);have j1:(k:Int) < (xs.length:Int):=(by omega);have j2:(k:Int) < (ys.length:Int):=(by omega);obtain ⟨g1,o1,rfl⟩:=H1.out.addr (by omega);obtain ⟨g2,o2,rfl⟩:=H2.out.addr (by omega);have y0:=(H1.out.below hC.out.be).at1 hlt;have y1:=(H2.out.below hC.out.be).at1 hl2;have HS:=ζ (show xs.take (k+1)=xs.take k++ [xs[k]]from List.take_succ_eq_append_getElem hlt);have AB:=ζ (show ys.take (k+1)=ys.take k++ [ys[k]]from List.take_succ_eq_append_getElem hl2);have HN:=ζ (show xs[k]≠ys[k]->decide (xs=ys)=false from fun h=>decide_eq_false (fun e=>h (by subst e;rfl)));clear h3 hl;generalize xs[k]=x at*;generalize ys[k]=y at*;by_cases he:x=y
   ·subst he;clear HN;go_upto_region 6 with fail
    go_quiet (fail)
    have hD:=ζ (hC.out.call (below_dN (Below.refl _ _) nq));go_wp2;go_roundw
    case rel=>exact⟨k+1,by omega,by go_num,ζ (by rw [HS.out,AB.out,HT.out]),hD⟩
    case measure=>simp [intOf];omega
   ·have h4:(x !=y)=true:=bne_iff_ne.2 he;have HE:=ζ (HN.out he);clear HN HS AB HT;go_upto_region 6 with fail
    go_quiet (fail)
    have hD:=ζ (hC.out.call (below_dN (Below.refl _ _) nq));go_wp2;go_ret;exact⟨congrArg (fun z=>Ending.returned (Value.bool z)) HE.out.symm,hD.out.be⟩
  ·obtain rfl:k=xs.length:=by omega
   have HE:=ζ (show decide (xs=ys)=true from decide_eq_true (by have:=HT.out;rw [List.take_length,hl,List.take_length]at this;exact this));clear HT h3 hl hlt hk;go_wp2;go_ret;exact⟨congrArg (fun z=>Ending.returned (Value.bool z)) HE.out.symm,hC.out.be⟩
def slopeL:List Pt:=[(0,0),(1000,0),(3000,400),(4000,400)]
theorem slope_any:Calls Tryz.prog 58 #[] w (RetRow w 83 2 4 (L2 slopeL)):=by
 go_enter Tryz.func58,Tryz.ntmps58;go_wp2;go_ret;have hC:=(Sy.enter w).onew w.heap.size #[.int .i64 0,.int .i64 0,.int .i64 1000,.int .i64 0,.int .i64 3000,.int .i64 400,.int .i64 4000,.int .i64 400] 83 2 4 rfl (by omega) rfl;exact⟨_,_,rfl,hC.orow 0 rfl,hC.be⟩
end
def brk5:List Int:=[0,1000,2000,3000,4000]
theorem sl_prof:profB slopeL=true:=by decide+kernel
theorem sl_e1:strErr slopeL 0 2000=0:=by decide+kernel
theorem sl_e2:strErr slopeL 0 4000=0:=by decide+kernel
theorem sl_g:grd slopeL 1500=100:=by decide+kernel
theorem sl_a:above slopeL 0 2000 100=25000:=by decide+kernel
theorem sl_b:below slopeL 0 2000 100=125000:=by decide+kernel
theorem sl_feet:folL min 150 ((nbr brk5).map fun t=>footI slopeL t.1 t.2 50)= [-50,-50,100,250]:=by decide+kernel
theorem sl_heads:folL max (-150) ((nbr brk5).map fun t=>headI slopeL t.1 t.2 1000)= [1100,1250,1400,1400]:=by decide+kernel
theorem sl_dig:digQ slopeL brk5 [-50,-50,100,250]=550000:=by decide+kernel
theorem sl_best:bestC slopeL 0 1000 1000 50 4 2=some (600000,[0,2000,4000]):=by decide+kernel
theorem sl_pool:poolB slopeL 0 2000 100000 100083=true:=by decide+kernel
theorem sl_pool':poolB slopeL 0 2000 100000 100082=false:=by decide+kernel
theorem count_mono {p:Nat->Bool} {k:Nat} (h1:∀i,k<=i->p i=true) (h0:∀i,i < k->p i=false):∀n,(List.range n).countP (fun i=> !p i)=min n k
 | 0=>by simp
 | n+1=>by
   rw [List.range_succ,List.countP_append,count_mono h1 h0 n,List.countP_singleton];by_cases h:n < k
   ·rw [h0 n h];simp only [Bool.not_false,if_true];omega
   ·rw [h1 n (by omega)];simp only [Bool.not_true,Bool.false_eq_true,if_false];omega
theorem Strt.poolN_eq {l:List Pt} {a b area:Int} (hT:Strt l a b) {k:Nat} (hk:k < 200001) (h1:poolB l a b area k=true) (h0:poolB l a b area (k - 1)=false):poolN l a b area=k:=by
 have h3:=count_mono (p:=fun i=>if i < 200001 then poolB l a b area i else true) (k:=k) (fun i hi=>by
  split
  ·rename_i h;exact hT.pool_mono k i hi h h1
  ·rfl) (fun i hi=>by
  rw [if_pos (by omega)];cases e:poolB l a b area i
  ·rfl
  ·rw [hT.pool_mono i (k - 1) (by omega) (by omega) e]at h0;cases h0) 200001
 unfold poolN;rw [show min 200001 k=k by omega]at h3;rw [<-h3];refine List.countP_congr fun i hi=>?_;rw [if_pos (List.mem_range.1 hi)]
theorem sl_flood:floodErr slopeL 0 2000 100000=0/\floodLev slopeL 0 2000 100000=83:=by
 have h:=(strErr_zero sl_e1).poolN_eq (by omega) sl_pool sl_pool';have he:floodErr slopeL 0 2000 100000=0:=by
  unfold floodErr;rw [if_pos sl_e1,if_pos (by decide),h];rfl
 refine⟨he,?_⟩;unfold floodLev;rw [if_pos he,h];rfl
theorem sl_rows:rowsErr slopeL brk5 [-50,-50,100,250] [1100,1250,1400,1400] 300=0:=by decide+kernel
theorem sl_rows4:(rowsL brk5 [-50,-50,100,250] [1100,1250,1400,1400] 300).length=4:=by decide+kernel
end Go.Proofs.YthmdhlopeponcaaGreatDoor

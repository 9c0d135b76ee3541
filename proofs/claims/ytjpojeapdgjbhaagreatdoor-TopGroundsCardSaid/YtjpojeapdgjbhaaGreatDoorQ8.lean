/- part -/
import Derived.Test.YtjpojeapdgjbhaaGreatDoorQ7
import Derived.RangeFuncNested
import Derived.RangeFuncBound
import Derived.Shelf.RegionOpen
import Derived.OwnWalkIn
import Derived.LoopNIn
import Derived.LoopIn
set_option maxRecDepth 100000
set_option maxHeartbeats 20000000
namespace Go.Proofs.YtjpojeapdgjbhaaGreatDoor
open Go.RowKit Go.Shelf Dig
attribute [local go_sem] Oper.semAt_some
abbrev Dx:= { x:Int // 0<=x/\x < 16777216 }
def KeepsSet (s:List Nat) (A B:World):Prop:=∀k∈s,B.heap[k]? =A.heap[k]?
theorem keepsSet_t {s:List Nat} {A B C:World} (h:KeepsSet s A B) (k:KeepsSet s B C):KeepsSet s A C:=fun i hi=>(k i hi).trans (h i hi)
theorem keepsSet_b {s:List Nat} {w:World} (hs:∀k∈s,k < w.heap.size) (W:World) (l:Nat) (o o':Obj) (hl:w.heap.size<=l) (_:W.heap[l]? =some o) (_:o.isCells=false) (_:o.isWalk=false):KeepsSet s W (W.putObj l o'):=fun k hk=>by
 have:=hs k hk;exact World.putObj_heap_other (by omega)
theorem Sl.keeps {t:TypeId} {w w':World} {v:Value} {xs:List Int} (h:Sl t w v xs) (hk:∀k,v.ownBlock=some k->w'.heap[k]? =w.heap[k]?):Sl t w' v xs:=by
 refine⟨h.1,?_⟩;rcases h.2 with hn | ⟨g,cap,cur,rfl,hb0,hg,rest⟩
 ·exact .inl hn
 ·exact .inr ⟨g,cap,cur,rfl,hb0,by rw [hk g rfl];exact hg,rest⟩
theorem down1_in (F:Fence) (n:Nat) (h7:F.fn 153) (hro:F.round=none) (hn:1<=n) (l Bs:Nat) (a:OA) (len cap:Nat) (ds:List Dx) (hreach:ds.length<=100000000) (J Jx:List Dx->World->Prop)
  (blk:List Nat) (hblk:∀k,Value.ownBlock (.slice a len cap)=some k->k∈blk)
  (hY:∀pre x W,J pre W->pre.length < ds.length->YieldAt F (n - 1) Tryz.prog l #[.int .i64 x.1] W fun e W'=>
   (e= .returned (.bool true)/\J (pre++ [x]) W'/\KeepsSet (Bs::blk) W W')\/(e= .returned (.bool false)/\Jx (pre++ [x]) W'))
  (W:World) (AA:Box W Bs (.slice a len cap) 68) (hc:Sl 2 W (.slice a len cap) (ds.map (·.1))) (h0:J [] W):
  CallsIn F n Tryz.prog 153 #[.func (.yield l) #[] #[],.pointer (some ⟨Bs,0,none⟩)] W fun e W'=>(∃v,e= .returned v)/\
   ((∃ys,ys=ds.reverse/\J ys W')\/(∃pre,True/\Jx pre W')):=by
 have hlen:=hc.len;rw [List.length_map]at hlen;subst hlen;have HC:=ζ hc;clear hc;refine callsIn_of_wp Tryz.func153 rfl h7 ?_ hro;simp only [Tryz.ntmps153,List.size_toArray,List.length_cons,List.length_nil,Nat.reduceAdd,Nat.reduceSub,Array.replicate_succ,Array.replicate_zero,List.push_toArray,List.append_toArray,List.nil_append,List.cons_append];have bc:=AA.cell;have HB:=ζ AA;have HK:=ζ hblk;clear AA hblk
 gi_wp2
 gi_loopw [3] (fun i wr=>∃k:Nat,k<=ds.length/\i= .int .i64 ((k:Int) - 1)/\J (ds.drop k).reverse wr/\KeepsSet (Bs::blk) W wr)
  (fun i _=>(intOf i+1).toNat)
 case atStart=>exact⟨ds.length,Nat.le_refl _,rfl,by rw [List.drop_length];exact h0,fun _ _=>rfl⟩
 case round=>
  obtain ⟨k,hk,rfl,AC,hnx⟩:=hrel;have hbox:Box wr Bs (.slice a ds.length cap) 68:=(hnx Bs (by simp)).trans HB.out;have bc':=hbox.cell;cases k with
  | zero=>
    gi_wp2
    go_end0
    exact⟨⟨_,rfl⟩,.inl ⟨_,rfl,AC⟩⟩
  | succ k=>
    rw [show((k+1:Nat):Int) - 1=(k:Int)by omega];have hkl:k < ds.length:=(by omega);have hsl:Sl 2 wr (.slice a ds.length cap) (ds.map (·.1)):=HC.out.keeps (fun j hj=>hnx j (List.mem_cons_of_mem _ (HK.out j hj)));obtain ⟨g,rfl,hgl⟩:=hsl.row (by simp;omega);have hcx:=hsl.cell (k:=k) (by simpa using hkl);rw [List.getElem_map]at hcx;have hdr:(ds.drop k).reverse=(ds.drop (k+1)).reverse++ [ds[k]]:=(by rw [List.drop_eq_getElem_cons hkl,List.reverse_cons]);have AE:=ζ hdr;obtain ⟨fn,tmps,assign,body,hy,hR⟩:=hY _ ds[k] wr AC (by simp;omega);clear hsl hdr;have HX:=ζ hnx;clear hnx hY
    gi_wp2
    refine hR.mono ?_;rintro e W3 (⟨rfl,AF,hk3⟩ | ⟨rfl,AB⟩)
    ·have AG:=ζ (keepsSet_t HX.out hk3);clear hk3
     gi_wp2
     go_roundw
     case rel=>exact⟨k,by omega,rfl,by rw [AE.out];exact AF,AG.out⟩
     case measure=>simp [intOf]
    ·gi_wp2
     refine bodyPost_ret (results_none rfl _ _ _) rfl ?_;exact⟨⟨_,rfl⟩,.inr ⟨_,trivial,AB⟩⟩
theorem down_in (F:Fence) (n:Nat) (h5:F.fn 117) (hro:F.round=none) (v:Value) (_hv:v.oneCell'=true) (w:World):
  CallsIn F n Tryz.prog 117 #[.agg #[v]] w fun e w'=>e= .returned (.func (.func 153) #[] #[.pointer (some ⟨w.heap.size,0,none⟩)])/\w'=w.alloc (.cells #[v] 68):=by
 refine callsIn_of_wp Tryz.func117 rfl h5 ?_ hro;simp only [Tryz.ntmps117,List.size_toArray,List.length_cons,List.length_nil,Nat.reduceAdd,Nat.reduceSub,Array.replicate_succ,Array.replicate_zero,List.push_toArray,List.append_toArray,List.nil_append,List.cons_append]
 gi_wp2
 go_ret;exact⟨rfl,rfl⟩
theorem down_stops (F:Fence) (n:Nat) (h7:F.fn 153) (hro:F.round=none) (hn:1<=n) (Bs:Nat) (a:OA) (len cap:Nat) (ds:List Dx) (hreach:ds.length<=100000000) (w:World)
  (blk:List Nat) (hblk:∀k,Value.ownBlock (.slice a len cap)=some k->k∈blk) (AA:Box w Bs (.slice a len cap) 68) (hc:Sl 2 w (.slice a len cap) (ds.map (·.1))):
  SeqStopsK F n Tryz.prog 153 #[.pointer (some ⟨Bs,0,none⟩)] (fun x:Dx=>#[Value.int .i64 x.1]) (KeepsSet (Bs::blk)) (fun ys=>ys=ds.reverse) (fun _=>True) ds.length w:=fun l J Jx W hW _ _ hY h0=>
 down1_in F n h7 hro hn l Bs a len cap ds hreach J Jx blk hblk hY W (AA.below hW AA.lt) (hc.mono hW) h0
def wf (pre:List Dx):Nat:=pre.foldl (fun n x=>(n % 1099511627776)*16777216+x.1.toNat) 0
theorem wf_snoc (pre:List Dx) (x:Dx):wf (pre++ [x])=(wf pre % 1099511627776)*16777216+x.1.toNat:=by simp [wf]
theorem wf_reverse:∀ds:List Dx,vl 16777216 (ds.map (·.1)) < 18446744073709551616->(wf ds.reverse:Int)=vl 16777216 (ds.map (·.1))
 | [],_=>by simp [wf,vl]
 | x::ds,h=>by
   rw [List.map_cons,vl]at h⊢;have hx:=x.2;have h0:0<=vl 16777216 (ds.map (·.1)):=vl_nonneg (b:=16777216) (fun y hy=>by obtain ⟨z,_,rfl⟩:=List.mem_map.1 hy;exact z.2.1);have ih:=wf_reverse ds (by omega);rw [List.reverse_cons,wf_snoc];omega
theorem u64_shl_or (n:Nat) (x:Int) (hx:0<=x/\x < 16777216):bits .or .u64 (IntKind.u64.wrap ((n:Int)*16777216)) x=(((n % 1099511627776)*16777216+x.toNat:Nat):Int):=by
 have hw:IntKind.u64.wrap ((n:Int)*16777216)=((n % 1099511627776:Nat):Int)*16777216:=by rw [IntKind.wrap_u64];omega
 rw [hw,bits_join .u64 64 (by decide) (fun m h0 h1=>by rw [IntKind.wrap_u64];omega) 24 _ _ (by omega) (by omega) (by omega) hx.1 (by omega) (by omega)];omega
theorem dword_in (F:Fence) (n:Nat) (h3:F.fn 62) (h5:F.fn 117) (h7:F.fn 153) (hro:F.round=none) (hn:3<=n) (a:OA) (len cap:Nat) (ds:List Dx) (hreach:ds.length<=100000000) (w:World)
  (hI:Sl 2 w (.slice a len cap) (ds.map (·.1))):
  CallsIn F n Tryz.prog 62 #[.agg #[.slice a len cap]] w fun e W'=>e= .returned (.int .u64 (wf ds.reverse))/\Below w.heap.size w W':=by
 have h1:1<=n:=by omega
 refine callsIn_of_wp_marks Tryz.func62 rfl h3 ?_ hro;simp only [Tryz.ntmps62,List.size_toArray,List.length_cons,List.length_nil,Nat.reduceAdd,Nat.reduceSub,Array.replicate_succ,Array.replicate_zero,List.push_toArray,List.append_toArray,List.nil_append,List.cons_append]
 gi_wp2_with (gi_at_call 117;refine(down_in F (n - 1) h5 hro _ rfl _).mono ?_;rintro e w' ⟨rfl,rfl⟩)
 have AD:Below w.heap.size w (((w.alloc (.cells #[.slice a len cap] 68)).alloc (.cells #[.int .u64 0] 144)).alloc (.cells #[.slice a len cap] 68)):=(((Below.refl _ w).alloc (Nat.le_refl _) _).alloc (by go_size) _).alloc (by go_size) _;have bN:Box (((w.alloc (.cells #[.slice a len cap] 68)).alloc (.cells #[.int .u64 0] 144)).alloc (.cells #[.slice a len cap] 68)) (w.heap.size+1) (.int .u64 0) 144:=(Box.new' (by simp)).alloc _;have bD:Box (((w.alloc (.cells #[.slice a len cap] 68)).alloc (.cells #[.int .u64 0] 144)).alloc (.cells #[.slice a len cap] 68)) (w.heap.size+1+1) (.slice a len cap) 68:=Box.new' (by simp);have hblk:∀k∈(w.heap.size+1+1)::(Value.ownBlock (.slice a len cap)).toList,k < w.heap.size+3/\k≠w.heap.size+1:=by
  intro k hk;rcases List.mem_cons.1 hk with rfl | hk
  ·omega
  ·have:=hI.lt k (by simpa using hk);omega
 refine wpIn_rangeFunc_ownG hro h1 (gf:=153) (lb:=#[.pointer (some ⟨w.heap.size+1+1,0,none⟩)]) rfl h7 (enters_of Tryz.func153 (by kernel_rfl) rfl)
  (down_stops F (n - 1) h7 hro (by omega) (w.heap.size+1+1) a len cap ds hreach _ (Value.ownBlock (.slice a len cap)).toList (fun k hk=>by simp [hk]) bD (hI.mono AD)) keepsSet_t (keepsSet_b (fun k hk=>by have:=(hblk k hk).1;simp;omega)) (Below.refl _ _) (fun _=>rfl)
  (fun pre W=>(W.cell? ⟨w.heap.size+1,0,none⟩=some (.int .u64 (wf pre))/\W.frozen? ⟨w.heap.size+1,0,none⟩=false)/\Below w.heap.size w W)
  (fun _ _ _=>False)
  (OwnFrom.and (Own.from (fun s A B row hs hg hr=>⟨cell_kept hs.1 hg hr,(frozen_kept hs.1 hg hr).trans hs.2⟩) _) (ownFrom_below (Nat.le_refl _) (by simp;omega)))
  (fun _ _ _ _ _ hs _ _=>hs)
  ⟨⟨bN.cell,bN.free⟩,AD⟩
  (fun x=> { tmps:=#[.agg #[.slice a len cap],.pointer (some ⟨w.heap.size,0,none⟩),.int .u64 0,.pointer (some ⟨w.heap.size+1,0,none⟩),.int .i64 x.1,.agg #[.slice a len cap],.func (.func 153) #[] #[.pointer (some ⟨w.heap.size+1+1,0,none⟩)],.int .i64 x.1,undef,undef,undef,undef,undef,undef],defers:=[] }) ?assign ?body ?done ?stop
 case assign=>
  intro l x W K hK
  gi_wp2
  exact hK
 case body=>
  rintro l pre x W ⟨⟨hc,hf⟩,hB⟩ _;have hx1:0<=x.1/\x.1 < 16777216:=x.2
  gi_wp2
  rw [u64_shl_or _ _ hx1,<-wf_snoc];refine⟨(KeepsOthers.setCell _ _ _).from _,fun k hk=>Below.heap_setCell _ _ _ _ (fun e=>(hblk k hk).2 e),⟨⟨World.cell?_setCell_same' _ _ _ (by rw [hc];rfl),by rw [World.frozen?_setCell];exact hf⟩,hB.setCell (p:=⟨w.heap.size+1,0,none⟩) (by simp) _⟩⟩
 case done=>
  rintro D ys W hD rfl ⟨⟨hc,_⟩,hB⟩ hK
  gi_wp2
  refine⟨by simp,.inl ⟨_,_,rfl,run_takeDeferred hK,?_⟩⟩;exact⟨_,results_tmp rfl _ _ _,rfl,hB.trans (belowK_b (w:=w) (Nat.le_refl _) W D _ _ (by simp at hD;omega) hK rfl rfl)⟩
 case stop=>
  rintro D c pre W _ _ h _;exact h.elim
theorem dx_of (N:Nat):∃ds:List Dx,ds.map (·.1)=dg 16777216 N:=
 ⟨(dg 16777216 N).attachWith _ (dg_mem (b:=16777216) (by omega) N),by simp⟩
theorem dword_any (a:OA) (n c:Nat) (M:Nat) (w:World) (h1:Dg w (.slice a n c) M) (hM:M < 18446744073709551616):
  Calls Tryz.prog 62 #[.agg #[.slice a n c]] w fun e w'=>e= .returned (.int .u64 M)/\Below w.heap.size w w':=by
 obtain ⟨ds,hds⟩:=dx_of M;have hlen:ds.length<=3:=by
  have h:=congrArg List.length hds;rw [List.length_map]at h;rw [h];exact dg_len_le (by omega) (Nat.lt_of_lt_of_le hM (by decide))
 have hv:vl 16777216 (ds.map (·.1))=(M:Int):=by rw [hds];exact vl_dg (b:=16777216) (by omega) M
 have hr:=wf_reverse ds (by omega);have hr2:wf ds.reverse=M:=by omega
 unfold Dg at h1;rw [<-hds]at h1;refine callsIn_wide (n:=3).1 ?_;rw [<-hr2];exact dword_in _ 3 trivial trivial trivial rfl (Nat.le_refl _) a n c ds (by omega) w h1
section
open Go.RowKit Dig
theorem gcd_both {p q:Nat} (hp:p % 2=0) (hq:q % 2=0):Nat.gcd p q=2*Nat.gcd (p / 2) (q / 2):=by
 have e1:p=2*(p / 2):=by omega
 have e2:q=2*(q / 2):=by omega
 rw [e1,e2,Nat.gcd_mul_left];simp
theorem pow_len {k M:Nat} (h:2 ^ k<=M) (hl:(dg 16777216 M).length<=400000):k<=9600000:=by
 have h1:=dg_len_lt (b:=16777216) (by omega) M;rw [show(16777216:Nat)=2 ^ 24 by decide,<-Nat.pow_mul]at h1;have h2:2 ^ k < 2 ^ (24*(dg (2 ^ 24) M).length):=Nat.lt_of_le_of_lt h h1;rw [Nat.pow_lt_pow_iff_right (by omega)]at h2;rw [show(16777216:Nat)=2 ^ 24 by decide]at hl;omega
theorem small2 {M:Nat} (hl:(dg 16777216 M).length<=2):M < 281474976710656:=by
 have h1:=dg_len_lt (b:=16777216) (by omega) M;exact Nat.lt_of_lt_of_le h1 (Nat.le_trans (Nat.pow_le_pow_right (by omega) hl) (by decide))
theorem gcd_len {g:Nat} (h:g < 18446744073709551616):(dg 16777216 g).length<=10000000:=
 Nat.le_trans (dg_len_le (b:=16777216) (k:=3) (by omega) (Nat.lt_of_lt_of_le h (by decide))) (by omega)
theorem gcd_half_left {p q:Nat} (hp:p % 2=0) (hq:q % 2=1):Nat.gcd (p / 2) q=Nat.gcd p q:=by
 have e1:p=2*(p / 2):=by omega
 have hc:Nat.Coprime 2 q:=by
  rw [Nat.coprime_iff_gcd_eq_one,Nat.gcd_rec,hq];rfl
 conv=>rhs;rw [e1]
 rw [Nat.Coprime.gcd_mul_left_cancel _ hc]
theorem gcd_half_right {p q:Nat} (hp:p % 2=1) (hq:q % 2=0):Nat.gcd p (q / 2)=Nat.gcd p q:=by
 rw [Nat.gcd_comm p,gcd_half_left hq hp,Nat.gcd_comm]
theorem gcd_sub {p q:Nat} (h:p<=q):Nat.gcd p (q - p)=Nat.gcd p q:=by
 rw [Nat.gcd_sub_self_right h]
structure CI (w wr:World) (B:Nat) (s1 s2:Value) (p q:Nat) (L:Nat):Prop where
 x1:Box wr B s1 68
 x2:Box wr (B+1) s2 68
 x3:Box wr (B+2) (.slice none 0 0) 68
 d1:Dg wr s1 p
 d2:Dg wr s2 q
 b:Below w.heap.size w wr
 l1:(dg 16777216 p).length<=L
 l2:(dg 16777216 q).length<=L
theorem CI.later {w wr w':World} {B:Nat} {s1 s2:Value} {p q L:Nat} (h:CI w wr B s1 s2 p q L) (hb:Below wr.heap.size wr w'):CI w w' B s1 s2 p q L:=
 ⟨h.x1.below hb h.x1.lt,h.x2.below hb h.x2.lt,h.x3.below hb h.x3.lt,h.d1.mono hb,h.d2.mono hb,h.b.trans (hb.mono h.b.size),h.l1,h.l2⟩
theorem CI.cells {w wr:World} {B:Nat} {s1 s2:Value} {p q L:Nat} (h:CI w wr B s1 s2 p q L):wr.cell? ⟨B,0,none⟩=some s1/\wr.cell? ⟨B+1,0,none⟩=some s2/\wr.frozen? ⟨B,0,none⟩=false/\wr.frozen? ⟨B+1,0,none⟩=false:=⟨h.x1.cell,h.x2.cell,h.x1.free,h.x2.free⟩
theorem CI.set1 {w wr w':World} {B:Nat} {s1 s2 s3:Value} {p q r L:Nat} (h:CI w wr B s1 s2 p q L) (hb:Below wr.heap.size wr w') (hd:Dg w' s3 r) (hl:(dg 16777216 r).length<=L) (hB:w.heap.size<=B):
  CI w (w'.setCell ⟨B,0,none⟩ s3) B s3 s2 r q L:=by
 have h':=h.later hb;exact⟨h'.x1.set _,h'.x2.other (by omega) _,h'.x3.other (by omega) _,hd.other (Sl.ne_box hd h'.x1 (by decide)) _,h'.d2.other (Sl.ne_box h'.d2 h'.x1 (by decide)) _,h'.b.setCell hB _,hl,h'.l2⟩
theorem CI.set2 {w wr w':World} {B:Nat} {s1 s2 s3:Value} {p q r L:Nat} (h:CI w wr B s1 s2 p q L) (hb:Below wr.heap.size wr w') (hd:Dg w' s3 r) (hl:(dg 16777216 r).length<=L) (hB:w.heap.size<=B):
  CI w (w'.setCell ⟨B+1,0,none⟩ s3) B s1 s3 p r L:=by
 have h':=h.later hb;exact⟨h'.x1.other (by omega) _,h'.x2.set _,h'.x3.other (by omega) _,h'.d1.other (Sl.ne_box h'.d1 h'.x2 (by decide)) _,hd.other (Sl.ne_box hd h'.x2 (by decide)) _,h'.b.setCell (show w.heap.size<=B+1 by omega) _,h'.l1,hl⟩
theorem CI.swap {w wr:World} {B:Nat} {s1 s2:Value} {p q L:Nat} (h:CI w wr B s1 s2 p q L) (hB:w.heap.size<=B):CI w ((wr.setCell ⟨B,0,none⟩ s2).setCell ⟨B+1,0,none⟩ s1) B s2 s1 q p L:=by
 have h1:=h.set1 (Below.refl _ _) h.d2 h.l2 hB;exact h1.set2 (Below.refl _ _) (Sl.other h.d1 (Sl.ne_box h.d1 h.x1 (by decide)) _) h.l1 hB
theorem CI.drewN {w wr:World} {B:Nat} {s1 s2:Value} {p q L:Nat} (h:CI w wr B s1 s2 p q L) (n:Nat):CI w (wr.drewN n) B s1 s2 p q L:=h.later (Below.drewN (Below.refl _ _) n)
theorem even_b (a:OA) (n c:Nat) (M:Nat) (w:World) (h1:Dg w (.slice a n c) M) (hM:0 < M):
  Calls Tryz.prog 234 #[.agg #[.slice a n c]] w fun e w'=>e= .returned (.bool (((M:Int) % 2)==0))/\Below w.heap.size w w':=
 (even_any a n c M w h1 hM).mono fun _ _ ⟨he,hw⟩=>⟨he,by rw [hw];exact(Below.refl _ _).alloc (Nat.le_refl _) _⟩
theorem none_b (a:OA) (n c:Nat) (M:Nat) (w:World) (h1:Dg w (.slice a n c) M):
  Calls Tryz.prog 78 #[.agg #[.slice a n c]] w fun e w'=>e= .returned (.bool (decide (M=0)))/\Below w.heap.size w w':=
 (none_any a n c w).mono fun _ _ ⟨he,hw⟩=>⟨by
  rw [he];have hn:=Sl.len h1;have h0:=dg_nil_iff (b:=16777216) (by omega) (n:=M);refine ret_bool ?_;by_cases h:M=0
  ·rw [h0.2 h,List.length_nil]at hn;subst hn;simp [h]
  ·have:n≠0:=fun e=>h (h0.1 (List.eq_nil_of_length_eq_zero (by omega)));have h1:((n:Int)==0)=false:=(by simpa using this);rw [h1];simp [h],by rw [hw];exact(Below.refl _ _).alloc (Nat.le_refl _) _⟩
theorem none_t (a:OA) (n c:Nat) (w:World) (h1:Dg w (.slice a n c) 0):
  Calls Tryz.prog 78 #[.agg #[.slice a n c]] w fun e w'=>e= .returned (.bool true)/\Below w.heap.size w w':=
 (none_b a n c 0 w h1).mono fun _ _ ⟨he,hw⟩=>⟨he,hw⟩
theorem none_f (a:OA) (n c:Nat) (M:Nat) (w:World) (h1:Dg w (.slice a n c) M) (hM:M≠0):
  Calls Tryz.prog 78 #[.agg #[.slice a n c]] w fun e w'=>e= .returned (.bool false)/\Below w.heap.size w w':=
 (none_b a n c M w h1).mono fun _ _ ⟨he,hw⟩=>⟨by rw [he];exact ret_bool (by simp [hM]),hw⟩
theorem mCommon_0 {P_:Prop} (h:P_:=by
 go_wp2;have hF:RetD w (Nat.gcd M N) (.returned (.agg #[.slice b9 m9 d9])) (we.setCell ⟨w.heap.size+2,0,none⟩ (.slice b9 m9 d9)):=
  ⟨b9,m9,d9,rfl,by rw [<-hg5.out,Nat.mul_comm,<-AJ.out];exact Sl.other HDe.out (Sl.ne_box HDe.out AE.out.x3 (by decide)) _,AE.out.b.setCell (by simp) _⟩
 have bs:=fun u=>(AE.out.x3.set u).cell;exact bodyPost_ret (v:= .agg #[.slice b9 m9 d9]) (by simp [results,Tryz.results206,go_sem,bs]) rfl hF):P_:=h
theorem common_any (a:OA) (n c:Nat) (a2:OA) (n2 c2:Nat) (M N:Nat) (w:World) (h1:Dg w (.slice a n c) M) (h2:Dg w (.slice a2 n2 c2) N)
  (hlM:(dg 16777216 M).length<=400000) (hlN:(dg 16777216 N).length<=400000):
  Calls Tryz.prog 206 #[.agg #[.slice a n c],.agg #[.slice a2 n2 c2]] w (RetD w (Nat.gcd M N)):=by
 have hn:=Sl.len h1;have hn2:=Sl.len h2;have L1:=ζ (Sl.lt h1);have L2:=ζ (Sl.lt h2);have H1:=ζ h1;have H2:=ζ h2;have AG:=ζ hn2;clear h1 h2 hn2;by_cases hM:M=0
 ·subst hM;rw [dg_zero,List.length_nil]at hn;subst hn;go_enter Tryz.func206,Tryz.ntmps206;go_wp2_with fail
  refine(none_any _ _ _ _).mono ?_;rintro e w' ⟨rfl,rfl⟩;go_wp2;exact bodyPost_ret (v:= .agg #[.slice a2 n2 c2]) (by simp [results,Tryz.results206,go_sem]) rfl ⟨a2,n2,c2,rfl,by rw [Nat.gcd_zero_left];exact(((Sl.alloc H2.out _).alloc _).alloc _).alloc _,((((Below.refl _ _).alloc (Nat.le_refl _) _).alloc (by go_size) _).alloc (by go_size) _).alloc (by go_size) _⟩
 have hnz:((n:Int)==0)=false:=by
  have:n≠0:=fun e=>hM ((dg_nil_iff (b:=16777216) (by omega)).1 (List.eq_nil_of_length_eq_zero (by omega)));simpa using this
 clear hn;by_cases hN:N=0
 ·subst hN;rw [dg_zero,List.length_nil]at AG;have hn2:=AG.out;clear AG;subst hn2;go_enter Tryz.func206,Tryz.ntmps206;go_wp2_with fail
  refine(none_any _ _ _ _).mono ?_;rintro e w' ⟨rfl,rfl⟩;rw [hnz];go_wp2_with fail
  refine(none_any _ _ _ _).mono ?_;rintro e w' ⟨rfl,rfl⟩;go_wp2;exact bodyPost_ret (v:= .agg #[.slice a n c]) (by simp [results,Tryz.results206,go_sem]) rfl ⟨a,n,c,rfl,by rw [Nat.gcd_zero_right];exact((((Sl.alloc H1.out _).alloc _).alloc _).alloc _).alloc _,(((((Below.refl _ _).alloc (Nat.le_refl _) _).alloc (by go_size) _).alloc (by go_size) _).alloc (by go_size) _).alloc (by go_size) _⟩
 have hnz2:((n2:Int)==0)=false:=by
  have:n2≠0:=fun e=>hN ((dg_nil_iff (b:=16777216) (by omega)).1 (List.eq_nil_of_length_eq_zero (by have:=AG.out;omega)));simpa using this
 go_enter Tryz.func206,Tryz.ntmps206;go_wp2_with fail
 refine(none_any _ _ _ _).mono ?_;rintro e w' ⟨rfl,rfl⟩;rw [hnz];go_wp2_with fail
 refine(none_any _ _ _ _).mono ?_;rintro e w' ⟨rfl,rfl⟩;rw [hnz2];have AS:CI w (((((w.alloc (.cells #[.slice a n c] 68)).alloc (.cells #[.slice a2 n2 c2] 68)).alloc (.cells #[.slice none 0 0] 68)).alloc (.cells #[.slice a n c] 68)).alloc (.cells #[.slice a2 n2 c2] 68)) w.heap.size (.slice a n c) (.slice a2 n2 c2) M N 400000:=
  ⟨((((Box.new' rfl).alloc _).alloc _).alloc _).alloc _,(((Box.new' (by simp)).alloc _).alloc _).alloc _,((Box.new' (by simp)).alloc _).alloc _,((((Sl.alloc H1.out _).alloc _).alloc _).alloc _).alloc _,((((Sl.alloc H2.out _).alloc _).alloc _).alloc _).alloc _,
    (((((Below.refl _ _).alloc (Nat.le_refl _) _).alloc (by go_size) _).alloc (by go_size) _).alloc (by go_size) _).alloc (by go_size) _,hlM,hlN⟩
 have AT:=ζ AS;clear AS hnz hnz2;go_wp2;go_loopg [5] M (fun gk bv wr=>∃ (k p q:Nat) (a1:OA) (n1 c1:Nat) (a2:OA) (n2 c2:Nat),bv= .int .i64 k/\p=gk/\0 < p/\0 < q/\p<=M/\q<=N/\k<=9600000/\Hid (2 ^ k*p<=M)/\Hid (2 ^ k*Nat.gcd p q=Nat.gcd M N)/\
   Hid (CI w wr w.heap.size (.slice a1 n1 c1) (.slice a2 n2 c2) p q 400000))
 case atStart=>exact⟨0,M,N,a,n,c,a2,n2,c2,rfl,rfl,by omega,by omega,Nat.le_refl _,Nat.le_refl _,by omega,by simp [Hid],by simp [Hid],AT⟩
 case round=>
  clear AT H1 H2 L1 L2 AG;obtain ⟨k,p,q,a1,n1,c1,a2,n2,c2,rfl,rfl,hp,hq,hpM,hqN,hk,hkp,hg,hC⟩:=hrel;obtain ⟨b1,b2,f1,f2⟩:=hC.out.cells;by_cases hboth:p % 2=0/\q % 2=0
  ·have e1:((p:Int) % 2==0)=true:=(by simp;omega);have e2:((q:Int) % 2==0)=true:=(by simp;omega);go_wp2_with fail
   refine(even_b _ _ _ p _ hC.out.d1 hp).mono ?_;rintro e w1 ⟨rfl,hb1⟩;have AH:=ζ (hC.out.later hb1);clear b1 b2 f1 f2 hC hb1;obtain ⟨b1,b2,f1,f2⟩:=AH.out.cells;rw [e1];go_wp2_with fail
   refine(even_b _ _ _ q _ AH.out.d2 hq).mono ?_;rintro e w2 ⟨rfl,hb2⟩;have AA:=ζ (AH.out.later hb2);clear b1 b2 f1 f2 AH hb2;obtain ⟨b1,b2,f1,f2⟩:=AA.out.cells;rw [e2];go_wp2_with fail
   have hl1:(dg 16777216 p).length<=10000000:=Nat.le_trans AA.out.l1 (by omega);have hl2:(dg 16777216 q).length<=10000000:=Nat.le_trans AA.out.l2 (by omega);have AU:=ζ hl1;have AV:=ζ hl2;clear hl1 hl2;go_region_with (first
    | (go_at_call_of 235 (Value.slice a1 n1 c1);(refine(half_any a1 n1 c1 p _ ?h1 AU.out).mono ?_);case h1=>exact(show Sl _ _ _ _ from Sl.drew AA.out.d1)
       rintro e w3 ⟨a3,n3,c3,rfl,hd3,hb3⟩;have AD:=ζ (AA.out.later (Below.trans ((Below.refl _ _).drew) hb3));have H3:=ζ hd3;have AZ:=ζ hb3;clear hd3 hb3;obtain ⟨b1,b2,f1,f2⟩:=AD.out.cells)
    | (go_at_call_of 235 (Value.slice a2 n2 c2);(refine(half_any a2 n2 c2 q _ AD.out.d2 AV.out).mono ?_)
       rintro e w4 ⟨a4,n4,c4,rfl,hd4,hb4⟩;have AB:=ζ (AD.out.later hb4);have H4:=ζ hd4;have AW:=ζ hb4;clear hd4 hb4;obtain ⟨b1,b2,f1,f2⟩:=AB.out.cells))
   all_goals
    have d3:=Sl.mono H3.out AW.out;have AC:=ζ (CI.set2 (CI.set1 AB.out (Below.refl _ _) d3 (Nat.le_trans (dg_len_mono (by omega) (Nat.div_le_self p 2)) AB.out.l1) (Nat.le_refl _)) (Below.refl _ _) (Sl.other H4.out (Sl.ne_box H4.out AB.out.x1 (by decide)) _) (Nat.le_trans (dg_len_mono (by omega) (Nat.div_le_self q 2)) AB.out.l2) (Nat.le_refl _));have hk2:2 ^ (k+1)*(p / 2)<=M:=(by have h:=hkp.out;rw [Nat.pow_succ,Nat.mul_assoc,show 2*(p / 2)=p by omega];exact h);have hk1:k+1<=9600000:=pow_len (Nat.le_trans (Nat.le_mul_of_pos_right _ (by omega)) hk2) hlM;have hgg:2 ^ (k+1)*Nat.gcd (p / 2) (q / 2)=Nat.gcd M N:=(by rw [<-hg.out,gcd_both hboth.1 hboth.2,Nat.pow_succ,Nat.mul_assoc]);have AX:=ζ hk2;have AJ:=ζ hgg;clear hk2 hgg d3;go_wp2;go_roundg (p / 2)
    case measure=>omega
    case rel=>exact⟨k+1,p / 2,q / 2,a3,n3,c3,a4,n4,c4,by rw [show IntKind.i64.wrap ((k:Int)+1)=(k:Int)+1 from IntWalk.i64_in _ (by omega)];rfl,rfl,by omega,by omega,by omega,by omega,hk1,AX,AJ,AC⟩
  ·have hcase:p % 2=1\/(p % 2=0/\q % 2=1):=(by omega);have hodd:p % 2=1\/q % 2=1:=(by omega);rcases hcase with h1 | ⟨h1,h2⟩
   case' inl=>
    have e1:((p:Int) % 2==0)=false:=(by simp;omega);go_wp2_with fail
    refine(even_b _ _ _ p _ hC.out.d1 hp).mono ?_;rintro e w2 ⟨rfl,hb1⟩;have AA:=ζ (hC.out.later hb1);clear b1 b2 f1 f2 hC hb1;rw [e1];go_wp2_with fail
   case' inr=>
    have e1:((p:Int) % 2==0)=true:=(by simp;omega);have e2:((q:Int) % 2==0)=false:=(by simp;omega);go_wp2_with fail
    refine(even_b _ _ _ p _ hC.out.d1 hp).mono ?_;rintro e w1 ⟨rfl,hb1⟩;have AH:=ζ (hC.out.later hb1);clear b1 b2 f1 f2 hC hb1;obtain ⟨b1,b2,f1,f2⟩:=AH.out.cells;rw [e1];go_wp2_with fail
    refine(even_b _ _ _ q _ AH.out.d2 hq).mono ?_;rintro e w2 ⟨rfl,hb2⟩;have AA:=ζ (AH.out.later hb2);clear b1 b2 f1 f2 AH hb2;rw [e2];go_wp2_with fail
   all_goals
    clear e1;have hG:=ζ hg.out;clear hg hkp;go_loopg [] p (fun gk w3=>∃ (p2:Nat) (a3:OA) (n3 c3:Nat),p2=gk/\0 < p2/\(p2 % 2=1\/q % 2=1)/\Hid (2 ^ k*Nat.gcd p2 q=Nat.gcd M N)/\Hid (CI w w3 w.heap.size (.slice a3 n3 c3) (.slice a2 n2 c2) p2 q 400000))
    case atStart=>exact⟨p,a1,n1,c1,rfl,hp,hodd,hG,AA⟩
    case round=>
     clear AA hodd hG hp hpM;obtain ⟨p2,a3,n3,c3,rfl,hp2,hodd,hG,hC⟩:=hrel;obtain ⟨b1,b2,f1,f2⟩:=hC.out.cells;by_cases hev:p2 % 2=0
     ·have e1:((p2:Int) % 2==0)=true:=(by simp;omega);go_wp2_with fail
      refine(even_b _ _ _ p2 _ hC.out.d1 hp2).mono ?_;rintro e w4 ⟨rfl,hb1⟩;have AA:=ζ (hC.out.later hb1);clear b1 b2 f1 f2 hC hb1;obtain ⟨b1,b2,f1,f2⟩:=AA.out.cells;rw [e1];go_wp2_with fail
      refine(half_any _ _ _ p2 _ AA.out.d1 (Nat.le_trans AA.out.l1 (by omega))).mono ?_;rintro e w5 ⟨a4,n4,c4,rfl,hd,hb⟩;have AD:=ζ (CI.set1 AA.out hb hd (Nat.le_trans (dg_len_mono (by omega) (Nat.div_le_self p2 2)) AA.out.l1) (Nat.le_refl _));have f1':=((AA.out.later hb).x1).free;have b1':=((AA.out.later hb).x1).cell;clear b1 b2 f1 f2 AA hb hd;go_wp2;go_roundg (p2 / 2)
      case measure=>omega
      case rel=>exact⟨p2 / 2,a4,n4,c4,rfl,by omega,.inr (by omega),by unfold Hid;rw [gcd_half_left hev (by omega)];exact hG.out,AD⟩
     ·have e1:((p2:Int) % 2==0)=false:=(by simp;omega);have hpo:p2 % 2=1:=(by omega);go_wp2_with fail
      refine(even_b _ _ _ p2 _ hC.out.d1 hp2).mono ?_;rintro e w4 ⟨rfl,hb1⟩;have AA:=ζ (hC.out.later hb1);clear b1 b2 f1 f2 hC hb1 hodd hev;rw [e1];go_wp2_with fail
      go_loopg [] (p2+q) (fun gk w5=>∃ (p3 q3:Nat) (a4:OA) (n4 c4:Nat) (a5:OA) (n5 c5:Nat),p3+q3=gk/\0 < p3/\p3 % 2=1/\Hid (2 ^ k*Nat.gcd p3 q3=Nat.gcd M N)/\Hid (CI w w5 w.heap.size (.slice a4 n4 c4) (.slice a5 n5 c5) p3 q3 400000))
      case atStart=>exact⟨p2,q,a3,n3,c3,a2,n2,c2,rfl,hp2,hpo,hG,AA⟩
      case round=>
       clear AA hG hp2 hpo e1;obtain ⟨p3,q3,a4,n4,c4,a5,n5,c5,rfl,hp3,hpo,hG,hC⟩:=hrel;obtain ⟨b1,b2,f1,f2⟩:=hC.out.cells;by_cases hq0:q3=0
       ·subst hq0;go_wp2_with fail
        refine(none_t _ _ _ _ hC.out.d2).mono ?_;rintro e w6 ⟨rfl,hb1⟩;have AA:=ζ (hC.out.later hb1);clear b1 b2 f1 f2 hC hb1;obtain ⟨b1,b2,f1,f2⟩:=AA.out.cells;go_wp2_with fail
        refine(shifted_any _ _ _ p3 k _ AA.out.d1 (Nat.le_trans AA.out.l1 (by omega)) (by omega)).mono ?_;rintro e w7 ⟨a6,n6,c6,rfl,hd,hb⟩;have AD:=ζ (AA.out.later hb);have bx:=AD.out.x3;have bc:=bx.cell;have bf:=bx.free;have bs:=fun u=>(bx.set u).cell;have HF:=ζ (show RetD w (Nat.gcd M N) (.returned (.agg #[.slice a6 n6 c6])) (w7.setCell ⟨w.heap.size+2,0,none⟩ (.slice a6 n6 c6))from
         ⟨a6,n6,c6,rfl,by rw [<-hG.out,Nat.gcd_zero_right,Nat.mul_comm];exact Sl.other hd (Sl.ne_box hd bx (by decide)) _,AD.out.b.setCell (by simp) _⟩)
        clear b1 b2 f1 f2 hd hb bx;go_wp2;exact bodyPost_ret (v:= .agg #[.slice a6 n6 c6]) (by simp [results,Tryz.results206,go_sem,bs]) rfl HF.out
       ·go_wp2_with fail
        refine(none_f _ _ _ q3 _ hC.out.d2 hq0).mono ?_;rintro e w6 ⟨rfl,hb1⟩;have AA:=ζ (hC.out.later hb1);clear b1 b2 f1 f2 hC hb1;obtain ⟨b1,b2,f1,f2⟩:=AA.out.cells;go_wp2_with fail
        clear b1 b2 f1 f2;go_loopg [] q3 (fun gk w7=>∃ (q4:Nat) (a6:OA) (n6 c6:Nat),q4=gk/\0 < q4/\q4<=q3/\Hid (2 ^ k*Nat.gcd p3 q4=Nat.gcd M N)/\Hid (CI w w7 w.heap.size (.slice a4 n4 c4) (.slice a6 n6 c6) p3 q4 400000))
        case atStart=>exact⟨q3,a5,n5,c5,rfl,by omega,Nat.le_refl _,hG,AA⟩
        case round=>
         clear AA hG;obtain ⟨q4,a6,n6,c6,rfl,hq4,hle,hG,hC⟩:=hrel;obtain ⟨b1,b2,f1,f2⟩:=hC.out.cells;by_cases hev:q4 % 2=0
         ·have e1:((q4:Int) % 2==0)=true:=(by simp;omega);go_wp2_with fail
          refine(even_b _ _ _ q4 _ hC.out.d2 hq4).mono ?_;rintro e w8 ⟨rfl,hb1⟩;have AA:=ζ (hC.out.later hb1);clear b1 b2 f1 f2 hC hb1;obtain ⟨b1,b2,f1,f2⟩:=AA.out.cells;rw [e1];go_wp2_with fail
          refine(half_any _ _ _ q4 _ AA.out.d2 (Nat.le_trans AA.out.l2 (by omega))).mono ?_;rintro e w9 ⟨a7,n7,c7,rfl,hd,hb⟩;have AD:=ζ (CI.set2 AA.out hb hd (Nat.le_trans (dg_len_mono (by omega) (Nat.div_le_self q4 2)) AA.out.l2) (Nat.le_refl _));have f2':=((AA.out.later hb).x2).free;have b2':=((AA.out.later hb).x2).cell;clear b1 b2 f1 f2 AA hb hd;go_wp2;go_roundg (q4 / 2)
          case measure=>omega
          case rel=>exact⟨q4 / 2,a7,n7,c7,rfl,by omega,by omega,by unfold Hid;rw [gcd_half_right hpo hev];exact hG.out,AD⟩
         ·have e1:((q4:Int) % 2==0)=false:=(by simp;omega);have hqo:q4 % 2=1:=(by omega);go_wp2_with fail
          refine(even_b _ _ _ q4 _ hC.out.d2 hq4).mono ?_;rintro e w8 ⟨rfl,hb1⟩;have AA:=ζ (hC.out.later hb1);clear b1 b2 f1 f2 hC hb1;obtain ⟨b1,b2,f1,f2⟩:=AA.out.cells;rw [e1];go_wp2_with fail
          refine(size_any _ _ _ _ _ _ p3 q4 _ AA.out.d1 AA.out.d2 (Nat.le_trans AA.out.l1 (by omega)) (Nat.le_trans AA.out.l2 (by omega))).mono ?_;rintro e w9 ⟨rfl,hb1⟩;have AD:=ζ (AA.out.later hb1);clear b1 b2 f1 f2 AA hb1;obtain ⟨b1,b2,f1,f2⟩:=AD.out.cells;by_cases hsw:q4 < p3
          case pos=>
           have hcv:cmpN p3 q4=1:=(by unfold cmpN;rw [if_neg (by omega),if_pos hsw]);rw [hcv];have AB:=ζ (CI.swap AD.out (Nat.le_refl _));have hgs:=ζ (show 2 ^ k*Nat.gcd q4 p3=Nat.gcd M N by rw [Nat.gcd_comm];exact hG.out);obtain ⟨c1',c2',d1',d2'⟩:=AB.out.cells;have hpq:q4<=p3:=(by omega);have hsum:q4+(p3 - q4) < p3+q3:=(by omega);have hlo:0 < q4:=hq4;have AO:q4 % 2=1:=hqo;clear hsw hcv hG;go_wp2_with fail
           refine(plus_any _ _ _ _ _ _ (-1) p3 q4 _ AB.out.d2 AB.out.d1 (.inr rfl) (by omega) (Nat.le_trans AB.out.l2 (by omega)) (Nat.le_trans AB.out.l1 (by omega))).mono ?_;rw [show((p3:Int)+ -1*(q4:Int)).toNat=p3 - q4 by omega];clear b1 b2 f1 f2;rintro e w10 ⟨a8,n8,c8,rfl,hd,hb⟩;have AC:=ζ (CI.set2 AB.out hb hd (Nat.le_trans (dg_len_mono (by omega) (Nat.sub_le p3 q4)) AB.out.l2) (Nat.le_refl _));have fx:=((AB.out.later hb).x2).free;have bx:=((AB.out.later hb).x2).cell;have hg5:=ζ (show 2 ^ k*Nat.gcd q4 (p3 - q4)=Nat.gcd M N by rw [gcd_sub hpq];exact hgs.out);clear AB hb hd hgs AD;obtain ⟨b1,b2,f1,f2⟩:=AC.out.cells;have AP:=ζ (Sl.len AC.out.d1);have AG:=ζ (Sl.len AC.out.d2);have hq1:=ζ (show n6<=2->q4 < 281474976710656 from fun h=>small2 (by have:=AP.out;omega));have hq2:=ζ (show n8<=2->p3 - q4 < 281474976710656 from fun h=>small2 (by have:=AG.out;omega));by_cases hs:n6<=2/\n8<=2
           ·obtain ⟨hs1,hs2⟩:=hs;have hp48:=hq1.out hs1;have hq48:=hq2.out hs2;obtain ⟨gg,hgg⟩:∃gg:Nat,gg=Nat.gcd q4 (p3 - q4):=⟨_,rfl⟩
            have hg48:gg < 18446744073709551616:=(by rw [hgg];exact Nat.lt_of_le_of_lt (Nat.gcd_le_left _ hlo) (by omega));have AJ:=ζ hgg;clear hgg;go_wp2_with fail
            have hBR:=AC.out.x3;have AM:=AC.out.d1;have AN:=AC.out.d2;have AQ:=ζ AM;have AY:=ζ AN;clear AM AN hBR hq1 hq2;go_region_held3 (fun w'=>w'.cell? ⟨w.heap.size,0,none⟩=some (.slice a6 n6 c6)/\w'.cell? ⟨w.heap.size+1,0,none⟩=some (.slice a8 n8 c8))
             (first | exact⟨(AE.out.x1.other (by omega) _).cell,(AE.out.x2.other (by omega) _).cell⟩ | exact⟨AE.out.x1.cell,AE.out.x2.cell⟩ | exact⟨AF.out.x1.cell,AF.out.x2.cell⟩ | exact⟨AK.out.x1.cell,AK.out.x2.cell⟩ | exact⟨AL.out.x1.cell,AL.out.x2.cell⟩ | exact⟨AI.out.x1.cell,AI.out.x2.cell⟩ | exact⟨AC.out.x1.cell,AC.out.x2.cell⟩)
             (first
              | (go_at_call_of 62 (Value.slice a6 n6 c6);refine(dword_any a6 n6 c6 q4 _ (Sl.drew AQ.out) (by omega)).mono ?_;rintro e wa ⟨rfl,hb⟩;have AI:=ζ (AC.out.later (Below.trans (Below.refl _ _).drew hb));clear hb)
              | (go_at_call_of 62 (Value.slice a8 n8 c8);refine(dword_any a8 n8 c8 (p3 - q4) _ AI.out.d2 (by omega)).mono ?_;rintro e wb ⟨rfl,hb⟩;have AL:=ζ (AI.out.later hb);clear hb)
              | (go_at_call 236;refine(divisor_any q4 (p3 - q4) _ (by omega) (by omega)).mono ?_;rintro e wc ⟨rfl,hb⟩;rw [<-AJ.out];have AK:=ζ (AL.out.later hb);clear hb)
              | (go_at_call 109;refine(word_any gg _ hg48).mono ?_;rintro e wd ⟨a9,n9,c9,rfl,hd,hb⟩;have AF:=ζ (AK.out.later hb);have AR:=ζ hd;clear hb hd)
              | (go_at_call 237;refine(shifted_any a9 n9 c9 gg k _ AR.out (gcd_len hg48) (by omega)).mono ?_;rintro e we ⟨b9,m9,d9,rfl,hd,hb⟩;have AE:=ζ (AF.out.later hb);have HDe:=ζ hd;have bxe:=(AF.out.later hb).x3.cell;have fxe:=(AF.out.later hb).x3.free;clear hb hd))
            exact mCommon_0
           ·go_wp2;all_goals
             go_roundg (q4+(p3 - q4))
             case measure=>exact hsum
             case rel=>exact⟨q4,p3 - q4,a6,n6,c6,a8,n8,c8,rfl,hlo,AO,hg5,AC⟩
          case neg=>
           have hcv:¬ (0 < cmpN p3 q4):=(by unfold cmpN;split<;>omega);have AB:=ζ AD.out;have hgs:=ζ hG.out;have hpq:p3<=q4:=(by omega);have hsum:p3+(q4 - p3) < p3+q3:=(by omega);have hlo:0 < p3:=hp3;have AO:p3 % 2=1:=hpo;clear hsw hG;go_wp2_with fail
           refine(plus_any _ _ _ _ _ _ (-1) q4 p3 _ AB.out.d2 AB.out.d1 (.inr rfl) (by omega) (Nat.le_trans AB.out.l2 (by omega)) (Nat.le_trans AB.out.l1 (by omega))).mono ?_;rw [show((q4:Int)+ -1*(p3:Int)).toNat=q4 - p3 by omega];clear b1 b2 f1 f2;rintro e w10 ⟨a8,n8,c8,rfl,hd,hb⟩;have AC:=ζ (CI.set2 AB.out hb hd (Nat.le_trans (dg_len_mono (by omega) (Nat.sub_le q4 p3)) AB.out.l2) (Nat.le_refl _));have fx:=((AB.out.later hb).x2).free;have bx:=((AB.out.later hb).x2).cell;have hg5:=ζ (show 2 ^ k*Nat.gcd p3 (q4 - p3)=Nat.gcd M N by rw [gcd_sub hpq];exact hgs.out);clear AB hb hd hgs AD;obtain ⟨b1,b2,f1,f2⟩:=AC.out.cells;have AP:=ζ (Sl.len AC.out.d1);have AG:=ζ (Sl.len AC.out.d2);have hq1:=ζ (show n4<=2->p3 < 281474976710656 from fun h=>small2 (by have:=AP.out;omega));have hq2:=ζ (show n8<=2->q4 - p3 < 281474976710656 from fun h=>small2 (by have:=AG.out;omega));by_cases hs:n4<=2/\n8<=2
           ·obtain ⟨hs1,hs2⟩:=hs;have hp48:=hq1.out hs1;have hq48:=hq2.out hs2;obtain ⟨gg,hgg⟩:∃gg:Nat,gg=Nat.gcd p3 (q4 - p3):=⟨_,rfl⟩
            have hg48:gg < 18446744073709551616:=(by rw [hgg];exact Nat.lt_of_le_of_lt (Nat.gcd_le_left _ hlo) (by omega));have AJ:=ζ hgg;clear hgg;go_wp2_with fail
            have hBR:=AC.out.x3;have AM:=AC.out.d1;have AN:=AC.out.d2;have AQ:=ζ AM;have AY:=ζ AN;clear AM AN hBR hq1 hq2;go_region_held3 (fun w'=>w'.cell? ⟨w.heap.size,0,none⟩=some (.slice a4 n4 c4)/\w'.cell? ⟨w.heap.size+1,0,none⟩=some (.slice a8 n8 c8))
             (first | exact⟨(AE.out.x1.other (by omega) _).cell,(AE.out.x2.other (by omega) _).cell⟩ | exact⟨AE.out.x1.cell,AE.out.x2.cell⟩ | exact⟨AF.out.x1.cell,AF.out.x2.cell⟩ | exact⟨AK.out.x1.cell,AK.out.x2.cell⟩ | exact⟨AL.out.x1.cell,AL.out.x2.cell⟩ | exact⟨AI.out.x1.cell,AI.out.x2.cell⟩ | exact⟨AC.out.x1.cell,AC.out.x2.cell⟩)
             (first
              | (go_at_call_of 62 (Value.slice a4 n4 c4);refine(dword_any a4 n4 c4 p3 _ (Sl.drew AQ.out) (by omega)).mono ?_;rintro e wa ⟨rfl,hb⟩;have AI:=ζ (AC.out.later (Below.trans (Below.refl _ _).drew hb));clear hb)
              | (go_at_call_of 62 (Value.slice a8 n8 c8);refine(dword_any a8 n8 c8 (q4 - p3) _ AI.out.d2 (by omega)).mono ?_;rintro e wb ⟨rfl,hb⟩;have AL:=ζ (AI.out.later hb);clear hb)
              | (go_at_call 236;refine(divisor_any p3 (q4 - p3) _ (by omega) (by omega)).mono ?_;rintro e wc ⟨rfl,hb⟩;rw [<-AJ.out];have AK:=ζ (AL.out.later hb);clear hb)
              | (go_at_call 109;refine(word_any gg _ hg48).mono ?_;rintro e wd ⟨a9,n9,c9,rfl,hd,hb⟩;have AF:=ζ (AK.out.later hb);have AR:=ζ hd;clear hb hd)
              | (go_at_call 237;refine(shifted_any a9 n9 c9 gg k _ AR.out (gcd_len hg48) (by omega)).mono ?_;rintro e we ⟨b9,m9,d9,rfl,hd,hb⟩;have AE:=ζ (AF.out.later hb);have HDe:=ζ hd;have bxe:=(AF.out.later hb).x3.cell;have fxe:=(AF.out.later hb).x3.free;clear hb hd))
            exact mCommon_0
           ·go_wp2;all_goals
             go_roundg (p3+(q4 - p3))
             case measure=>exact hsum
             case rel=>exact⟨p3,q4 - p3,a4,n4,c4,a8,n8,c8,rfl,hlo,AO,hg5,AC⟩
end
end Go.Proofs.YtjpojeapdgjbhaaGreatDoor

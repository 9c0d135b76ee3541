/- part -/
import Derived.Test.YthmdhlopeponcaaGreatDoorK42
import Derived.Test.YthmdhlopeponcaaGreatDoorK43
import Derived.Test.YthmdhlopeponcaaGreatDoorK24
set_option maxRecDepth 100000
set_option maxHeartbeats 8000000
namespace Go.Proofs.YthmdhlopeponcaaGreatDoor
open Go.RowKit Go.Shelf Dig
structure Lx where
 a:OA
 c:Nat
 l:List Int
def cLx (t:Lx):Value:= .slice t.a t.l.length t.c
def LLx (T:List Lx):List Value:=T.map cLx
def KeepsNew (B:Nat) (W V:World):Prop:=W.heap.size<=V.heap.size/\∀b,B<=b->b < W.heap.size->V.heap[b]? =W.heap[b]?
theorem ownsRow_anew {W V:World} {B:Nat} {e:TypeId} {size n:Nat} {v:Value} {xs:List Value} (h:W.ownsRow B e size v n xs) (hV:KeepsNew B W V):V.ownsRow B e size v n xs:=by
 refine⟨h.1,h.2.imp id ?_⟩;rintro ⟨g,cap,cur,rfl,h0,hg,rest⟩;exact⟨g,cap,cur,rfl,h0,(hV.2 g h0 (Array.getElem?_eq_some_iff.1 hg).1).trans hg,rest⟩
theorem Sy.newer {w W W' V:World} {bs:List (Nat×Array Value×TypeId)} {os:List Rw} {rs:List (World->Prop)} (h:Sy w W bs os rs) (hV:Away (ownOf bs os) W' V):KeepsNew W.heap.size W' V:=⟨hV.1,fun b hb hl=>hV.2 b hl fun hm=>by
 have:=(h.own_ge hm).2;omega⟩
def LIx (B:Nat) (T:List Lx):World->Prop:=fun V=>∀t∈T,V.ownsRow B 3 1 (.slice t.a t.l.length t.c) t.l.length (L1 t.l)
def LLt (B:Nat) (a:OA) (c:Nat) (T:List Lx):World->Prop:=fun V=>V.ownsRow B 23 1 (.slice a T.length c) T.length (LLx T)/\LIx B T V
theorem LLt.anew {B:Nat} {a:OA} {c:Nat} {T:List Lx} {W V:World} (h:LLt B a c T W) (hV:KeepsNew B W V):LLt B a c T V:=⟨ownsRow_anew h.1 hV,fun t ht=>ownsRow_anew (h.2 t ht) hV⟩
def RetLL (w:World) (X:List (List Int)) (e:Ending) (w':World):Prop:=∃ (a:OA) (c:Nat) (T:List Lx),Hid (T.map Lx.l=X)/\e= .returned (.slice a T.length c)/\Hid (LLt w.heap.size a c T w')/\Below w.heap.size w w'
theorem und_LL:Tryz.prog.underlying 142=some (.slice 23):=Tryz.underlying142
theorem info_LL:(Tryz.prog.info? 23).map (fun i=>(i.zero,i.size,i.bytes))=some (some (.slice none 0 0),1,24):=by kernel_rfl
def cutP (b unit least:Int) (f d:Nat) (most:Int) (k:Nat):List (List Int):=(List.range k).flatMap fun(k:Nat)=>if ((k:Int)+1)*unit < least\/¬ 0 < most then []else(allF b unit least f (d - (k+1)) (most - 1)).map ((b - (d:Int)*unit):: ·)
section
variable {b unit least:Int}
theorem allF_eq {f d:Nat} {most:Int} (h:0 < d):allF b unit least (f+1) d most=cutP b unit least f d most d:=by
 rw [allF,if_neg (by omega)];rfl
theorem cutP_step {f d:Nat} {most:Int} (k:Nat):cutP b unit least f d most (k+1)=cutP b unit least f d most k++(if ((k:Int)+1)*unit < least\/¬ 0 < most then []else(allF b unit least f (d - (k+1)) (most - 1)).map ((b - (d:Int)*unit):: ·)):=by
 unfold cutP;rw [List.range_succ,List.flatMap_append,List.flatMap_singleton]
theorem cutP_none {f d:Nat} {most:Int} (h:¬ 0 < most):∀k,cutP b unit least f d most k= []
 | 0=>rfl
 | k+1=>by rw [cutP_step,cutP_none h k,if_pos (.inr h)];rfl
theorem all_len:∀ {f d:Nat} {most:Int},(allF b unit least f d most).length<=2 ^ d
 | 0,_,_=>Nat.zero_le _
 | f+1,d,most=>by
   rcases Nat.eq_zero_or_pos d with e | e
   ·subst e;rw [allF,if_pos rfl];exact Nat.le_refl 1
   ·rw [allF_eq e];have key:∀k,k<=d->(cutP b unit least f d most k).length+2 ^ (d - k)<=2 ^ d:=by
     intro k;induction k with
     | zero=>intro _;show 0+2 ^ (d - 0)<=2 ^ d;rw [Nat.sub_zero,Nat.zero_add];exact Nat.le_refl _
     | succ k ih=>
       intro hk;have h1:=ih (by omega);have h2:2 ^ (d - k)=2*2 ^ (d - (k+1)):=(by rw [show d - k=d - (k+1)+1 by omega,Nat.pow_succ,Nat.mul_comm]);rw [cutP_step,List.length_append];have h3:(if ((k:Int)+1)*unit < least\/¬ 0 < most then []else(allF b unit least f (d - (k+1)) (most - 1)).map ((b - (d:Int)*unit):: ·)).length<=2 ^ (d - (k+1)):=by
        split
        ·exact Nat.zero_le _
        ·rw [List.length_map];exact all_len
       omega
    exact Nat.le_trans (Nat.le_add_right _ _) (key d (Nat.le_refl d))
theorem cutP_len {f d:Nat} {most:Int} {k:Nat} (hk:k<=d):(cutP b unit least f d most k).length<=2 ^ d:=by
 rcases Nat.eq_zero_or_pos d with e | e
 ·have:k=0:=by omega
  subst this;exact Nat.zero_le _
 ·refine Nat.le_trans ?_ (all_len (b:=b) (unit:=unit) (least:=least) (f:=f+1) (d:=d) (most:=most));rw [allF_eq e];unfold cutP;obtain ⟨j,rfl⟩:=Nat.exists_eq_add_of_le hk;rw [List.range_add,List.flatMap_append,List.length_append];omega
theorem all_xlen:∀ {f d:Nat} {most:Int} {x:List Int},x∈allF b unit least f d most->x.length<=d+1
 | 0,_,_,_,h=>by simp [allF]at h
 | f+1,d,most,x,h=>by
   unfold allF at h
   split at h
   ·rw [List.mem_singleton.1 h];simp
   ·obtain ⟨k,hk,h⟩:=List.mem_flatMap.1 h;rw [List.mem_range]at hk
    split at h
    ·simp at h
    ·obtain ⟨r,hr,rfl⟩:=List.mem_map.1 h;have:=all_xlen hr;rw [List.length_cons];omega
end
theorem take_snocM {R:List (List Int)} {a:Int} {i:Nat} {x:List Int} (h:R[i]? =some x):(R.take (i+1)).map (a:: ·)=(R.take i).map (a:: ·)++ [a::x]:=by
 have hi:=(List.getElem?_eq_some_iff.1 h).1;have hx:=(List.getElem?_eq_some_iff.1 h).2;rw [List.take_succ_eq_append_getElem hi,hx,List.map_append,List.map_singleton]
theorem rAll_any (b unit least:Int) (hu:1<=unit/\unit<=200000) (hl:1<=least/\least<=200000) (hb: -100000<=b/\b<=100000):∀ (f d:Nat) (most:Int) (w:World),d < f->d<=8->0<=most->most<=60-> -100000<=b - (d:Int)*unit->
  Calls Tryz.prog 79 #[.int .i64 (b - (d:Int)*unit),.int .i64 b,.int .i64 unit,.int .i64 least,.int .i64 most] w (RetLL w (allF b unit least f d most))
 | 0,d,most,w,h,_,_,_,_=>absurd h (Nat.not_lt_zero d)
 | f+1,d,most,w,hdf,hd8,hm0,hm60,hab=>by
   have hC:=ζ (Sy.enter w);rcases Nat.eq_zero_or_pos d with e | hd0
   ·subst e;have HX:=ζ (show [[b]]=allF b unit least (f+1) 0 most by rw [allF,if_pos rfl]);generalize allF b unit least (f+1) 0 most=X at*;rw [show b - ((0:Nat):Int)*unit=b by omega];clear hab;have hD:=ζ ((hC.out.onew w.heap.size #[.int .i64 b] 3 1 1 rfl (by omega) rfl).onew (w.heap.size+1) #[.slice (some ⟨w.heap.size,0,none⟩) 1 1] 23 1 1 (by simp) (by omega) rfl);have d1:decide (b=b)=true:=decide_eq_true rfl;clear hC;go_enter Tryz.func79,Tryz.ntmps79;go_wp2;go_ret;refine⟨_,_,[⟨some ⟨w.heap.size,0,none⟩,1,[b]⟩],HX,rfl,ζ ⟨hD.out.orow 1 rfl,fun t ht=>?_⟩,hD.out.be⟩;rcases List.mem_singleton.1 ht with rfl;exact hD.out.orow 0 rfl
   ·have HP:=ζ (fun k=>cutP_step (b:=b) (unit:=unit) (least:=least) (f:=f) (d:=d) (most:=most) k);have HN:=ζ (fun(h:¬ 0 < most) k=>cutP_none (b:=b) (unit:=unit) (least:=least) (f:=f) (d:=d) h k);have AM:=ζ (fun k (hk:k<=d)=>show(cutP b unit least f d most k).length<=256 from Nat.le_trans (cutP_len hk) (Nat.le_trans (Nat.pow_le_pow_right (by omega) hd8) (by omega)));have A2:=ζ (fun k=>show(allF b unit least f (d - (k+1)) (most - 1)).length<=256 from Nat.le_trans all_len (Nat.le_trans (Nat.pow_le_pow_right (by omega) (show d - (k+1)<=8 by omega)) (by omega)));have A3:=ζ (fun k x (hx:x∈allF b unit least f (d - (k+1)) (most - 1))=>show x.length<=9 by have:=all_xlen hx;omega);have A4:=ζ (fun k (hk:k < d) (hm:0 < most) W=>rAll_any b unit least hu hl hb f (d - (k+1)) (most - 1) W (by omega) (by omega) (by omega) (by omega) (by
     have h1:=Int.mul_le_mul_of_nonneg_right (show((d - (k+1):Nat):Int)<=(d:Int)by omega) (show 0<=unit by omega);omega))
    have AN:=ζ (fun k (hk:k < d)=>show b - ((d - (k+1):Nat):Int)*unit=b - (d:Int)*unit+((k:Int)+1)*unit by
     rw [show((d - (k+1):Nat):Int)=(d:Int) - ((k:Int)+1)by omega,Int.sub_mul];omega)
    have AO:=ζ (fun k (hk:k < d)=>show b - (d:Int)*unit+((k:Int)+1)*unit<=b by
     have h1:=Int.mul_le_mul_of_nonneg_right (show(k:Int)+1<=(d:Int)by omega) (show 0<=unit by omega);omega)
    have AQ:=ζ (fun k (hk:k=d)=>show ¬ b - (d:Int)*unit+((k:Int)+1)*unit<=b by
     subst hk;rw [Int.add_mul,Int.one_mul];omega)
    have AR:=ζ (fun k (hk:k<=d)=>show b - (d:Int)*unit+((k:Int)+1)*unit<=b+unit by
     have h1:=Int.mul_le_mul_of_nonneg_right (show(k:Int)<=(d:Int)by omega) (show 0<=unit by omega);rw [Int.add_mul,Int.one_mul];omega)
    have A5:=ζ (fun(k:Nat)=>show 0<=((k:Int)+1)*unit from Int.mul_nonneg (by omega) (by omega));have A6:=ζ (fun(k:Nat)=>show((k:Int)+1)*unit+unit=(((k+1:Nat):Int)+1)*unit by rw [Int.natCast_add,Int.add_mul,Int.add_mul,Int.add_mul];omega);have AH:=ζ (allF_eq (b:=b) (unit:=unit) (least:=least) (f:=f) (d:=d) (most:=most) hd0);have hab2:b - (d:Int)*unit<=100000:=by
     have:=Int.mul_nonneg (show 0<=(d:Int)by omega) (show 0<=unit by omega);omega
    have hne:¬ b - (d:Int)*unit=b:=by
     have:=Int.mul_pos (show 0 < (d:Int)by omega) (show 0 < unit by omega);omega
    obtain ⟨a,haa⟩:∃a,b - (d:Int)*unit=a:=⟨_,rfl⟩
    rw [haa]at HP AN AO AQ AR hne hab hab2⊢;clear haa;generalize allF b unit least (f+1) d most=X at*;obtain ⟨AP,hAP⟩:∃AP,cutP b unit least f d most=AP:=⟨_,rfl⟩
    rw [hAP]at HP HN AM AH;have A7:=ζ (show AP 0= []by rw [<-hAP];rfl);clear hAP hd0;have hO:=ζ (((hC.out.onil 23 1).push (r:=LIx w.heap.size []) (fun _ _ t ht=>by simp at ht)));clear hC;have v0:IntKind.i64.wrap (a+unit)=a+unit:=IntWalk.i64_in _ (by omega);have A8:=ζ (show a+unit=a+(((0:Nat):Int)+1)*unit by omega);have d1:decide (a=b)=false:=decide_eq_false hne;go_enter Tryz.func79,Tryz.ntmps79;go_wp2;go_loopw [11,12] (fun ov pv wr=>∃ (k:Nat) (p:Int) (a':OA) (c':Nat) (T:List Lx),k<=d/\Hid (p=a+((k:Int)+1)*unit)/\pv= .int .i64 p/\ov= .slice a' T.length c'/\Hid (T.map Lx.l=AP k)/\Hid (Sy w wr [] [⟨.slice a' T.length c',23,1,T.length,LLx T⟩] [LIx w.heap.size T])) (fun _ pv _=>(b+unit+1 - intOf pv).toNat)
    case atStart=>exact⟨0,_,none,0,[],Nat.zero_le _,A8,rfl,rfl,ζ A7.out.symm,hO⟩
    case round=>
     clear hO;obtain ⟨k,p,a',c',T,hk,AB,rfl,rfl,AA,hS⟩:=hrel;have hpl:=A5.out k;have hpu:=AR.out k hk;rw [<-AB.out]at hpu;have hpl2:a<=p:=(by have:=AB.out;omega);have A9:=ζ (A6.out k);have AS:T.length<=256:=(by have h1:=AM.out k hk;rw [<-AA.out,List.length_map]at h1;exact h1);clear hpl;by_cases hmo:0 < most
     ·by_cases hkd:k < d
      ·have i0:p<=b:=(by have:=AO.out k hkd;rw [AB.out];exact this);have d2:decide (p<=b)=true:=decide_eq_true i0;have d3:decide (0 < most)=true:=decide_eq_true hmo;have v1:IntKind.i64.wrap (p - a)=p - a:=IntWalk.i64_in _ (by omega);have v2:IntKind.i64.wrap (p+unit)=p+unit:=IntWalk.i64_in _ (by omega);have v3:IntKind.i64.wrap (most - 1)=most - 1:=IntWalk.i64_in _ (by omega);have AT:=ζ (show p+unit=a+(((k+1:Nat):Int)+1)*unit by have h1:=AB.out;have h2:=A9.out;omega);have AD:=ζ (show p - a=((k:Int)+1)*unit by have h1:=AB.out;omega);have AE:=ζ (HP.out k);by_cases hle:p - a < least
       ·have d4:decide (p - a < least)=true:=decide_eq_true hle;have AF:=ζ (show T.map Lx.l=AP (k+1)by rw [AE.out,if_pos (.inl (by rw [<-AD.out];exact hle)),List.append_nil];exact AA.out);clear AE AD;go_wp2;go_roundw
        case rel=>exact⟨k+1,_,a',c',T,by omega,AT,rfl,rfl,AF,hS⟩
        case measure=>simp [intOf];omega
       ·have d4:decide (p - a < least)=false:=decide_eq_false hle;have AF:=ζ (show AP (k+1)=AP k++(allF b unit least f (d - (k+1)) (most - 1)).map (a:: ·)by rw [AE.out,if_neg (by rw [<-AD.out];omega)]);have AG:=ζ (fun W=>A4.out k hkd hmo W);rw [AN.out k hkd,<-AB.out]at AG;have hRL:=A2.out k;have AU:=ζ (A3.out k);obtain ⟨R,hR⟩:∃R,allF b unit least f (d - (k+1)) (most - 1)=R:=⟨_,rfl⟩
        rw [hR]at AF AG hRL AU;clear AE AD hR;go_wp2_with fail
        refine(AG.out _).mono ?_;rintro e W1 ⟨ra,rc,M,HM,rfl,hr,hb'⟩;have hD:=ζ ((hS.out.call hb').push (r:=LLt wr.heap.size ra rc M) (fun V hV=>hr.out.anew (hS.out.newer hV)));have hML:M.length=R.length:=(by rw [<-HM.out,List.length_map]);have Ab:M.length<=256:=(by omega);clear hb' hr hS AG hML;obtain ⟨B0,AV⟩:∃B,wr.heap.size=B:=⟨_,rfl⟩
        rw [AV]at hD;clear AV;go_wp2;go_loopw [11,14] (fun ov iv wr=>∃ (i:Nat) (a':OA) (c':Nat) (T:List Lx),i<=M.length/\iv= .int .i64 i/\ov= .slice a' T.length c'/\Hid (T.map Lx.l=AP k++(R.take i).map (a:: ·))/\T.length<=256+i/\Hid (Sy w wr [] [⟨.slice a' T.length c',23,1,T.length,LLx T⟩] [LIx w.heap.size T,LLt B0 ra rc M])) (fun _ iv _=>M.length - (intOf iv).toNat)
        case atStart=>exact⟨0,a',c',T,Nat.zero_le _,rfl,rfl,ζ (by rw [List.take_zero,List.map_nil,List.append_nil];exact AA.out),by omega,hD⟩
        case round=>
         clear hD AA AS;obtain ⟨i,a',c',T,hi,rfl,rfl,AA,AS,hS⟩:=hrel;have j0:(0:Int)<=(i:Int):=(by omega);by_cases hlt:i < M.length
         ·obtain ⟨t,ht⟩:∃t,M[i]? =some t:=⟨_,List.getElem?_eq_getElem hlt⟩
          have htm:=List.mem_of_getElem? ht;have AI:=ζ (show R[i]? =some t.l by rw [<-HM.out,List.getElem?_map,ht];rfl);have htl:t.l.length<=9:=AU.out t.l (List.mem_of_getElem? AI.out);have AW:=ζ (take_snocM (a:=a) AI.out);have AX:=ζ (show(LLx M)[i]? =some (cLx t)by unfold LLx;rw [List.getElem?_map,ht];rfl);have AJ:=ζ htm;clear ht htm AI;obtain ⟨ta,tc,tl⟩:=t;dsimp only at AW htl;have i1:(i:Int) < (M.length:Int):=(by omega);have v5:IntKind.i64.wrap ((i:Int)+1)=((i+1:Nat):Int):=(by rw [IntWalk.i64_in _ (by omega)];omega);have AY:=ζ (Sx.owns ((hS.out.r 1 rfl).1));obtain ⟨gr,or_,hgr⟩:=AY.out.addr (by omega);subst hgr;have x0:(wr.alloc (.cells #[.int .i64 a] 3)).cell? ⟨gr,or_+i,none⟩=some (.slice ta tl.length tc):=(Sx.owns (((hS.out.onew wr.heap.size #[.int .i64 a] 3 1 1 rfl (by omega) rfl).r 1 rfl).1)).cell AX.out;clear AY AX;go_upto_region 11 with (first
           | (refine wpList_append_sx (o:=⟨some 59,_,_,_,_,_⟩) rfl (hS.out.onew wr.heap.size #[.int .i64 a] 3 1 1 rfl (by omega) rfl) 1 rfl (Sx.owns ((((hS.out.onew wr.heap.size #[.int .i64 a] 3 1 1 rfl (by omega) rfl).r 1 rfl).2 _ AJ.out))) _ _ _ rfl und_hint info_hint rfl (by omega) rfl rfl (L1_one _) (by show 1+tl.length<=1000000000;omega) (by omega) ?_;intro a3 c3 V3 AZ;have hJ:=ζ AZ;clear AZ)
           | (refine wpList_append_sy (o:=⟨some 61,_,_,_,_,_⟩) rfl (hJ.out.onew V3.heap.size #[.slice a3 (1+tl.length) c3] 23 1 1 rfl (by omega) rfl) 0 2 rfl rfl _ _ _ rfl und_LL info_LL rfl (by omega) rfl rfl (by intro u hu;simp at hu;rcases hu with rfl;rfl) (by omega) (by omega) ?_;intro a4 c4 V4 A0;have hK:=ζ A0;clear A0))
          have hL:=ζ (hK.out.thin (bs':=[]) (os':=[⟨.slice a4 (T.length+1) c4,23,1,T.length+1,LLx T++ [.slice a3 (1+tl.length) c3]⟩]++ [⟨.slice a3 (1+tl.length) c3,3,1,1+tl.length,[.int .i64 a]++L1 tl⟩]) (List.nil_sublist _) (by exact List.Sublist.cons_cons _ (List.Sublist.cons_cons _ (List.nil_sublist _))));have hLN:1+tl.length=(a::tl).length:=(by rw [List.length_cons];omega);have hN:=ζ (hL.out.retire.imp (rs':=[LIx w.heap.size (T++ [⟨a3,c3,a::tl⟩]),LLt B0 (some ⟨gr,or_,none⟩) rc M]) (fun V hv r hr=>by
           rcases List.mem_cons.1 hr with rfl | hr
           ·intro t ht;rcases List.mem_append.1 ht with ht | ht
            ·exact hv (LIx w.heap.size T) (by simp) t ht
            ·rcases List.mem_singleton.1 ht with rfl;have:=hv (fun V=>V.ownsRow w.heap.size 3 1 (.slice a3 (1+tl.length) c3) (1+tl.length) ([.int .i64 a]++L1 tl)) (by simp);rw [hLN]at this;exact this
           ·rcases List.mem_singleton.1 hr with rfl;exact hv _ (by simp)))
          have A1:=ζ (show LLx T++ [.slice a3 (1+tl.length) c3]=LLx (T++ [⟨a3,c3,a::tl⟩])by unfold LLx;rw [List.map_append,hLN];rfl);have AK:=ζ (show(T++ [(⟨a3,c3,a::tl⟩:Lx)]).length=T.length+1 by rw [List.length_append];rfl);rw [A1.out]at hN;have AL:=ζ (show(T++ [(⟨a3,c3,a::tl⟩:Lx)]).map Lx.l=AP k++(R.take (i+1)).map (a:: ·)by rw [AW.out,List.map_append,AA.out,List.append_assoc];rfl);clear hJ hK hL hS x0 A1 hLN;go_wp2;go_roundw
          case rel=>
           refine⟨i+1,a4,c4,T++ [⟨a3,c3,a::tl⟩],by omega,by go_num,by rw [AK.out],AL,by rw [AK.out];omega,?_⟩;rw [AK.out];exact hN
          case measure=>simp [intOf];omega
         ·obtain rfl:i=M.length:=by omega
          have i1:¬ ((M.length:Nat):Int) < (M.length:Int):=(by omega);have AC:=ζ (show T.map Lx.l=AP (k+1)by
           rw [AA.out,AF.out,List.take_of_length_le (by rw [<-HM.out,List.length_map];exact Nat.le_refl _)])
          have hE:=ζ (hS.out.pick [0] (rs':=[LIx w.heap.size T]) rfl);clear hS AA;go_wp2;go_roundw
          case rel=>exact⟨k+1,_,a',c',T,by omega,AT,rfl,rfl,AC,hE⟩
          case measure=>simp [intOf];omega
      ·obtain rfl:k=d:=by omega
       have i0:¬ p<=b:=(by have h1:=AQ.out k rfl;have h2:=AB.out;omega);have d2:decide (p<=b)=false:=decide_eq_false i0;have AC:=ζ (show T.map Lx.l=X by rw [AA.out];exact AH.out.symm);go_wp2;go_ret;exact⟨a',c',T,AC,rfl,ζ ⟨hS.out.orow 0 rfl,hS.out.r 0 rfl⟩,hS.out.be⟩
     ·have d3:decide (0 < most)=false:=decide_eq_false hmo;have AC:=ζ (show T.map Lx.l=X by rw [AA.out,AH.out,HN.out (by omega),HN.out (by omega)]);by_cases i0:p<=b
      ·have d2:decide (p<=b)=true:=decide_eq_true i0;go_wp2;go_ret;exact⟨a',c',T,AC,rfl,ζ ⟨hS.out.orow 0 rfl,hS.out.r 0 rfl⟩,hS.out.be⟩
      ·have d2:decide (p<=b)=false:=decide_eq_false i0;go_wp2;go_ret;exact⟨a',c',T,AC,rfl,ζ ⟨hS.out.orow 0 rfl,hS.out.r 0 rfl⟩,hS.out.be⟩
def RetRBe (w:World) (o:Option Ct) (e:Ending) (w':World):Prop:=∃ (ba:OA) (bn bc:Nat) (sR:Int) (aR:OA) (nR cR:Nat) (tR:Int) (dR:OA) (eR fR:Nat),e= .returned (.tuple #[.slice ba bn bc,.agg #[.int .i64 sR,.slice aR nR cR,.int .i64 tR,.slice dR eR fR],.bool o.isSome])/\Hid (∀c,o=some c->Nq w' sR (.slice aR nR cR) tR (.slice dR eR fR) c.1/\∀V,KeepsNew w.heap.size w' V->Sx 1 V ba bn bc (L1 c.2))/\Below w.heap.size w w'
def BI (l:List Pt) (depth:Int) (M:List Lx) (k:Nat) (ba:OA) (bn bc:Nat) (q:Rat):Prop:=
 (refC l depth (M.map Lx.l) k=none/\ba=none/\bn=0/\bc=0/\q=0)\/∃t∈M,refC l depth (M.map Lx.l) k=some (q,t.l)/\ba=t.a/\bn=t.l.length/\bc=t.c/\q=costL l depth t.l
theorem refC_some {l:List Pt} {depth:Int} {xs:List (List Int)} :(refC l depth xs xs.length).isSome=decide (0 < (xs.length:Int)):=by
 by_cases h:0 < xs.length
 ·obtain ⟨d,hd,-⟩:=refC_fin (l:=l) (depth:=depth) (xs:=xs) (k:=xs.length) 0 h;rw [hd,decide_eq_true (by omega)];rfl
 ·have e:xs.length=0:=by omega
  rw [e,decide_eq_false (by omega)];rfl
theorem mY15_0 {P_:Prop} (h:P_:=by
 clear AG AH;go_upto_region 10 with fail
 refine wp_geny hF.out ?_;intro W9 hc;have hS:=ζ hc;clear hc hF;have HSL:∀V ex os rs,Sy w V ([(b15,zQ,50),(b19,#[.int .i64 s1,.slice a1 n1 c1,.int .i64 t1,.slice d1 e1 f1],50),(b21,#[.int .i64 s4,.slice a4 n4 c4,.int .i64 t4,.slice d4 e4 f4],50)]++ex) os ([(LLt B0 (some ⟨gr,or_,none⟩) rc M)]++rs)->(fun w'=>w'.cell? ⟨b21,0,none⟩=some (.int .i64 s4)/\w'.cell? ⟨b21,1,none⟩=some (.slice a4 n4 c4)/\w'.cell? ⟨b21,2,none⟩=some (.int .i64 t4)/\w'.cell? ⟨b21,3,none⟩=some (.slice d4 e4 f4)/\w'.cell? ⟨gr,or_+k,none⟩=some (.slice ta tl.length tc)/\True) V:=fun V ex os rs hX=>⟨hX.c 2 0,hX.c 2 1,hX.c 2 2,hX.c 2 3,(AK.out _ (hX.r 0 rfl)),trivial⟩
 refine wp_region_held_drew (S:=(fun w'=>w'.cell? ⟨b21,0,none⟩=some (.int .i64 s4)/\w'.cell? ⟨b21,1,none⟩=some (.slice a4 n4 c4)/\w'.cell? ⟨b21,2,none⟩=some (.int .i64 t4)/\w'.cell? ⟨b21,3,none⟩=some (.slice d4 e4 f4)/\w'.cell? ⟨gr,or_+k,none⟩=some (.slice ta tl.length tc)/\True)) (by kernel_rfl) ⟨hS.out.drew.c 2 0,hS.out.drew.c 2 1,hS.out.drew.c 2 2,hS.out.drew.c 2 3,(AK.out _ (hS.out.drew.r 0 rfl)),trivial⟩ (fun hH=>?_);refine wpAnyH_geny (show Sy w _ [(b15,zQ,50),(b19,#[.int .i64 s1,.slice a1 n1 c1,.int .i64 t1,.slice d1 e1 f1],50),(b21,#[.int .i64 s4,.slice a4 n4 c4,.int .i64 t4,.slice d4 e4 f4],50)] [] [(LLt B0 (some ⟨gr,or_,none⟩) rc M),(fun V=>Nq V s1 (.slice a1 n1 c1) t1 (.slice d1 e1 f1) (q)),(fun V=>Nq V s4 (.slice a4 n4 c4) t4 (.slice d4 e4 f4) (cq))]from hS.out.drew) hH ?_;intro AS hc AB;have AC:=ζ hc;clear hc hH hS;refine tkA 0 rfl AB ?_;try simp only [zP]
 refine tkA 1 rfl AB ?_;try simp only [zP]
 refine tkA 2 rfl AB ?_;try simp only [zP]
 refine tkA 3 rfl AB ?_;try simp only [zP]
 refine tkA 4 rfl AB ?_;try simp only [zP]
 refine rdy1 5 rfl (fun Kq AE=>?_);go_simp;refine stW AE AC.out ?_;intro AT AA AI;clear AE Kq AC AB;try simp only [zP]
 refine rdy1 6 rfl (fun Kq AE=>?_);have cQ0:=AA.out.c 1 0;have fQ0:=AA.out.f 1 0;have cQ1:=AA.out.c 1 1;have fQ1:=AA.out.f 1 1;have cQ2:=AA.out.c 1 2;have fQ2:=AA.out.f 1 2;have cQ3:=AA.out.c 1 3;have fQ3:=AA.out.f 1 3;go_simp;refine stepZ AE (AA.out|>.set (j:=0) (v:= .int .i64 s4) 1 rfl|>.set (j:=1) (v:= .slice a4 n4 c4) 1 rfl|>.set (j:=2) (v:= .int .i64 t4) 1 rfl|>.set (j:=3) (v:= .slice d4 e4 f4) 1 rfl) (fun _ hX=>⟨hX.c 2 0,hX.c 2 1,hX.c 2 2,hX.c 2 3,(AK.out _ (hX.r 0 rfl)),trivial⟩) ?_;intro AU AD AM;clear AE Kq AA cQ0 fQ0 cQ1 fQ1 cQ2 fQ2 cQ3 fQ3 AI;try simp only [Act.put]
 refine wpAnyH_done (by kernel_rfl) ?_ _;have hT:=ζ ((AD.out.thin (bs':=[(b15,zQ,50),(b19,#[.int .i64 s4,.slice a4 n4 c4,.int .i64 t4,.slice d4 e4 f4],50)]) (os':=[]) (List.sublist_append_left [_,_] _) (List.nil_sublist _)).pick [0,2] (rs':=[(LLt B0 (some ⟨gr,or_,none⟩) rc M),(fun V=>Nq V s4 (.slice a4 n4 c4) t4 (.slice d4 e4 f4) (cq))]) rfl);clear AD;go_wp2;go_roundw
 case rel=>exact⟨k+1,ta,tl.length,tc,_,_,_,_,_,_,_,_,cq,by omega,by go_num,rfl,AL.out,hT⟩
 case measure=>simp [intOf];omega):P_:=h
theorem mY15_1 {P_:Prop} (h:P_:=by
 clear AG AH;have hT:=ζ ((hF.out.thin (bs':=[(b15,zQ,50),(b19,#[.int .i64 s1,.slice a1 n1 c1,.int .i64 t1,.slice d1 e1 f1],50)]) (os':=[]) (List.sublist_append_left [_,_] _) (List.nil_sublist _)).pick [0,1] (rs':=[(LLt B0 (some ⟨gr,or_,none⟩) rc M),(fun V=>Nq V s1 (.slice a1 n1 c1) t1 (.slice d1 e1 f1) (q))]) rfl);clear hF;go_wp2;go_roundw
 case rel=>exact⟨k+1,_,_,_,_,_,_,_,_,_,_,_,q,by omega,by go_num,rfl,AL.out,hT⟩
 case measure=>simp [intOf];omega):P_:=h
theorem rBest_any (w:World) (a:OA) (n c:Nat) (l:List Pt) (A unit least depth:Int) (nn mo:Nat) (hs:Sx 2 w a n c (L2 l)) (hp:profB l=true) (hT:Strt l A (atC A unit nn)) (hu:1<=unit/\unit<=200000) (hl:1<=least/\least<=200000) (hd:0<=depth/\depth<=3000) (hn:0 < nn/\nn<=8) (hmo:1<=mo/\mo<=60):
  Calls Tryz.prog 33 #[.slice a n c,.int .i64 A,.int .i64 (atC A unit nn),.int .i64 unit,.int .i64 least,.int .i64 (mo:Int),.int .i64 depth] w (RetRBe w (bestC l A unit least depth nn mo)):=by
 have h100:=hT.in100;have AN:=ζ (best_ref (l:=l) (a:=A) (unit:=unit) (least:=least) (depth:=depth) (n:=nn) (mo:=mo) hn.1);have hAB:atC A unit nn - (nn:Int)*unit=A:=by unfold atC;omega
 have AV:=ζ (fun W=>show Calls Tryz.prog 79 #[.int .i64 A,.int .i64 (atC A unit nn),.int .i64 unit,.int .i64 least,.int .i64 (mo:Int)] W (RetLL W (allF (atC A unit nn) unit least (nn+1) nn (mo:Int)))by
  have h:=rAll_any (atC A unit nn) unit least hu hl (by omega) (nn+1) nn (mo:Int) W (by omega) hn.2 (by omega) (by omega) (by omega);rw [hAB]at h;exact h)
 have A5:=ζ (fun x (hx:x∈allF (atC A unit nn) unit least (nn+1) nn (mo:Int))=>show brkB l x=true/\Bq 17800 (costL l depth x)/\0 < x.length/\x.length<=9 by
  obtain ⟨t,h1,h2,h3⟩:=mem_chn (l:=l) (depth:=depth) hn.1 (by omega) hx;refine⟨h3.brk hu.1 hT (Nat.le_refl nn) (by omega) (by omega) hp,h3.bq hu.1 hT (Nat.le_refl nn) (by omega) hp hd,by rw [h3.len];omega,?_⟩;have:=all_xlen hx;omega)
 have A6:=ζ (show(allF (atC A unit nn) unit least (nn+1) nn (mo:Int)).length<=256 from Nat.le_trans all_len (Nat.le_trans (Nat.pow_le_pow_right (by omega) hn.2) (by omega)));have Af:=ζ (fun W (hW:Below w.heap.size w W) ba bn bc bs (hb:Sx 1 W ba bn bc (L1 bs)) hk=>rCost_any W a n c l ba bn bc bs depth (hs.below hW) hb hk hd);have H0:=ζ (fun W=>show Calls Tryz.prog 72 #[.int .i64 0] W (RetNQ W 0)by have h:=rOf_any W 0 (by omega);exact h);generalize allF (atC A unit nn) unit least (nn+1) nn (mo:Int)=X at*;generalize bestC l A unit least depth nn mo=BST at*;generalize atC A unit nn=B at*;clear hs hp hT hl hn hAB h100 hu hd;have hC:=ζ ((Sy.enter w).al w.heap.size zQ 50 rfl);go_enter Tryz.func33,Tryz.ntmps33;go_upto_region 1 with fail
 obtain ⟨b15,hb15⟩:∃b,w.heap.size=b:=⟨_,rfl⟩
 have Ag:=ζ hb15;rw [hb15]at hC⊢;clear hb15;refine wp_geny hC.out ?_;intro V1 hc;have AY:=ζ hc;clear hc hC;go_wp2_with fail
 refine(AV.out _).mono ?_;rintro e W1 ⟨ra,rc,M,HM,rfl,hr,hb⟩;have hD:=ζ ((AY.out.call hb).push (r:=LLt V1.heap.size ra rc M) (fun V hV=>hr.out.anew (AY.out.newer hV)));obtain ⟨B0,A2⟩:∃B,V1.heap.size=B:=⟨_,rfl⟩
 rw [A2]at hD;have Aj:=ζ (show w.heap.size<=B0 by rw [<-A2];exact AY.out.be.size);have A3:=ζ (fun t (ht:t∈M)=>A5.out t.l (by rw [<-HM.out];exact List.mem_map.2 ⟨t,ht,rfl⟩));have Av:M.length<=256:=by have:=A6.out;rw [<-HM.out,List.length_map]at this;exact this
 rw [<-HM.out,List.length_map]at AN;clear hb hr AY A2 AV A5 A6;go_wp2_with fail
 refine(H0.out _).mono ?_;rintro e W2 ⟨s0,a0,n0,c0,t0,d0,e0,f0,rfl,hq,hb⟩;have hE:=ζ ((hD.out.call hb).pq rfl rfl hq);clear hb hq hD H0;have hX:=ζ (hE.out.al W2.heap.size #[.int .i64 s0,.slice a0 n0 c0,.int .i64 t0,.slice d0 e0 f0] 50 rfl);go_upto_region 4 with fail
 obtain ⟨b19,hb19⟩:∃b,W2.heap.size=b:=⟨_,rfl⟩
 rw [hb19]at hX⊢;refine wp_geny hX.out ?_;intro V2 hc;have A7:=ζ hc;clear hc hX hE hb19;have A8:=ζ (show BI l depth M 0 none 0 0 0 from .inl ⟨rfl,rfl,rfl,rfl,rfl⟩);go_wp2;go_loopw [18,20] (fun bv iv wr=>∃ (k:Nat) (ba:OA) (bn bc:Nat) (s1:Int) (a1:OA) (n1 c1:Nat) (t1:Int) (d1:OA) (e1 f1:Nat) (q:Rat),k<=M.length/\iv= .int .i64 k/\bv= .slice ba bn bc/\BI l depth M k ba bn bc q/\Hid (Sy w wr [(b15,zQ,50),(b19,#[.int .i64 s1,.slice a1 n1 c1,.int .i64 t1,.slice d1 e1 f1],50)] [] [LLt B0 ra rc M,(fun V=>Nq V s1 (.slice a1 n1 c1) t1 (.slice d1 e1 f1) (q))])) (fun _ iv _=>M.length - (intOf iv).toNat)
 case atStart=>exact⟨0,none,0,0,s0,a0,n0,c0,t0,d0,e0,f0,0,Nat.zero_le _,rfl,rfl,A8.out,A7⟩
 case round=>
  clear A7 A8;obtain ⟨k,ba,bn,bc,s1,a1,n1,c1,t1,d1,e1,f1,q,hk,rfl,rfl,hbi,hS⟩:=hrel;have AZ:=ζ hbi;clear hbi;have j0:(0:Int)<=(k:Int):=by omega
  have v5:IntKind.i64.wrap ((k:Int)+1)=((k+1:Nat):Int):=by rw [IntWalk.i64_in _ (by omega)];omega
  by_cases hlt:k < M.length
  ·obtain ⟨t,ht⟩:∃t,M[k]? =some t:=⟨_,List.getElem?_eq_getElem hlt⟩
   have A0:=ζ (List.mem_of_getElem? ht);have A4:=ζ (show refC l depth (M.map Lx.l) (k+1)=if refB (costL l depth t.l,t.l) (refC l depth (M.map Lx.l) k)then some (costL l depth t.l,t.l)else refC l depth (M.map Lx.l) k by
    have e:(M.map Lx.l).getD k []=t.l:=(by rw [List.getD_eq_getElem?_getD,List.getElem?_map,ht];rfl);rw [refC,e])
   have A9:=ζ (show(LLx M)[k]? =some (cLx t)by unfold LLx;rw [List.getElem?_map,ht];rfl);obtain ⟨hbr,hqb,hl0,hl9⟩:=A3.out t A0.out;have Ab:=ζ hbr;have BC:=ζ hqb;have BQ0:=ζ (show Bq 17800 q by
    rcases AZ.out with ⟨-,-,-,-,rfl⟩ | ⟨t',ht',-,-,-,-,rfl⟩
    ·exact bq_zero 17799
    ·exact(A3.out t' ht').2.1)
   clear ht hbr hqb;have AG:=ζ (fun(h:refB (costL l depth t.l,t.l) (refC l depth (M.map Lx.l) k)=true)=>show BI l depth M (k+1) t.a t.l.length t.c (costL l depth t.l)from .inr ⟨t,A0.out,by rw [A4.out,if_pos h],rfl,rfl,rfl,rfl⟩);have AH:=ζ (fun(h:refB (costL l depth t.l,t.l) (refC l depth (M.map Lx.l) k)=false)=>show BI l depth M (k+1) ba bn bc q by
    unfold BI;rw [A4.out,if_neg (by rw [h];exact Bool.false_ne_true)];exact AZ.out)
   obtain ⟨ta,tc,tl⟩:=t;dsimp only at hl0 hl9 Ab BC AG AH;have Ak:=ζ (fun W (hW:Below w.heap.size w W) ba bn bc (Al:Sx 1 W ba bn bc (L1 tl))=>Af.out W hW ba bn bc tl Al Ab.out);clear A4;generalize costL l depth tl=cq at*;have i1:(k:Int) < (M.length:Int):=(by omega);have Ac:=ζ (Sx.owns ((hS.out.r 0 rfl).1));obtain ⟨gr,or_,hgr⟩:=Ac.out.addr (by omega);subst hgr;have AK:=ζ (fun V (h:LLt B0 (some ⟨gr,or_,none⟩) rc M V)=>show V.cell? ⟨gr,or_+k,none⟩=some (.slice ta tl.length tc)from(Sx.owns h.1).cell A9.out);clear Ac A9;have x0:=AK.out _ (hS.out.r 0 rfl);go_wp2_with fail
   refine(Ak.out _ hS.out.be _ _ _ (Sx.owns ((hS.out.r 0 rfl).2 _ A0.out))).mono ?_;rintro e W4 ⟨s4,a4,n4,c4,t4,d4,e4,f4,rfl,hq,hb⟩;have hE:=ζ ((hS.out.call hb).pq rfl rfl hq);clear hb hq hS x0;have hX:=ζ (hE.out.al W4.heap.size #[.int .i64 s4,.slice a4 n4 c4,.int .i64 t4,.slice d4 e4 f4] 50 rfl);go_upto_region 8 with fail
   obtain ⟨b21,hb21⟩:∃b,W4.heap.size=b:=⟨_,rfl⟩
   rw [hb21]at hX⊢;refine wp_geny hX.out ?_;intro V4 hc;have hG:=ζ hc;clear hc hX hE hb21;have y0:=hG.out.c 2 0;have y1:=hG.out.c 2 1;have y2:=hG.out.c 2 2;have y3:=hG.out.c 2 3;have z0:=hG.out.c 1 0;have z1:=hG.out.c 1 1;have z2:=hG.out.c 1 2;have z3:=hG.out.c 1 3;obtain ⟨v,hv⟩:∃v,cmpQ cq q=v:=⟨_,rfl⟩
   have HV:=ζ hv;clear hv;go_wp2_with fail
   refine(rcmpN_is (hG.out.r 2 rfl) (hG.out.r 1 rfl) BC.out BQ0.out (by omega) (by omega) HV.out).mono ?_;rintro e W6 ⟨rfl,hb⟩;have hF:=ζ (hG.out.call hb);clear hb hG y0 z0 y1 z1 y2 z2 y3 z3;rcases AZ.out with ⟨hn1,rfl,rfl,rfl,-⟩ | ⟨t',ht',hn1,rfl,rfl,rfl,-⟩
   ·have hnil:=isnil_int none 0 0;have AO:=ζ hn1;clear hn1;have AL:=ζ (AG.out (by rw [AO.out];rfl));exact mY15_0
   ·obtain ⟨ya,yc,yl⟩:=t';have HY:=ζ ht';have AO:=ζ hn1;dsimp only at AO AH hn1⊢;have hyl:=(A3.out _ ht').2.2;dsimp only at hyl;obtain ⟨gy,oy,hgy⟩:=(Sx.owns ((hF.out.r 0 rfl).2 _ ht')).addr (show 0 < yl.length from hyl.1);dsimp only at hgy;subst hgy;clear hn1 ht';have hnil:=isnil_int (some ⟨gy,oy,none⟩) yl.length yc;by_cases jc1:v < 0
    ·have k1:=decide_eq_true jc1;have AL:=ζ (AG.out (by rw [AO.out];unfold refB;dsimp only;rw [HV.out,k1];rfl));exact mY15_0
    ·have k1:=decide_eq_false jc1;by_cases jc2:v=0
     ·have k2:=decide_eq_true jc2;by_cases jc3:(tl.length:Int) < (yl.length:Int)
      ·have k3:=decide_eq_true jc3;have x0:=AK.out _ (hF.out.r 0 rfl);have AL:=ζ (AG.out (by rw [AO.out];unfold refB;dsimp only;rw [HV.out,k1,k2,decide_eq_true (show tl.length < yl.length by omega)];rfl));exact mY15_0
      ·have k3:=decide_eq_false jc3;by_cases jc4:(tl.length:Int)=(yl.length:Int)
       ·have k4:=decide_eq_true jc4;have Am:=ζ jc4;clear jc4;have x0:=AK.out _ (hF.out.r 0 rfl);have A1:=ζ (rless_any _ _ _ _ _ _ _ _ _ (Sx.owns ((hF.out.r 0 rfl).2 _ A0.out)) (Sx.owns ((hF.out.r 0 rfl).2 _ HY.out)));obtain ⟨R,hR⟩:∃R,decide (lexC tl yl < 0)=R:=⟨_,rfl⟩
        dsimp only at A1;rw [hR]at A1;have HR:=ζ hR;clear hR;go_wp2_with fail
        refine A1.out.mono ?_;rintro e W8 ⟨rfl,hb⟩;have hG:=ζ (hF.out.call hb);clear hb hF A1 x0;have hF:=hG;clear hG;cases R
        ·skip
         have AL:=ζ (AH.out (by rw [AO.out];unfold refB;dsimp only;rw [HV.out,k1,k2,decide_eq_false (show ¬ tl.length < yl.length by omega),HR.out,Bool.and_false];rfl));exact mY15_1
        ·skip
         have AL:=ζ (AG.out (by rw [AO.out];unfold refB;dsimp only;rw [HV.out,k1,k2,decide_eq_false (show ¬ tl.length < yl.length by omega),decide_eq_true (show tl.length=yl.length by have:=Am.out;omega),HR.out];rfl));exact mY15_0
       ·have k4:=decide_eq_false jc4;have x0:=AK.out _ (hF.out.r 0 rfl);have AL:=ζ (AH.out (by rw [AO.out];unfold refB;dsimp only;rw [HV.out,k1,k2,decide_eq_false (show ¬ tl.length < yl.length by omega),decide_eq_false (show ¬ tl.length=yl.length by omega)];rfl));exact mY15_1
     ·have k2:=decide_eq_false jc2;have AL:=ζ (AH.out (by rw [AO.out];unfold refB;dsimp only;rw [HV.out,k1,k2];rfl));exact mY15_1
  ·obtain rfl:k=M.length:=by omega
   have i1:¬ ((M.length:Nat):Int) < (M.length:Int):=(by omega);have An:=ζ (show BST.isSome=decide (0 < (M.length:Int))by rw [<-AN.out];have:=refC_some (l:=l) (depth:=depth) (xs:=M.map Lx.l);rw [List.length_map]at this;exact this);go_upto_region 11 with fail
   have HSL:∀V ex os rs,Sy w V ([(b15,zQ,50),(b19,#[.int .i64 s1,.slice a1 n1 c1,.int .i64 t1,.slice d1 e1 f1],50)]++ex) os rs->(fun w'=>w'.cell? ⟨b19,0,none⟩=some (.int .i64 s1)/\w'.cell? ⟨b19,1,none⟩=some (.slice a1 n1 c1)/\w'.cell? ⟨b19,2,none⟩=some (.int .i64 t1)/\w'.cell? ⟨b19,3,none⟩=some (.slice d1 e1 f1)/\True) V:=fun V ex os rs hX=>⟨hX.c 1 0,hX.c 1 1,hX.c 1 2,hX.c 1 3,trivial⟩
   refine wp_region_held_drew (S:=(fun w'=>w'.cell? ⟨b19,0,none⟩=some (.int .i64 s1)/\w'.cell? ⟨b19,1,none⟩=some (.slice a1 n1 c1)/\w'.cell? ⟨b19,2,none⟩=some (.int .i64 t1)/\w'.cell? ⟨b19,3,none⟩=some (.slice d1 e1 f1)/\True)) (by kernel_rfl) ⟨hS.out.drew.c 1 0,hS.out.drew.c 1 1,hS.out.drew.c 1 2,hS.out.drew.c 1 3,trivial⟩ (fun hH=>?_);refine wpAnyH_geny (show Sy w _ [(b15,zQ,50),(b19,#[.int .i64 s1,.slice a1 n1 c1,.int .i64 t1,.slice d1 e1 f1],50)] [] [(LLt B0 ra rc M),(fun V=>Nq V s1 (.slice a1 n1 c1) t1 (.slice d1 e1 f1) (q))]from hS.out.drew) hH ?_;intro Ap hc AJ;have AP:=ζ hc;clear hc hH hS;refine tkA 0 rfl AJ ?_;(try simp only [zP]);refine tkA 1 rfl AJ ?_;(try simp only [zP]);refine tkA 2 rfl AJ ?_;(try simp only [zP]);refine tkA 3 rfl AJ ?_;(try simp only [zP]);refine tkA 4 rfl AJ ?_;(try simp only [zP]);refine rdy1 5 rfl (fun Kq AE=>?_);go_simp;refine stW AE AP.out ?_;intro Aq AF AW;clear AE Kq AP AJ;(try simp only [zP]);refine rdy1 6 rfl (fun Kq AE=>?_);have cQ0:=AF.out.c 0 0;have fQ0:=AF.out.f 0 0;have cQ1:=AF.out.c 0 1;have fQ1:=AF.out.f 0 1;have cQ2:=AF.out.c 0 2;have fQ2:=AF.out.f 0 2;have cQ3:=AF.out.c 0 3;have fQ3:=AF.out.f 0 3;go_simp;refine stepZ AE (AF.out|>.set (j:=0) (v:= .int .i64 s1) 0 rfl|>.set (j:=1) (v:= .slice a1 n1 c1) 0 rfl|>.set (j:=2) (v:= .int .i64 t1) 0 rfl|>.set (j:=3) (v:= .slice d1 e1 f1) 0 rfl) (fun _ hX=>⟨hX.c 1 0,hX.c 1 1,hX.c 1 2,hX.c 1 3,trivial⟩) ?_;intro Ar AQ AX;clear AE Kq AF cQ0 fQ0 cQ1 fQ1 cQ2 fQ2 cQ3 fQ3 AW;(try simp only [Act.put]);refine rdy1 7 rfl (fun Kq AE=>?_);go_simp;refine stepZ AE AQ.out (fun _ hX=>⟨hX.c 1 0,hX.c 1 1,hX.c 1 2,hX.c 1 3,trivial⟩) ?_;intro As AR Ad;clear AE Kq AQ AX;(try simp only [zP]);refine wpAnyH_done (by kernel_rfl) ?_ _;have hT:=AR;clear AR;go_wp2;refine ret_sy hT.out (v:= .tuple #[.slice ba bn bc,.agg #[.int .i64 s1,.slice a1 n1 c1,.int .i64 t1,.slice d1 e1 f1],.bool (decide (0 < (M.length:Int)))]) (fun hF=>?_) rfl (fun hF=>⟨ba,bn,bc,_,_,_,_,_,_,_,_,by rw [An.out],ζ (fun d hd=>?_),hF.be⟩)
   ·have g0:=hF.c 0 0;have g1:=hF.c 0 1;have g2:=hF.c 0 2;have g3:=hF.c 0 3;simp [results,Tryz.results33,go_sem,g0,g1,g2,g3]
   ·rcases AZ.out with ⟨hn1,-⟩ | ⟨t,ht,hn1,rfl,rfl,rfl,-⟩
    ·rw [AN.out,hd]at hn1;cases hn1
    ·rw [AN.out,hd]at hn1;cases hn1;exact⟨hF.r 1 rfl,fun V hV=>Sx.owns (ownsRow_anew ((hF.r 0 rfl:LLt _ _ _ _ _).2 t ht) ⟨hV.1,fun g hg=>hV.2 g (Nat.le_trans Aj.out hg)⟩)⟩
def RowZ (W:World) (a:OA) (n:Nat):Prop:=∀k,k < n->∃ (g:Nat) (a1:OA) (n1 c1:Nat) (m1:Bool) (d1:OA) (e1 f1:Nat),a=some ⟨g,0,none⟩/\g < W.heap.size/\
 W.cell? ⟨g,k*3,none⟩=some (.slice a1 n1 c1)/\W.cell? ⟨g,k*3+1,none⟩=some (.bool m1)/\W.cell? ⟨g,k*3+2,none⟩=some (.slice d1 e1 f1)/\Rd W (.slice a1 n1 c1) m1 (.slice d1 e1 f1) 0
theorem RowZ.mono {W V:World} {a:OA} {n:Nat} (h:RowZ W a n) (hb:Below W.heap.size W V):RowZ V a n:=fun k hk=>by
 obtain ⟨g,a1,n1,c1,m1,d1,e1,f1,h1,h2,h3,h4,h5,h6⟩:=h k hk;exact⟨g,a1,n1,c1,m1,d1,e1,f1,h1,Nat.lt_of_lt_of_le h2 hb.size,(hb.cell (p:=⟨g,_,none⟩) h2).trans h3,(hb.cell (p:=⟨g,_,none⟩) h2).trans h4,(hb.cell (p:=⟨g,_,none⟩) h2).trans h5,h6.keep (Below.keeps hb)⟩
section
variable {w W:World} {bs:List (Nat×Array Value×TypeId)} {os:List Rw} {rs:List (World->Prop)}
theorem RowZ.of1 (h:Sy w W bs os rs) (i:Nat) {g:Nat} {ap:OA} {np cp:Nat} {mp:Bool} {dp:OA} {ep fp:Nat} (hi:os[i]? =some ⟨.slice (some ⟨g,0,none⟩) 1 1,42,3,1,[.slice ap np cp,.bool mp,.slice dp ep fp]⟩) (hp:Rd W (.slice ap np cp) mp (.slice dp ep fp) 0):RowZ W (some ⟨g,0,none⟩) 1:=fun k hk=>by
 have hg:g < W.heap.size:=(World.ownsRow.lt (h.orow i hi) g rfl).2;obtain rfl:k=0:=by omega
 exact⟨g,_,_,_,_,_,_,_,rfl,hg,h.rcell i hi (k:=0) rfl,h.rcell i hi (k:=1) rfl,h.rcell i hi (k:=2) rfl,hp⟩
end
theorem sgnQ_z0:sgnQ (0:Rat)=0:=sgnQ_zero.2 rfl
theorem nil0_any (w:World) (a:OA) (n c:Nat) (h:RowZ w a n) (hn:n<=10):Calls Tryz.prog 28 #[.slice a n c] w (Gives (.bool true) w):=by
 have HZ:=ζ (fun V (hV:Below w.heap.size w V)=>h.mono hV);clear h;have hC:=ζ (Sy.enter w);go_enter Tryz.func28,Tryz.ntmps28;go_wp2;go_loopw [3] (fun iv wr=>∃k:Nat,k<=n/\iv= .int .i64 k/\Hid (Sy w wr [] [] [])) (fun iv _=>n - (intOf iv).toNat)
 case atStart=>exact⟨0,Nat.zero_le _,rfl,hC⟩
 case round=>
  clear hC;obtain ⟨k,hk,rfl,hS⟩:=hrel;by_cases hlt:k < n
  ·obtain ⟨g,a1,n1,c1,m1,d1,e1,f1,rfl,hg,x0,x1,x2,hr⟩:=HZ.out _ hS.out.be k hlt;have HR:=ζ hr;have i0:(0:Int)<=(k:Int):=(by omega);have i1:(k:Int) < (n:Int):=(by omega);clear hg hr;go_wp2_with fail
   refine(hsign_is HR.out sgnQ_z0).mono ?_;rintro e W2 ⟨rfl,hb⟩;have hE:=ζ (hS.out.call hb);clear hb hS x0 x1 x2;go_wp2;go_roundw
   case rel=>exact⟨k+1,by omega,by go_num,hE⟩
   case measure=>simp [intOf];omega
  ·obtain rfl:k=n:=by omega
   go_wp2;go_ret;exact⟨rfl,hS.out.be⟩
section
open Dig
theorem dch_ne {n:Nat} (h:0 < n) (h2:n < 10):(Dec.dch n==48)=false:=by
 have:Dec.dch n≠48:=fun e=>by have:=(Dec.dch_zero_iff n).1 e;omega
 simpa using this
theorem pad_dec {j N:Nat} (h:N < 10 ^ (j+1)) (h2:0 < N / 10 ^ j):Dec.pad (j+1) N=Dec.dec N:=by
 have h9:N / 10 ^ j < 10:=by
  rw [Nat.div_lt_iff_lt_mul (Nat.pow_pos (by omega)),Nat.mul_comm,<-Nat.pow_succ];exact h
 have hN:N≠0:=fun e=>by subst e;simp at h2
 have h3:=Dec.drop0_pad h;rw [if_neg hN]at h3;rw [<-h3,pad_succ];unfold Dec.drop0;rw [List.dropWhile_cons,if_neg (by rw [dch_ne h2 h9];simp)]
theorem group_digit {N i k x:Nat} (hx:x=N / 10000 ^ i % 10000) (hk:k < 4):Dec.dch (x / 10 ^ k)=Dec.dch (N / 10 ^ (4*i+k)):=by
 have e:(10:Nat) ^ (4*i+k)=10000 ^ i*10 ^ k:=by rw [Nat.pow_add,Nat.pow_mul]
 rw [e,<-Nat.div_div_eq_div_mul,hx,<-Dec.dch_mod,<-Dec.dch_mod (N / 10000 ^ i / 10 ^ k)];congr 1;generalize N / 10000 ^ i=m;rcases(show k=0\/k=1\/k=2\/k=3 by omega)with h | h | h | h<;>subst h<;>omega
theorem group_last {N n i x:Nat} (hx:x=N / 10000 ^ i % 10000) (hn:N < 10000 ^ n) (hi:i+1=n):x=N / 10000 ^ i:=by
 rw [hx];apply Nat.mod_eq_of_lt;rw [Nat.div_lt_iff_lt_mul (Nat.pow_pos (by omega)),<-Nat.pow_succ',<-Nat.add_one,hi];exact hn
theorem dg_get {b:Nat} (hb:2<=b):∀ (N i:Nat) (h:i < (dg b N).length),(dg b N)[i]=((N / b ^ i % b:Nat):Int)
 | N,i,h=>by
   have hN:0 < N:=by
    rcases Nat.eq_zero_or_pos N with e | e
    ·subst e;rw [dg_zero]at h;simp at h
    ·exact e
   cases i with
   | zero=>simp only [dg_pos hb hN,List.getElem_cons_zero,Nat.pow_zero,Nat.div_one]
   | succ i=>
     have h':i < (dg b (N / b)).length:=(by rw [dg_pos hb hN]at h;simpa using h);have ih:=dg_get hb (N / b) i h';simp only [dg_pos hb hN,List.getElem_cons_succ];rw [ih,Nat.div_div_eq_div_mul,<-Nat.pow_succ']
end
section
open Go.RowKit Dig
theorem conv_dig (w:World):∀ (d:Nat),d < 10->(convert 21 9 (.int .i32 ((48:Int)+(d:Int)))).run Tryz.prog w= .ok (.string ⟨#[Dec.dch d]⟩) w:=by
 intro d hd;rcases(show d=0\/d=1\/d=2\/d=3\/d=4\/d=5\/d=6\/d=7\/d=8\/d=9 by omega)with rfl | rfl | rfl | rfl | rfl | rfl | rfl | rfl | rfl | rfl<;>kernel_rfl
theorem ba_cons (c:UInt8) (l:List UInt8):(⟨#[c]⟩:ByteArray)++⟨l.toArray⟩=⟨(c::l).toArray⟩:=by
 apply ByteArray.ext;simp [ByteArray.data_append]
theorem ztextN_zero (s1:Int) (a1:OA) (n1 c1:Nat) (z1:Int) (w:World) (h1:Nz w s1 (.slice a1 n1 c1) z1) (h0:z1=0):
  Calls Tryz.prog 135 #[.agg #[.int .i64 s1,.slice a1 n1 c1]] w (fun e w'=>e= .returned (.string ⟨#[48]⟩)/\Below w.heap.size w w'):=by
 obtain rfl:s1=0:=h1.s0.2.2 h0;have hC:=ζ ((St.enter w).al w.heap.size #[.int .i64 0,.slice a1 n1 c1] 48 rfl rfl);clear h1 h0;go_enter Tryz.func135,Tryz.ntmps135;go_wp2;go_ret;exact⟨rfl,hC.out.be⟩
theorem ztextN_nz (s1:Int) (a1:OA) (n1 c1:Nat) (z1:Int) (w:World) (h1:Nz w s1 (.slice a1 n1 c1) z1) (h0:z1≠0) (k1:Nat) (b1:Bd k1 z1) (hk1:k1<=400000):
  Calls Tryz.prog 135 #[.agg #[.int .i64 s1,.slice a1 n1 c1]] w (fun e w'=>e= .returned (.string ⟨(Dec.ztext z1).toArray⟩)/\Below w.heap.size w w'):=by
 have hs0:=h1.s0;have d0:(s1==0)=false:=by
  have:s1≠0:=fun e=>h0 (hs0.2.1 e);simpa using this
 have HS:=ζ hs0.1;have AK:0 < z1.natAbs:=by omega
 have hn:=h1.g.len;have hxl:=b1.lenN (show k1<=500000 by omega);have AR:=ζ (show dg 10000 z1.natAbs≠ []from fun e=>by have:=(dg_nil_iff (b:=10000) (by omega)).1 e;omega);have AL:=ζ (fun i h=>dg_get (b:=10000) (by omega) z1.natAbs i h);have AC:=ζ (dg_len_lt (b:=10000) (by omega) z1.natAbs);have AM:=ζ (Dig.dg_len_ge (b:=10000) (by omega) z1.natAbs AK);have AN:=h1.g;have AE:=ζ (show Dec.ztext z1=if z1 < 0 then 45::Dec.dec z1.natAbs else Dec.dec z1.natAbs from rfl);clear h1 hs0 h0 b1;generalize dg 10000 z1.natAbs=xs at*;obtain ⟨N,hNN⟩:∃N:Nat,N=z1.natAbs:=⟨_,rfl⟩
 rw [<-hNN]at AL AC AM AE AK;clear hNN;obtain rfl:xs.length=n1:=hn.symm;have hx0:0 < xs.length:=List.length_pos_iff.2 AR.out;have hC:=ζ (((St.enter w).pl AN).al w.heap.size #[.int .i64 s1,.slice a1 xs.length c1] 48 rfl rfl);clear AN hn;go_enter Tryz.func135,Tryz.ntmps135;go_wp2_with fail
 go_loopw [3,4] (fun ov iv wr=>∃ (i:Nat) (B:ByteArray),iv= .int .i64 (i:Int)/\ov= .string B/\i<=xs.length/\Hid (i < xs.length->B=⟨(Dec.pad (4*i) N).toArray⟩)/\Hid (i=xs.length->B=⟨(Dec.dec N).toArray⟩)/\B.size<=4*i/\
  Hid (St w wr [(w.heap.size,#[.int .i64 s1,.slice a1 xs.length c1],48)] [fun V=>Sl 3 V (.slice a1 xs.length c1) xs])) (fun _ iv _=>xs.length - (intOf iv).toNat)
 case atStart=>exact⟨0,⟨#[]⟩,rfl,rfl,Nat.zero_le _,fun _=>rfl,fun e=>by omega,Nat.le_refl _,hC⟩
 case round=>
  clear hC;obtain ⟨i,B,rfl,rfl,hi,AA,AB,AS,hC⟩:=hrel;have AO:=hC.out.c 0 1;by_cases hlt:i < xs.length
  ·obtain ⟨g1,rfl,hg1⟩:=(hC.out.l 0 rfl).row (by omega);have cx:=(hC.out.l 0 rfl).cell (k:=i) hlt;have AT:=ζ (AA.out hlt);obtain ⟨X,hX⟩:∃X:Nat,X=N / 10000 ^ i % 10000:=⟨_,rfl⟩
   have AP:xs[i]=(X:Int):=(by rw [hX];exact AL.out i hlt);rw [AP]at cx;have AU:X < 10000:=(by rw [hX];exact Nat.mod_lt _ (by omega));have HX:=ζ hX;have i1:(0:Int)<=(i:Int):=(by omega);have i2:(i:Int) < (xs.length:Int):=(by omega);have HLAST:=ζ (show i+1=xs.length->0 < X from fun e=>by
    have h1:=group_last hX AC.out e;rw [h1];have h2:=AM.out;rw [show xs.length - 1=i by omega]at h2;exact Nat.div_pos h2 (Nat.pow_pos (by omega)))
   clear hX AP AA AB;go_wp2_with fail
   obtain ⟨wo,hwo⟩:∃wo:World,wo=wr:=⟨_,rfl⟩
   go_loopw [3,5,6] (fun ov xv kv wi=>∃ (k m:Nat) (B':ByteArray),ov= .string B'/\xv= .int .i64 (m:Int)/\kv= .int .i64 (k:Int)/\k<=4/\m < 10000/\Hid (m=X / 10 ^ k)/\Hid (B'=⟨(Dec.pad (4*i+k) N).toArray⟩)/\B'.size<=4*i+k/\
    Hid (i+1=xs.length->1<=k->0 < N / 10 ^ (4*i+k - 1))/\Hid (St w wi [(w.heap.size,#[.int .i64 s1,.slice (some ⟨g1,0,none⟩) xs.length c1],48)] [fun V=>Sl 3 V (.slice (some ⟨g1,0,none⟩) xs.length c1) xs])) (fun _ _ kv _=>(4 - intOf kv).toNat)
   case atStart=>exact⟨0,X,B,rfl,rfl,rfl,by omega,AU,by simp [Hid],AT,AS,fun _ h=>by omega,hC⟩
   case round=>
    clear hC AO cx;obtain ⟨k,m,B',rfl,rfl,rfl,hk,hm4,HM,HBV',hBs',HL,hC⟩:=hrel;have AO:=hC.out.c 0 1;have hsz:¬ 9223372036854775807 < 1+B'.size:=(by omega);have AQ:=ζ (show i+1=xs.length->N / 10 ^ (4*i+k)=m from fun e=>by
     have e2:(10:Nat) ^ (4*i+k)=10000 ^ i*10 ^ k:=(by rw [Nat.pow_add,Nat.pow_mul]);rw [e2,<-Nat.div_div_eq_div_mul,<-group_last HX.out AC.out e,HM.out])
    by_cases hk4:k < 4
    ·have hk4':(k:Int) < 4:=(by omega);have AD:=ζ (show(⟨#[Dec.dch (m % 10)]⟩:ByteArray)++B'=⟨(Dec.pad (4*i+(k+1)) N).toArray⟩by
      rw [HBV'.out,ba_cons,Dec.dch_mod,HM.out,group_digit HX.out hk4,<-Nat.add_assoc,pad_succ])
     obtain ⟨d,hd⟩:∃d:Nat,d=m % 10:=⟨_,rfl⟩
     have hd10:d < 10:=(by omega);obtain ⟨q,hq⟩:∃q:Nat,q=m / 10:=⟨_,rfl⟩
     have HQ:=ζ (show q=X / 10 ^ (k+1)by rw [hq,HM.out,Nat.div_div_eq_div_mul,<-Nat.pow_succ]);have hq4:q < 10000:=(by omega);rw [<-hd]at AD;have hr1:(m:Int) % 10=(d:Int):=(by omega);have hr2:(m:Int).tmod 10=(d:Int):=(by rw [Int.tmod_eq_emod_of_nonneg (by omega)];exact hr1);have hr3:(m:Int) / 10=(q:Int):=(by omega);have hr4:(m:Int).tdiv 10=(q:Int):=(by rw [Int.tdiv_eq_ediv_of_nonneg (by omega)];exact hr3);have hds:(⟨#[Dec.dch d]⟩:ByteArray).size=1:=rfl;have AF:=ζ (show((⟨#[Dec.dch d]⟩:ByteArray)++B').size<=4*i+(k+1)by rw [ByteArray.size_append,hds];omega);by_cases hm0:0 < m
     ·have hm0':(0:Int) < (m:Int):=(by omega);have AG:=ζ (show i+1=xs.length->1<=k+1->0 < N / 10 ^ (4*i+(k+1) - 1)from fun e _=>by
       rw [show 4*i+(k+1) - 1=4*i+k by omega,AQ.out e];exact hm0)
      clear hd hq;have kc:=fun(w:World)=>conv_dig w d hd10;go_wp2;go_roundw
      case rel=>exact⟨k+1,q,_,rfl,rfl,by go_num,by omega,hq4,HQ,AD,AF.out,AG,hC⟩
      case measure=>simp [intOf];omega
     ·have m0:m=0:=(by omega);by_cases hlast:i+1 < xs.length
      ·have hl':(i:Int) < (xs.length:Int) - 1:=(by omega);have hm0':¬ (0:Int) < (m:Int):=(by omega);have AG:=ζ (show i+1=xs.length->1<=k+1->0 < N / 10 ^ (4*i+(k+1) - 1)from fun e _=>by omega);have d00:d=0:=(by omega);have q00:q=0:=(by omega);subst d00 q00 m0;have HE:=ζ (show Utf8.encode 48=⟨#[Dec.dch 0]⟩by kernel_rfl);have AH:=ζ (show Utf8.encode 48++B'=⟨(Dec.pad (4*i+(k+1)) N).toArray⟩by rw [HE.out];exact AD.out);have AI:=ζ (show(Utf8.encode 48++B').size<=4*i+(k+1)by rw [HE.out];exact AF.out);have hsz0:¬ 9223372036854775807 < (Utf8.encode 48).size+B'.size:=(by rw [HE.out];exact hsz);clear hd hq hm0 hr1 hr2 hr3 hr4 hds AD AF hm0';go_wp2;go_roundw
       case rel=>exact⟨k+1,0,_,rfl,rfl,by go_num,by omega,by omega,HQ,AH,AI.out,AG,hC⟩
       case measure=>simp [intOf];omega
      ·have hl':¬ (i:Int) < (xs.length:Int) - 1:=(by omega);have hm0':¬ (0:Int) < (m:Int):=(by omega);have he:i+1=xs.length:=(by omega);have AJ:=ζ (show B'=⟨(Dec.dec N).toArray⟩by
        have hk1:1<=k:=by
         rcases Nat.eq_zero_or_pos k with e | e
         ·subst e;have h1:=HM.out;rw [Nat.pow_zero,Nat.div_one]at h1;have h2:=HLAST.out he;omega
         ·exact e
        obtain ⟨j,rfl⟩:∃j,k=j+1:=⟨k - 1,by omega⟩
        have h3:=AQ.out he;have h4:=HL.out he hk1;rw [m0]at h3;rw [HBV'.out,<-Nat.add_assoc,show Dec.pad (4*i+j+1) N=Dec.dec N from pad_dec (j:=4*i+j) (by
         rw [Nat.div_eq_zero_iff]at h3;rcases h3 with h3 | h3
         ·exact absurd h3 (Nat.ne_of_gt (Nat.pow_pos (by omega)))
         ·exact h3) h4])
       clear hd hq m0 hm0 hr1 hr2 hr3 hr4 hds;go_wp2;go_roundw
       case rel=>exact⟨i+1,B',by go_num,rfl,by omega,fun h=>by omega,fun _=>AJ.out,by omega,hC⟩
       case measure=>simp [intOf];omega
    ·obtain rfl:k=4:=by omega
     have AA:=ζ (show i+1 < xs.length->B'=⟨(Dec.pad (4*(i+1)) N).toArray⟩from fun _=>HBV'.out);have AB:=ζ (show i+1=xs.length->B'=⟨(Dec.dec N).toArray⟩from fun e=>by
      rw [HBV'.out,show Dec.pad (4*i+4) N=Dec.dec N from pad_dec (j:=4*i+3) (by
       have h1:=AC.out;rw [<-e]at h1;refine Nat.lt_of_lt_of_le h1 ?_;rw [show(10000:Nat)=10 ^ 4 from rfl,<-Nat.pow_mul];exact Nat.pow_le_pow_right (by omega) (by omega)) (HL.out e (by omega))])
     have hk4':¬ ((4:Nat):Int) < 4:=(by omega);go_wp2;go_roundw
     case rel=>exact⟨i+1,B',by go_num,rfl,by omega,AA.out,AB.out,by omega,hC⟩
     case measure=>simp [intOf];omega
  ·obtain rfl:i=xs.length:=by omega
   have HV:=ζ (AB.out rfl);have AV:=hC.out.c 0 0;have hsz:¬ 9223372036854775807 < 1+B.size:=(by omega);clear AA AB hlt hi;by_cases hz:z1 < 0
   ·have d1:decide (s1 < 0)=true:=(by simpa using HS.out.2 hz);have HZ:=ζ (show(⟨#[45]⟩:ByteArray)++B=⟨(Dec.ztext z1).toArray⟩by rw [HV.out,AE.out,if_pos hz,ba_cons]);clear hz;go_wp2;go_ret;exact⟨ret_str HZ.out,hC.out.be⟩
   ·have d1:decide (s1 < 0)=false:=(by have:=fun h=>hz (HS.out.1 h);simpa using this);have HZ:=ζ (show B=⟨(Dec.ztext z1).toArray⟩by rw [HV.out,AE.out,if_neg hz]);clear hz;go_wp2;go_ret;exact⟨ret_str HZ.out,hC.out.be⟩
theorem ztextN_any {s1:Int} {a1:OA} {n1 c1:Nat} {z1:Int} {w:World} (h1:Nz w s1 (.slice a1 n1 c1) z1) {k1:Nat} (b1:Bd k1 z1) (hk1:k1<=400000):
  Calls Tryz.prog 135 #[.agg #[.int .i64 s1,.slice a1 n1 c1]] w (fun e w'=>e= .returned (.string ⟨(Dec.ztext z1).toArray⟩)/\Below w.heap.size w w'):=by
 by_cases h0:z1=0
 ·refine(ztextN_zero s1 a1 n1 c1 z1 w h1 h0).mono ?_;rintro e w' ⟨rfl,hb⟩;refine⟨?_,hb⟩;have e:(⟨#[48]⟩:ByteArray)=⟨(Dec.ztext 0).toArray⟩:=by kernel_rfl
  rw [h0,e]
 ·exact ztextN_nz s1 a1 n1 c1 z1 w h1 h0 k1 b1 hk1
theorem qN22_0 {P_:Prop} (h:P_:=by exact⟨Yx.c 0 0,Yx.c 0 1,Yx.c 0 2,Yx.c 0 3,trivial⟩):P_:=h
theorem ztextN_is {s1:Int} {a1:OA} {n1 c1:Nat} {z1:Int} {w:World} (h1:Nz w s1 (.slice a1 n1 c1) z1) {k1:Nat} (b1:Bd k1 z1) (hk1:k1<=400000) {B:ByteArray} (hB:Dec.ztext z1=B.data.toList):
  Calls Tryz.prog 135 #[.agg #[.int .i64 s1,.slice a1 n1 c1]] w (fun e w'=>e= .returned (.string B)/\Below w.heap.size w w'):=by
 have:=ztextN_any h1 b1 hk1;rw [hB]at this;exact this
theorem ztext_ne1 {z:Int} (h:z≠1):((⟨(Dec.ztext z).toArray⟩:ByteArray).toList== [49])=false:=by
 rw [Go.ByteArray.toList_mk];have h3: [49]=Dec.ztext 1:=by kernel_rfl
 exact beq_eq_false_iff_ne.2 (fun e=>h (Dec.ztext_inj (e.trans h3)))
theorem rtextN_one (s1:Int) (a1:OA) (n1 c1:Nat) (t1:Int) (d1:OA) (e1 f1:Nat) (q1:Rat) (w:World) (h1:Nq w s1 (.slice a1 n1 c1) t1 (.slice d1 e1 f1) q1) (k1:Nat) (b1:Bq k1 q1) (hk1:k1<=40000) (hd:q1.den=1):
  Calls Tryz.prog 71 #[.agg #[.int .i64 s1,.slice a1 n1 c1,.int .i64 t1,.slice d1 e1 f1]] w (fun e w'=>e= .returned (.string ⟨(rtext q1).toArray⟩)/\Below w.heap.size w w'):=by
 have HD:=ζ hd;have HT:=ζ (show rtext q1=Dec.ztext q1.num from if_pos hd);clear hd;have B1:=ζ b1;clear b1;have hC:=ζ (((St.enter w).pq h1).al (w.heap.size) #[.int .i64 s1,.slice a1 n1 c1,.int .i64 t1,.slice d1 e1 f1] 50 rfl rfl);clear h1;go_enter Tryz.func71,Tryz.ntmps71;have AB:=hC.out.c 0 0;have AC:=hC.out.c 0 1;have AD:=hC.out.c 0 2;have AE:=hC.out.c 0 3;go_wp2_with fail
 refine(denN_b (hC.out.rq 0 rfl)).mono ?_;rintro e w3 ⟨s3,a3,n3,c3,rfl,hz,hb⟩;have AH:=ζ ((hC.out.call hb).pn hz);clear hb hz hC;clear AB AC AD AE;go_wp2_with fail
 refine(ztextN_is (AH.out.n 1 rfl) B1.out.den (by omega) (B:=⟨#[49]⟩) (by rw [HD.out];kernel_rfl)).mono ?_;rintro e w4 ⟨rfl,hb⟩;have AA:=ζ (AH.out.call hb);clear hb AH;have AK:=AA.out.c 0 0;have AL:=AA.out.c 0 1;have AM:=AA.out.c 0 2;have AN:=AA.out.c 0 3;go_wp2_with fail
 refine(ztextN_any (AA.out.rq 0 rfl).n B1.out.num (by omega)).mono ?_;rintro e w5 ⟨rfl,hb⟩;have AF:=ζ (AA.out.call hb);clear hb AA;go_wp2;go_ret;exact⟨ret_str (by rw [HT.out]),AF.out.be⟩
theorem rtextN_more (s1:Int) (a1:OA) (n1 c1:Nat) (t1:Int) (d1:OA) (e1 f1:Nat) (q1:Rat) (w:World) (h1:Nq w s1 (.slice a1 n1 c1) t1 (.slice d1 e1 f1) q1) (k1:Nat) (b1:Bq k1 q1) (hk1:k1<=40000) (hd:q1.den≠1):
  Calls Tryz.prog 71 #[.agg #[.int .i64 s1,.slice a1 n1 c1,.int .i64 t1,.slice d1 e1 f1]] w (fun e w'=>e= .returned (.string ⟨(rtext q1).toArray⟩)/\Below w.heap.size w w'):=by
 have hl1:=ztext_len b1.num (by omega);have hl2:=ztext_len b1.den (by omega);have HT:=ζ (show rtext q1=Dec.ztext q1.num++ [47]++Dec.ztext q1.den from if_neg hd);obtain ⟨T1,AO⟩:∃T:ByteArray,T=⟨(Dec.ztext q1.num).toArray⟩:=⟨_,rfl⟩
 obtain ⟨T2,AJ⟩:∃T:ByteArray,T=⟨(Dec.ztext q1.den).toArray⟩:=⟨_,rfl⟩
 have hs1:T1.size<=1000002:=by rw [AO];show(Dec.ztext q1.num).toArray.size<=_;simpa using hl1
 have hs2:T2.size<=1000002:=by rw [AJ];show(Dec.ztext q1.den).toArray.size<=_;simpa using hl2
 have hnd:(T2.toList== [49])=false:=by rw [AJ];exact ztext_ne1 (fun e=>hd (by omega))
 have hb1:¬ 9223372036854775807<=T1.size:=by omega
 have hb2:¬ 9223372036854775807 < T1.size+1:=by omega
 have hb3:¬ 9223372036854775807 < T1.size+1+T2.size:=by omega
 have AQ:=ζ AO;have AP:=ζ AJ;clear AO AJ hl1 hl2 hd;have B1:=ζ b1;clear b1;have hC:=ζ (((St.enter w).pq h1).al (w.heap.size) #[.int .i64 s1,.slice a1 n1 c1,.int .i64 t1,.slice d1 e1 f1] 50 rfl rfl);clear h1;go_enter Tryz.func71,Tryz.ntmps71;have AB:=hC.out.c 0 0;have AC:=hC.out.c 0 1;have AD:=hC.out.c 0 2;have AE:=hC.out.c 0 3;go_wp2_with fail
 refine(denN_b (hC.out.rq 0 rfl)).mono ?_;rintro e w3 ⟨s3,a3,n3,c3,rfl,hz,hb⟩;have AH:=ζ ((hC.out.call hb).pn hz);clear hb hz hC;clear AB AC AD AE;go_wp2_with fail
 refine(ztextN_is (AH.out.n 1 rfl) B1.out.den (by omega) (B:=T2) (by rw [AP.out])).mono ?_;rintro e w4 ⟨rfl,hb⟩;have AA:=ζ (St.pick (AH.out.call hb) [0] (rs':=[fun V=>Nq V s1 (.slice a1 n1 c1) t1 (.slice d1 e1 f1) q1]) rfl);clear hb AH;go_wp2;refine wp_gen AA.out ?_;intro W hc;clear AA;have AA:=ζ hc;clear hc;go_wp2;go_region_held3 (fun w'=>w'.cell? ⟨w.heap.size,0,none⟩=some (.int .i64 s1)/\w'.cell? ⟨w.heap.size,1,none⟩=some (.slice a1 n1 c1)/\w'.cell? ⟨w.heap.size,2,none⟩=some (.int .i64 t1)/\w'.cell? ⟨w.heap.size,3,none⟩=some (.slice d1 e1 f1)/\True)
  (first
   | (with_reducible refine aG w7 ?_;have Yx:=AI.out;exact qN22_0)
   | (with_reducible refine aG w6 ?_;have Yx:=AG.out;exact qN22_0)
   | (with_reducible refine aG w5 ?_;have Yx:=AF.out;exact qN22_0)
   | (with_reducible refine aG _ ?_;have Yx:=AA.out.drew;exact qN22_0)|fail)
  (first
   | (have _t:=AG;go_at_call 135;refine(ztextN_is (AG.out.n 1 rfl) B1.out.den (by omega) (B:=T2) (by rw [AP.out])).mono ?_;rintro e w7 ⟨rfl,hb⟩;have AI:=ζ ((AG.out.call hb));clear hb;clear _t AG)
   | (have _t:=AF;go_at_call 136;refine(denN_b (AF.out.rq 0 rfl)).mono ?_;rintro e w6 ⟨s6,a6,n6,c6,rfl,hz,hb⟩;have AG:=ζ ((AF.out.call hb).pn hz);clear hb hz;clear _t AF)
   | (have _t:=AA;go_at_call 135;refine(ztextN_is (AA.out.drew.rq 0 rfl).n B1.out.num (by omega) (B:=T1) (by rw [AQ.out])).mono ?_;rintro e w5 ⟨rfl,hb⟩;have AF:=ζ ((AA.out.drew.call hb));clear hb;clear _t AA)
   | fail)
 go_wp2;go_ret;exact⟨by rw [HT.out,<-ba_append,<-ba_append,<-AQ.out,<-AP.out];rfl,AI.out.be⟩
theorem rtextN_b {s1:Int} {a1:OA} {n1 c1:Nat} {t1:Int} {d1:OA} {e1 f1:Nat} {q1:Rat} {w:World} (h1:Nq w s1 (.slice a1 n1 c1) t1 (.slice d1 e1 f1) q1) {k1:Nat} (b1:Bq k1 q1) (hk1:k1<=40000):
  Calls Tryz.prog 71 #[.agg #[.int .i64 s1,.slice a1 n1 c1,.int .i64 t1,.slice d1 e1 f1]] w (fun e w'=>e= .returned (.string ⟨(rtext q1).toArray⟩)/\Below w.heap.size w w'):=by
 by_cases hd:q1.den=1
 ·exact rtextN_one _ _ _ _ _ _ _ _ _ _ h1 k1 b1 hk1 hd
 ·exact rtextN_more _ _ _ _ _ _ _ _ _ _ h1 k1 b1 hk1 hd
theorem rtextN_is {s1:Int} {a1:OA} {n1 c1:Nat} {t1:Int} {d1:OA} {e1 f1:Nat} {q1:Rat} {w:World} (h1:Nq w s1 (.slice a1 n1 c1) t1 (.slice d1 e1 f1) q1) {k1:Nat} (b1:Bq k1 q1) (hk1:k1<=40000) {B:ByteArray} (hB:rtext q1=B.data.toList):
  Calls Tryz.prog 71 #[.agg #[.int .i64 s1,.slice a1 n1 c1,.int .i64 t1,.slice d1 e1 f1]] w (fun e w'=>e= .returned (.string B)/\Below w.heap.size w w'):=by
 have:=rtextN_b h1 b1 hk1;rw [hB]at this;exact this
end
end Go.Proofs.YthmdhlopeponcaaGreatDoor

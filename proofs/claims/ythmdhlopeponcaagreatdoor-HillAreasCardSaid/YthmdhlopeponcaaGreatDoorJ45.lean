/- a part of the proof -/
import Derived.Test.YthmdhlopeponcaaGreatDoorJ0
import Derived.Test.YthmdhlopeponcaaGreatDoorJ26
import Derived.Test.YthmdhlopeponcaaGreatDoorJ21
import Derived.Test.YthmdhlopeponcaaGreatDoorJ24
import Derived.Test.YthmdhlopeponcaaGreatDoorJ15
import Derived.Test.YthmdhlopeponcaaGreatDoorJ38
import Derived.Test.YthmdhlopeponcaaGreatDoorJ16
import Derived.Test.YthmdhlopeponcaaGreatDoorJ40
import Derived.Test.YthmdhlopeponcaaGreatDoorJ20
set_option maxRecDepth 100000
set_option maxHeartbeats 8000000
namespace Go.Proofs.YthmdhlopeponcaaGreatDoor
open Go.RowKit Go.Shelf Dig
def RowZ (W:World) (a:OA) (n:Nat):Prop:=∀k,k < n->∃ (g:Nat) (a1:OA) (n1 c1:Nat) (m1:Bool) (d1:OA) (e1 f1:Nat),a=some ⟨g,0,none⟩/\g < W.heap.size/\
 W.cell? ⟨g,k*3,none⟩=some (.slice a1 n1 c1)/\W.cell? ⟨g,k*3+1,none⟩=some (.bool m1)/\W.cell? ⟨g,k*3+2,none⟩=some (.slice d1 e1 f1)/\Rd W (.slice a1 n1 c1) m1 (.slice d1 e1 f1) 0
theorem RowZ.mono {W V:World} {a:OA} {n:Nat} (h:RowZ W a n) (hb:Below W.heap.size W V):RowZ V a n:=fun k hk=>by
 obtain ⟨g,a1,n1,c1,m1,d1,e1,f1,h1,h2,h3,h4,h5,h6⟩:=h k hk
 exact⟨g,a1,n1,c1,m1,d1,e1,f1,h1,Nat.lt_of_lt_of_le h2 hb.size,(hb.cell (p:=⟨g,_,none⟩) h2).trans h3,(hb.cell (p:=⟨g,_,none⟩) h2).trans h4,(hb.cell (p:=⟨g,_,none⟩) h2).trans h5,h6.keep (Below.keeps hb)⟩
section
variable {w W:World} {bs:List (Nat×Array Value×TypeId)} {os:List Rw} {rs:List (World->Prop)}
theorem RowZ.of1 (h:Sy w W bs os rs) (i:Nat) {g:Nat} {ap:OA} {np cp:Nat} {mp:Bool} {dp:OA} {ep fp:Nat} (hi:os[i]? =some ⟨.slice (some ⟨g,0,none⟩) 1 1,42,3,1,[.slice ap np cp,.bool mp,.slice dp ep fp]⟩) (hp:Rd W (.slice ap np cp) mp (.slice dp ep fp) 0):RowZ W (some ⟨g,0,none⟩) 1:=fun k hk=>by
 have hg:g < W.heap.size:=(World.ownsRow.lt (h.orow i hi) g rfl).2
 obtain rfl:k=0:=by omega
 exact⟨g,_,_,_,_,_,_,_,rfl,hg,h.rcell i hi (k:=0) rfl,h.rcell i hi (k:=1) rfl,h.rcell i hi (k:=2) rfl,hp⟩
theorem RowZ.of3 (h:Sy w W bs os rs) (i:Nat) {g:Nat} {ap:OA} {np cp:Nat} {mp:Bool} {dp:OA} {ep fp:Nat} {aq:OA} {nq cq:Nat} {mq:Bool} {dq:OA} {eq fq:Nat} {ar:OA} {nr cr:Nat} {mr:Bool} {dr:OA} {er fr:Nat} (hi:os[i]? =some ⟨.slice (some ⟨g,0,none⟩) 3 3,42,3,3,[.slice ap np cp,.bool mp,.slice dp ep fp,.slice aq nq cq,.bool mq,.slice dq eq fq,.slice ar nr cr,.bool mr,.slice dr er fr]⟩) (hp:Rd W (.slice ap np cp) mp (.slice dp ep fp) 0) (hq:Rd W (.slice aq nq cq) mq (.slice dq eq fq) 0) (hr:Rd W (.slice ar nr cr) mr (.slice dr er fr) 0):RowZ W (some ⟨g,0,none⟩) 3:=fun k hk=>by
 have hg:g < W.heap.size:=(World.ownsRow.lt (h.orow i hi) g rfl).2
 by_cases k0:k=0
 ·subst k0
  exact⟨g,_,_,_,_,_,_,_,rfl,hg,h.rcell i hi (k:=0) rfl,h.rcell i hi (k:=1) rfl,h.rcell i hi (k:=2) rfl,hp⟩
 by_cases k1:k=1
 ·subst k1
  exact⟨g,_,_,_,_,_,_,_,rfl,hg,h.rcell i hi (k:=3) rfl,h.rcell i hi (k:=4) rfl,h.rcell i hi (k:=5) rfl,hq⟩
 obtain rfl:k=2:=by omega
 exact⟨g,_,_,_,_,_,_,_,rfl,hg,h.rcell i hi (k:=6) rfl,h.rcell i hi (k:=7) rfl,h.rcell i hi (k:=8) rfl,hr⟩
end
theorem sgnQ_z0:sgnQ (0:Rat)=0:=sgnQ_zero.2 rfl
theorem nil0_any (w:World) (a:OA) (n c:Nat) (h:RowZ w a n) (hn:n<=10):Calls Tryz.prog 28 #[.slice a n c] w (Gives (.bool true) w):=by
 have HZ:=ζ (fun V (hV:Below w.heap.size w V)=>h.mono hV)
 clear h
 have hC:=ζ (Sy.enter w)
 go_enter Tryz.func28,Tryz.ntmps28
 go_wp2
 go_loopw [3] (fun iv wr=>∃k:Nat,k<=n/\iv= .int .i64 k/\Hid (Sy w wr [] [] [])) (fun iv _=>n - (intOf iv).toNat)
 case atStart=>exact⟨0,Nat.zero_le _,rfl,hC⟩
 case round=>
  clear hC
  obtain ⟨k,hk,rfl,hS⟩:=hrel
  by_cases hlt:k < n
  ·obtain ⟨g,a1,n1,c1,m1,d1,e1,f1,rfl,hg,x0,x1,x2,hr⟩:=HZ.out _ hS.out.be k hlt
   have HR:=ζ hr
   have i0:(0:Int)<=(k:Int):=by omega
   have i1:(k:Int) < (n:Int):=by omega
   clear hg hr
   go_wp2_with fail
   refine(hsign_is HR.out sgnQ_z0).mono ?_
   rintro e W2 ⟨rfl,hb⟩
   have hE:=ζ (hS.out.call hb)
   clear hb hS x0 x1 x2
   go_wp2
   go_roundw
   case rel=>exact⟨k+1,by omega,by go_num,hE⟩
   case measure=>simp [intOf];omega
  ·obtain rfl:k=n:=by omega
   go_wp2
   go_ret
   exact⟨rfl,hS.out.be⟩
section
open Dig
theorem dch_ne {n:Nat} (h:0 < n) (h2:n < 10):(Dec.dch n==48)=false:=by
 have:Dec.dch n≠48:=fun e=>by have:=(Dec.dch_zero_iff n).1 e;omega
 simpa using this
theorem pad_dec {j N:Nat} (h:N < 10 ^ (j+1)) (h2:0 < N / 10 ^ j):Dec.pad (j+1) N=Dec.dec N:=by
 have h9:N / 10 ^ j < 10:=by
  rw [Nat.div_lt_iff_lt_mul (Nat.pow_pos (by omega)),Nat.mul_comm,<-Nat.pow_succ]
  exact h
 have hN:N≠0:=fun e=>by subst e;simp at h2
 have h3:=Dec.drop0_pad h
 rw [if_neg hN]at h3
 rw [<-h3,pad_succ]
 unfold Dec.drop0
 rw [List.dropWhile_cons,if_neg (by rw [dch_ne h2 h9];simp)]
theorem group_digit {N i k x:Nat} (hx:x=N / 10000 ^ i % 10000) (hk:k < 4):Dec.dch (x / 10 ^ k)=Dec.dch (N / 10 ^ (4*i+k)):=by
 have e:(10:Nat) ^ (4*i+k)=10000 ^ i*10 ^ k:=by rw [Nat.pow_add,Nat.pow_mul]
 rw [e,<-Nat.div_div_eq_div_mul,hx,<-Dec.dch_mod,<-Dec.dch_mod (N / 10000 ^ i / 10 ^ k)]
 congr 1
 generalize N / 10000 ^ i=m
 rcases(show k=0\/k=1\/k=2\/k=3 by omega)with h | h | h | h<;>subst h<;>omega
theorem group_last {N n i x:Nat} (hx:x=N / 10000 ^ i % 10000) (hn:N < 10000 ^ n) (hi:i+1=n):x=N / 10000 ^ i:=by
 rw [hx]
 apply Nat.mod_eq_of_lt
 rw [Nat.div_lt_iff_lt_mul (Nat.pow_pos (by omega)),<-Nat.pow_succ',<-Nat.add_one,hi]
 exact hn
theorem dg_get {b:Nat} (hb:2<=b):∀ (N i:Nat) (h:i < (dg b N).length),(dg b N)[i]=((N / b ^ i % b:Nat):Int)
 | N,i,h=>by
   have hN:0 < N:=by
    rcases Nat.eq_zero_or_pos N with e | e
    ·subst e;rw [dg_zero]at h;simp at h
    ·exact e
   cases i with
   | zero=>simp only [dg_pos hb hN,List.getElem_cons_zero,Nat.pow_zero,Nat.div_one]
   | succ i=>
     have h':i < (dg b (N / b)).length:=by rw [dg_pos hb hN]at h;simpa using h
     have ih:=dg_get hb (N / b) i h'
     simp only [dg_pos hb hN,List.getElem_cons_succ]
     rw [ih,Nat.div_div_eq_div_mul,<-Nat.pow_succ']
end
section
open Go.RowKit Dig
theorem conv_dig (w:World):∀ (d:Nat),d < 10->(convert 21 9 (.int .i32 ((48:Int)+(d:Int)))).run Tryz.prog w= .ok (.string ⟨#[Dec.dch d]⟩) w:=by
 intro d hd
 rcases(show d=0\/d=1\/d=2\/d=3\/d=4\/d=5\/d=6\/d=7\/d=8\/d=9 by omega)with rfl | rfl | rfl | rfl | rfl | rfl | rfl | rfl | rfl | rfl<;>kernel_rfl
theorem ba_cons (c:UInt8) (l:List UInt8):(⟨#[c]⟩:ByteArray)++⟨l.toArray⟩=⟨(c::l).toArray⟩:=by
 apply ByteArray.ext;simp [ByteArray.data_append]
theorem ztextN_zero (s1:Int) (a1:OA) (n1 c1:Nat) (z1:Int) (w:World) (h1:Nz w s1 (.slice a1 n1 c1) z1) (h0:z1=0):
  Calls Tryz.prog 135 #[.agg #[.int .i64 s1,.slice a1 n1 c1]] w (fun e w'=>e= .returned (.string ⟨#[48]⟩)/\Below w.heap.size w w'):=by
 obtain rfl:s1=0:=h1.s0.2.2 h0
 have hC:=ζ ((St.enter w).al w.heap.size #[.int .i64 0,.slice a1 n1 c1] 48 rfl rfl)
 clear h1 h0
 go_enter Tryz.func135,Tryz.ntmps135
 go_wp2
 go_ret
 exact⟨rfl,hC.out.be⟩
theorem ztextN_nz (s1:Int) (a1:OA) (n1 c1:Nat) (z1:Int) (w:World) (h1:Nz w s1 (.slice a1 n1 c1) z1) (h0:z1≠0) (k1:Nat) (b1:Bd k1 z1) (hk1:k1<=400000):
  Calls Tryz.prog 135 #[.agg #[.int .i64 s1,.slice a1 n1 c1]] w (fun e w'=>e= .returned (.string ⟨(Dec.ztext z1).toArray⟩)/\Below w.heap.size w w'):=by
 have hs0:=h1.s0
 have d0:(s1==0)=false:=by
  have:s1≠0:=fun e=>h0 (hs0.2.1 e)
  simpa using this
 have HS:=ζ hs0.1
 have hN0:0 < z1.natAbs:=by omega
 have hn:=h1.g.len
 have hxl:=b1.lenN (show k1<=500000 by omega)
 have HNE:=ζ (show dg 10000 z1.natAbs≠ []from fun e=>by have:=(dg_nil_iff (b:=10000) (by omega)).1 e;omega)
 have HGE:=ζ (fun i h=>dg_get (b:=10000) (by omega) z1.natAbs i h)
 have HLT:=ζ (dg_len_lt (b:=10000) (by omega) z1.natAbs)
 have HLG:=ζ (Dig.dg_len_ge (b:=10000) (by omega) z1.natAbs hN0)
 have HG1:=h1.g
 have HZT:=ζ (show Dec.ztext z1=if z1 < 0 then 45::Dec.dec z1.natAbs else Dec.dec z1.natAbs from rfl)
 clear h1 hs0 h0 b1
 generalize dg 10000 z1.natAbs=xs at*
 obtain ⟨N,hNN⟩:∃N:Nat,N=z1.natAbs:=⟨_,rfl⟩
 rw [<-hNN]at HGE HLT HLG HZT hN0
 clear hNN
 obtain rfl:xs.length=n1:=hn.symm
 have hx0:0 < xs.length:=List.length_pos_iff.2 HNE.out
 have hC:=ζ (((St.enter w).pl HG1).al w.heap.size #[.int .i64 s1,.slice a1 xs.length c1] 48 rfl rfl)
 clear HG1 hn
 go_enter Tryz.func135,Tryz.ntmps135
 go_wp2_with fail
 go_loopw [3,4] (fun ov iv wr=>∃ (i:Nat) (B:ByteArray),iv= .int .i64 (i:Int)/\ov= .string B/\i<=xs.length/\Hid (i < xs.length->B=⟨(Dec.pad (4*i) N).toArray⟩)/\Hid (i=xs.length->B=⟨(Dec.dec N).toArray⟩)/\B.size<=4*i/\
  Hid (St w wr [(w.heap.size,#[.int .i64 s1,.slice a1 xs.length c1],48)] [fun V=>Sl 3 V (.slice a1 xs.length c1) xs])) (fun _ iv _=>xs.length - (intOf iv).toNat)
 case atStart=>exact⟨0,⟨#[]⟩,rfl,rfl,Nat.zero_le _,fun _=>rfl,fun e=>by omega,Nat.le_refl _,hC⟩
 case round=>
  clear hC
  obtain ⟨i,B,rfl,rfl,hi,HB1,HB2,hBs,hC⟩:=hrel
  have x01:=hC.out.c 0 1
  by_cases hlt:i < xs.length
  ·obtain ⟨g1,rfl,hg1⟩:=(hC.out.l 0 rfl).row (by omega)
   have cx:=(hC.out.l 0 rfl).cell (k:=i) hlt
   have HBV:=ζ (HB1.out hlt)
   obtain ⟨X,hX⟩:∃X:Nat,X=N / 10000 ^ i % 10000:=⟨_,rfl⟩
   have hXe:xs[i]=(X:Int):=by rw [hX];exact HGE.out i hlt
   rw [hXe]at cx
   have hX4:X < 10000:=by rw [hX];exact Nat.mod_lt _ (by omega)
   have HX:=ζ hX
   have i1:(0:Int)<=(i:Int):=by omega
   have i2:(i:Int) < (xs.length:Int):=by omega
   have HLAST:=ζ (show i+1=xs.length->0 < X from fun e=>by
    have h1:=group_last hX HLT.out e
    rw [h1]
    have h2:=HLG.out
    rw [show xs.length - 1=i by omega]at h2
    exact Nat.div_pos h2 (Nat.pow_pos (by omega)))
   clear hX hXe HB1 HB2
   go_wp2_with fail
   obtain ⟨wo,hwo⟩:∃wo:World,wo=wr:=⟨_,rfl⟩
   go_loopw [3,5,6] (fun ov xv kv wi=>∃ (k m:Nat) (B':ByteArray),ov= .string B'/\xv= .int .i64 (m:Int)/\kv= .int .i64 (k:Int)/\k<=4/\m < 10000/\Hid (m=X / 10 ^ k)/\Hid (B'=⟨(Dec.pad (4*i+k) N).toArray⟩)/\B'.size<=4*i+k/\
    Hid (i+1=xs.length->1<=k->0 < N / 10 ^ (4*i+k - 1))/\Hid (St w wi [(w.heap.size,#[.int .i64 s1,.slice (some ⟨g1,0,none⟩) xs.length c1],48)] [fun V=>Sl 3 V (.slice (some ⟨g1,0,none⟩) xs.length c1) xs])) (fun _ _ kv _=>(4 - intOf kv).toNat)
   case atStart=>exact⟨0,X,B,rfl,rfl,rfl,by omega,hX4,by simp [Hid],HBV,hBs,fun _ h=>by omega,hC⟩
   case round=>
    clear hC x01 cx
    obtain ⟨k,m,B',rfl,rfl,rfl,hk,hm4,HM,HBV',hBs',HL,hC⟩:=hrel
    have x01:=hC.out.c 0 1
    have hsz:¬ 9223372036854775807 < 1+B'.size:=by omega
    have HND:=ζ (show i+1=xs.length->N / 10 ^ (4*i+k)=m from fun e=>by
     have e2:(10:Nat) ^ (4*i+k)=10000 ^ i*10 ^ k:=by rw [Nat.pow_add,Nat.pow_mul]
     rw [e2,<-Nat.div_div_eq_div_mul,<-group_last HX.out HLT.out e,HM.out])
    by_cases hk4:k < 4
    ·have hk4':(k:Int) < 4:=by omega
     have HNX:=ζ (show(⟨#[Dec.dch (m % 10)]⟩:ByteArray)++B'=⟨(Dec.pad (4*i+(k+1)) N).toArray⟩by
      rw [HBV'.out,ba_cons,Dec.dch_mod,HM.out,group_digit HX.out hk4,<-Nat.add_assoc,pad_succ])
     obtain ⟨d,hd⟩:∃d:Nat,d=m % 10:=⟨_,rfl⟩
     have hd10:d < 10:=by omega
     obtain ⟨q,hq⟩:∃q:Nat,q=m / 10:=⟨_,rfl⟩
     have HQ:=ζ (show q=X / 10 ^ (k+1)by rw [hq,HM.out,Nat.div_div_eq_div_mul,<-Nat.pow_succ])
     have hq4:q < 10000:=by omega
     rw [<-hd]at HNX
     have hr1:(m:Int) % 10=(d:Int):=by omega
     have hr2:(m:Int).tmod 10=(d:Int):=by rw [Int.tmod_eq_emod_of_nonneg (by omega)];exact hr1
     have hr3:(m:Int) / 10=(q:Int):=by omega
     have hr4:(m:Int).tdiv 10=(q:Int):=by rw [Int.tdiv_eq_ediv_of_nonneg (by omega)];exact hr3
     have hds:(⟨#[Dec.dch d]⟩:ByteArray).size=1:=rfl
     have HSZ:=ζ (show((⟨#[Dec.dch d]⟩:ByteArray)++B').size<=4*i+(k+1)by rw [ByteArray.size_append,hds];omega)
     by_cases hm0:0 < m
     ·have hm0':(0:Int) < (m:Int):=by omega
      have HL2:=ζ (show i+1=xs.length->1<=k+1->0 < N / 10 ^ (4*i+(k+1) - 1)from fun e _=>by
       rw [show 4*i+(k+1) - 1=4*i+k by omega,HND.out e];exact hm0)
      clear hd hq
      have kc:=fun(w:World)=>conv_dig w d hd10
      go_wp2
      go_roundw
      case rel=>exact⟨k+1,q,_,rfl,rfl,by go_num,by omega,hq4,HQ,HNX,HSZ.out,HL2,hC⟩
      case measure=>simp [intOf];omega
     ·have m0:m=0:=by omega
      by_cases hlast:i+1 < xs.length
      ·have hl':(i:Int) < (xs.length:Int) - 1:=by omega
       have hm0':¬ (0:Int) < (m:Int):=by omega
       have HL2:=ζ (show i+1=xs.length->1<=k+1->0 < N / 10 ^ (4*i+(k+1) - 1)from fun e _=>by omega)
       have d00:d=0:=by omega
       have q00:q=0:=by omega
       subst d00 q00 m0
       have HE:=ζ (show Utf8.encode 48=⟨#[Dec.dch 0]⟩by kernel_rfl)
       have HNX0:=ζ (show Utf8.encode 48++B'=⟨(Dec.pad (4*i+(k+1)) N).toArray⟩by rw [HE.out];exact HNX.out)
       have HSZ0:=ζ (show(Utf8.encode 48++B').size<=4*i+(k+1)by rw [HE.out];exact HSZ.out)
       have hsz0:¬ 9223372036854775807 < (Utf8.encode 48).size+B'.size:=by rw [HE.out];exact hsz
       clear hd hq hm0 hr1 hr2 hr3 hr4 hds HNX HSZ hm0'
       go_wp2
       go_roundw
       case rel=>exact⟨k+1,0,_,rfl,rfl,by go_num,by omega,by omega,HQ,HNX0,HSZ0.out,HL2,hC⟩
       case measure=>simp [intOf];omega
      ·have hl':¬ (i:Int) < (xs.length:Int) - 1:=by omega
       have hm0':¬ (0:Int) < (m:Int):=by omega
       have he:i+1=xs.length:=by omega
       have HFIN:=ζ (show B'=⟨(Dec.dec N).toArray⟩by
        have hk1:1<=k:=by
         rcases Nat.eq_zero_or_pos k with e | e
         ·subst e
          have h1:=HM.out
          rw [Nat.pow_zero,Nat.div_one]at h1
          have h2:=HLAST.out he
          omega
         ·exact e
        obtain ⟨j,rfl⟩:∃j,k=j+1:=⟨k - 1,by omega⟩
        have h3:=HND.out he
        have h4:=HL.out he hk1
        rw [m0]at h3
        rw [HBV'.out,<-Nat.add_assoc,show Dec.pad (4*i+j+1) N=Dec.dec N from pad_dec (j:=4*i+j) (by
         rw [Nat.div_eq_zero_iff]at h3
         rcases h3 with h3 | h3
         ·exact absurd h3 (Nat.ne_of_gt (Nat.pow_pos (by omega)))
         ·exact h3) h4])
       clear hd hq m0 hm0 hr1 hr2 hr3 hr4 hds
       go_wp2
       go_roundw
       case rel=>exact⟨i+1,B',by go_num,rfl,by omega,fun h=>by omega,fun _=>HFIN.out,by omega,hC⟩
       case measure=>simp [intOf];omega
    ·obtain rfl:k=4:=by omega
     have HB1:=ζ (show i+1 < xs.length->B'=⟨(Dec.pad (4*(i+1)) N).toArray⟩from fun _=>HBV'.out)
     have HB2:=ζ (show i+1=xs.length->B'=⟨(Dec.dec N).toArray⟩from fun e=>by
      rw [HBV'.out,show Dec.pad (4*i+4) N=Dec.dec N from pad_dec (j:=4*i+3) (by
       have h1:=HLT.out
       rw [<-e]at h1
       refine Nat.lt_of_lt_of_le h1 ?_
       rw [show(10000:Nat)=10 ^ 4 from rfl,<-Nat.pow_mul]
       exact Nat.pow_le_pow_right (by omega) (by omega)) (HL.out e (by omega))])
     have hk4':¬ ((4:Nat):Int) < 4:=by omega
     go_wp2
     go_roundw
     case rel=>exact⟨i+1,B',by go_num,rfl,by omega,HB1.out,HB2.out,by omega,hC⟩
     case measure=>simp [intOf];omega
  ·obtain rfl:i=xs.length:=by omega
   have HV:=ζ (HB2.out rfl)
   have x00:=hC.out.c 0 0
   have hsz:¬ 9223372036854775807 < 1+B.size:=by omega
   clear HB1 HB2 hlt hi
   by_cases hz:z1 < 0
   ·have d1:decide (s1 < 0)=true:=by simpa using HS.out.2 hz
    have HZ:=ζ (show(⟨#[45]⟩:ByteArray)++B=⟨(Dec.ztext z1).toArray⟩by rw [HV.out,HZT.out,if_pos hz,ba_cons])
    clear hz
    go_wp2
    go_ret
    exact⟨ret_str HZ.out,hC.out.be⟩
   ·have d1:decide (s1 < 0)=false:=by have:=fun h=>hz (HS.out.1 h);simpa using this
    have HZ:=ζ (show B=⟨(Dec.ztext z1).toArray⟩by rw [HV.out,HZT.out,if_neg hz])
    clear hz
    go_wp2
    go_ret
    exact⟨ret_str HZ.out,hC.out.be⟩
theorem ztextN_any {s1:Int} {a1:OA} {n1 c1:Nat} {z1:Int} {w:World} (h1:Nz w s1 (.slice a1 n1 c1) z1) {k1:Nat} (b1:Bd k1 z1) (hk1:k1<=400000):
  Calls Tryz.prog 135 #[.agg #[.int .i64 s1,.slice a1 n1 c1]] w (fun e w'=>e= .returned (.string ⟨(Dec.ztext z1).toArray⟩)/\Below w.heap.size w w'):=by
 by_cases h0:z1=0
 ·refine(ztextN_zero s1 a1 n1 c1 z1 w h1 h0).mono ?_
  rintro e w' ⟨rfl,hb⟩
  refine⟨?_,hb⟩
  have e:(⟨#[48]⟩:ByteArray)=⟨(Dec.ztext 0).toArray⟩:=by kernel_rfl
  rw [h0,e]
 ·exact ztextN_nz s1 a1 n1 c1 z1 w h1 h0 k1 b1 hk1
theorem qN22_0 {P_ : Prop} (h : P_ := by exact ⟨Yx.c 0 0,Yx.c 0 1,Yx.c 0 2,Yx.c 0 3,trivial⟩) : P_ := h
theorem ztextN_is {s1:Int} {a1:OA} {n1 c1:Nat} {z1:Int} {w:World} (h1:Nz w s1 (.slice a1 n1 c1) z1) {k1:Nat} (b1:Bd k1 z1) (hk1:k1<=400000) {B:ByteArray} (hB:Dec.ztext z1=B.data.toList):
  Calls Tryz.prog 135 #[.agg #[.int .i64 s1,.slice a1 n1 c1]] w (fun e w'=>e= .returned (.string B)/\Below w.heap.size w w'):=by
 have:=ztextN_any h1 b1 hk1
 rw [hB]at this
 exact this
theorem ztext_ne1 {z:Int} (h:z≠1):((⟨(Dec.ztext z).toArray⟩:ByteArray).toList== [49])=false:=by
 rw [Go.ByteArray.toList_mk]
 have h3: [49]=Dec.ztext 1:=by kernel_rfl
 exact beq_eq_false_iff_ne.2 (fun e=>h (Dec.ztext_inj (e.trans h3)))
theorem rtextN_one (s1:Int) (a1:OA) (n1 c1:Nat) (t1:Int) (d1:OA) (e1 f1:Nat) (q1:Rat) (w:World) (h1:Nq w s1 (.slice a1 n1 c1) t1 (.slice d1 e1 f1) q1) (k1:Nat) (b1:Bq k1 q1) (hk1:k1<=40000) (hd:q1.den=1):
  Calls Tryz.prog 71 #[.agg #[.int .i64 s1,.slice a1 n1 c1,.int .i64 t1,.slice d1 e1 f1]] w (fun e w'=>e= .returned (.string ⟨(rtext q1).toArray⟩)/\Below w.heap.size w w'):=by
 have HD:=ζ hd
 have HT:=ζ (show rtext q1=Dec.ztext q1.num from if_pos hd)
 clear hd
 have B1:=ζ b1
 clear b1
 have hC:=ζ (((St.enter w).pq h1).al (w.heap.size) #[.int .i64 s1,.slice a1 n1 c1,.int .i64 t1,.slice d1 e1 f1] 50 rfl rfl)
 clear h1
 go_enter Tryz.func71,Tryz.ntmps71
 have AA:=hC.out.c 0 0
 have AB:=hC.out.c 0 1
 have AC:=hC.out.c 0 2
 have AD:=hC.out.c 0 3
 go_wp2_with fail
 refine(denN_b (hC.out.rq 0 rfl)).mono ?_
 rintro e w3 ⟨s3,a3,n3,c3,rfl,hz,hb⟩
 have hC3:=ζ ((hC.out.call hb).pn hz)
 clear hb hz hC
 clear AA AB AC AD
 go_wp2_with fail
 refine(ztextN_is (hC3.out.n 1 rfl) B1.out.den (by omega) (B:=⟨#[49]⟩) (by rw [HD.out];kernel_rfl)).mono ?_
 rintro e w4 ⟨rfl,hb⟩
 have hC4:=ζ (hC3.out.call hb)
 clear hb hC3
 have AE:=hC4.out.c 0 0
 have AF:=hC4.out.c 0 1
 have AG:=hC4.out.c 0 2
 have AH:=hC4.out.c 0 3
 go_wp2_with fail
 refine(ztextN_any (hC4.out.rq 0 rfl).n B1.out.num (by omega)).mono ?_
 rintro e w5 ⟨rfl,hb⟩
 have hC5:=ζ (hC4.out.call hb)
 clear hb hC4
 go_wp2
 go_ret
 exact⟨ret_str (by rw [HT.out]),hC5.out.be⟩
theorem rtextN_more (s1:Int) (a1:OA) (n1 c1:Nat) (t1:Int) (d1:OA) (e1 f1:Nat) (q1:Rat) (w:World) (h1:Nq w s1 (.slice a1 n1 c1) t1 (.slice d1 e1 f1) q1) (k1:Nat) (b1:Bq k1 q1) (hk1:k1<=40000) (hd:q1.den≠1):
  Calls Tryz.prog 71 #[.agg #[.int .i64 s1,.slice a1 n1 c1,.int .i64 t1,.slice d1 e1 f1]] w (fun e w'=>e= .returned (.string ⟨(rtext q1).toArray⟩)/\Below w.heap.size w w'):=by
 have hl1:=ztext_len b1.num (by omega)
 have hl2:=ztext_len b1.den (by omega)
 have HT:=ζ (show rtext q1=Dec.ztext q1.num++ [47]++Dec.ztext q1.den from if_neg hd)
 obtain ⟨T1,hT1⟩:∃T:ByteArray,T=⟨(Dec.ztext q1.num).toArray⟩:=⟨_,rfl⟩
 obtain ⟨T2,hT2⟩:∃T:ByteArray,T=⟨(Dec.ztext q1.den).toArray⟩:=⟨_,rfl⟩
 have hs1:T1.size<=1000002:=by rw [hT1];show(Dec.ztext q1.num).toArray.size<=_;simpa using hl1
 have hs2:T2.size<=1000002:=by rw [hT2];show(Dec.ztext q1.den).toArray.size<=_;simpa using hl2
 have hnd:(T2.toList== [49])=false:=by rw [hT2];exact ztext_ne1 (fun e=>hd (by omega))
 have hb1:¬ 9223372036854775807<=T1.size:=by omega
 have hb2:¬ 9223372036854775807 < T1.size+1:=by omega
 have hb3:¬ 9223372036854775807 < T1.size+1+T2.size:=by omega
 have HT1:=ζ hT1
 have HT2:=ζ hT2
 clear hT1 hT2 hl1 hl2 hd
 have B1:=ζ b1
 clear b1
 have hC:=ζ (((St.enter w).pq h1).al (w.heap.size) #[.int .i64 s1,.slice a1 n1 c1,.int .i64 t1,.slice d1 e1 f1] 50 rfl rfl)
 clear h1
 go_enter Tryz.func71,Tryz.ntmps71
 have AA:=hC.out.c 0 0
 have AB:=hC.out.c 0 1
 have AC:=hC.out.c 0 2
 have AD:=hC.out.c 0 3
 go_wp2_with fail
 refine(denN_b (hC.out.rq 0 rfl)).mono ?_
 rintro e w3 ⟨s3,a3,n3,c3,rfl,hz,hb⟩
 have hC3:=ζ ((hC.out.call hb).pn hz)
 clear hb hz hC
 clear AA AB AC AD
 go_wp2_with fail
 refine(ztextN_is (hC3.out.n 1 rfl) B1.out.den (by omega) (B:=T2) (by rw [HT2.out])).mono ?_
 rintro e w4 ⟨rfl,hb⟩
 have hC4:=ζ (St.pick (hC3.out.call hb) [0] (rs':=[fun V=>Nq V s1 (.slice a1 n1 c1) t1 (.slice d1 e1 f1) q1]) rfl)
 clear hb hC3
 go_wp2
 refine wp_gen hC4.out ?_
 intro W hc
 clear hC4
 have hC4:=ζ hc
 clear hc
 go_wp2
 go_region_held3 (fun w'=>w'.cell? ⟨w.heap.size,0,none⟩=some (.int .i64 s1)/\w'.cell? ⟨w.heap.size,1,none⟩=some (.slice a1 n1 c1)/\w'.cell? ⟨w.heap.size,2,none⟩=some (.int .i64 t1)/\w'.cell? ⟨w.heap.size,3,none⟩=some (.slice d1 e1 f1)/\True)
  (first
   | (with_reducible refine aG w7 ?_;have Yx:=hC7.out;exact qN22_0)
   | (with_reducible refine aG w6 ?_;have Yx:=hC6.out;exact qN22_0)
   | (with_reducible refine aG w5 ?_;have Yx:=hC5.out;exact qN22_0)
   | (with_reducible refine aG _ ?_;have Yx:=hC4.out.drew;exact qN22_0)|fail)
  (first
   | (have _t:=hC6;go_at_call 135;refine(ztextN_is (hC6.out.n 1 rfl) B1.out.den (by omega) (B:=T2) (by rw [HT2.out])).mono ?_;rintro e w7 ⟨rfl,hb⟩;have hC7:=ζ ((hC6.out.call hb));clear hb;clear _t hC6)
   | (have _t:=hC5;go_at_call 136;refine(denN_b (hC5.out.rq 0 rfl)).mono ?_;rintro e w6 ⟨s6,a6,n6,c6,rfl,hz,hb⟩;have hC6:=ζ ((hC5.out.call hb).pn hz);clear hb hz;clear _t hC5)
   | (have _t:=hC4;go_at_call 135;refine(ztextN_is (hC4.out.drew.rq 0 rfl).n B1.out.num (by omega) (B:=T1) (by rw [HT1.out])).mono ?_;rintro e w5 ⟨rfl,hb⟩;have hC5:=ζ ((hC4.out.drew.call hb));clear hb;clear _t hC4)
   | fail)
 go_wp2
 go_ret
 exact⟨by rw [HT.out,<-ba_append,<-ba_append,<-HT1.out,<-HT2.out];rfl,hC7.out.be⟩
theorem rtextN_b {s1:Int} {a1:OA} {n1 c1:Nat} {t1:Int} {d1:OA} {e1 f1:Nat} {q1:Rat} {w:World} (h1:Nq w s1 (.slice a1 n1 c1) t1 (.slice d1 e1 f1) q1) {k1:Nat} (b1:Bq k1 q1) (hk1:k1<=40000):
  Calls Tryz.prog 71 #[.agg #[.int .i64 s1,.slice a1 n1 c1,.int .i64 t1,.slice d1 e1 f1]] w (fun e w'=>e= .returned (.string ⟨(rtext q1).toArray⟩)/\Below w.heap.size w w'):=by
 by_cases hd:q1.den=1
 ·exact rtextN_one _ _ _ _ _ _ _ _ _ _ h1 k1 b1 hk1 hd
 ·exact rtextN_more _ _ _ _ _ _ _ _ _ _ h1 k1 b1 hk1 hd
theorem rtextN_is {s1:Int} {a1:OA} {n1 c1:Nat} {t1:Int} {d1:OA} {e1 f1:Nat} {q1:Rat} {w:World} (h1:Nq w s1 (.slice a1 n1 c1) t1 (.slice d1 e1 f1) q1) {k1:Nat} (b1:Bq k1 q1) (hk1:k1<=40000) {B:ByteArray} (hB:rtext q1=B.data.toList):
  Calls Tryz.prog 71 #[.agg #[.int .i64 s1,.slice a1 n1 c1,.int .i64 t1,.slice d1 e1 f1]] w (fun e w'=>e= .returned (.string B)/\Below w.heap.size w w'):=by
 have:=rtextN_b h1 b1 hk1
 rw [hB]at this
 exact this
end
end Go.Proofs.YthmdhlopeponcaaGreatDoor

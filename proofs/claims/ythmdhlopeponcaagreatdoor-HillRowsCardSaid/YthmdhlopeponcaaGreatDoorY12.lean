/- the reference's Levels, least, greatest, Many, Rows -/
import Derived.Test.YthmdhlopeponcaaGreatDoorV1
import Derived.Test.YthmdhlopeponcaaGreatDoorL22
import Derived.Test.YthmdhlopeponcaaGreatDoorV29
import Derived.Test.YthmdhlopeponcaaGreatDoorV30
namespace Go.Proofs.YthmdhlopeponcaaGreatDoor
open Go.RowKit Go.Shelf Dig
theorem fold_min {F:List Int} {k:Nat} (hk:k < F.length):min (minL (F.take (max k 1))) F[k]=minL (F.take (max (k+1) 1)):=by
 rcases Nat.eq_zero_or_pos k with e | e
 ·subst e
  cases F with
  | nil=>simp at hk
  | cons a t=>simp [minL]
 ·rw [show max k 1=k by omega,show max (k+1) 1=k+1 by omega,minL_take e hk]
theorem fold_max {F:List Int} {k:Nat} (hk:k < F.length):max (maxL (F.take (max k 1))) F[k]=maxL (F.take (max (k+1) 1)):=by
 rcases Nat.eq_zero_or_pos k with e | e
 ·subst e
  cases F with
  | nil=>simp at hk
  | cons a t=>simp [maxL]
 ·rw [show max k 1=k by omega,show max (k+1) 1=k+1 by omega,maxL_take e hk]
theorem wrongB_end {n:Nat} {zs:List Int} (h:∀i (hi:i < zs.length),inB zs[i] (-200000) 200000=true):wrongB n zs=decide (zs.length≠n):=by
 unfold wrongB
 rw [show zs.any (fun z=> !inB z (-200000) 200000)=false from List.any_eq_false.2 fun z hz=>by
  obtain ⟨i,hi,rfl⟩:=List.getElem_of_mem hz
  rw [h i hi];simp,Bool.or_false]
theorem wrongB_at {n:Nat} {zs:List Int} {k:Nat} (hk:k < zs.length) (h:inB zs[k] (-200000) 200000=false):wrongB n zs=true:=by
 unfold wrongB
 rw [show zs.any (fun z=> !inB z (-200000) 200000)=true from List.any_eq_true.2 ⟨_,List.getElem_mem hk,by rw [h];rfl⟩,Bool.or_true]
theorem und_RRows:Tryz.prog.underlying 63=some (.slice 70):=Tryz.underlying63
theorem info_RRow:(Tryz.prog.info? 70).map (fun i=>(i.zero,i.size,i.bytes))=some (some (.agg #[.int .i64 0,.int .i64 0,.slice none 0 0]),3,40):=by kernel_rfl
theorem und_RBays:Tryz.prog.underlying 68=some (.slice 73):=Tryz.underlying68
theorem info_RBay:(Tryz.prog.info? 73).map (fun i=>(i.zero,i.size,i.bytes))=some (some (.agg #[.int .i64 0,.int .i64 0]),2,16):=by kernel_rfl
def RetRo (w:World) (rows:List (Int×Int×List (Int×Int))) (e:Ending) (w':World):Prop:=
 ∃ (a:Option Addr) (c:Nat) (T:List Rwx),Hid (T.map nR=rows)∧e= .returned (.slice a T.length c)∧Hid (Sx 3 w' a T.length c (LRw T)∧∀t∈T,Sx 2 w' t.ba t.bays.length t.bc (L2 t.bays))∧Below w.heap.size w w'
section
variable (w:World)
set_option maxHeartbeats 2000000 in
set_option maxRecDepth 100000 in
theorem rleast_any (a:Option Addr) (n c:Nat) (l:List Int) (hs:Sx 1 w a n c (L1 l)) (h0:0 < n) (hl:n≤1000000):Calls Tryz.prog 86 #[.slice a n c] w (Gives (.int .i64 (minL l)) w):=by
 obtain rfl:=hs.n1
 have HS:=ζ hs
 have HT:=ζ (fun k (hk:k < l.length)=>fold_min (F:=l) hk)
 have H0:=ζ (show minL (l.take (max 0 1))=l[0]by cases l with | nil=>simp at h0 | cons a r=>rfl)
 have HE:=ζ (show minL (l.take (max l.length 1))=minL l by rw [show max l.length 1=l.length by omega,List.take_length])
 obtain ⟨g,o,rfl⟩:=hs.addr h0
 have y0:=hs.at1 h0
 rw [Nat.add_zero]at y0
 clear hs
 generalize l[0]=z at*
 generalize minL l=r at*
 have i1:(0:Int) < (l.length:Int):=by omega
 go_enter Tryz.func86,Tryz.ntmps86
 go_wp2
 go_loopw [3,4] (fun mv iv wr=>∃k:Nat,k≤l.length∧iv= .int .i64 k∧mv= .int .i64 (minL (l.take (max k 1)))∧Hid (Below w.heap.size w wr)) (fun _ iv _=>l.length - (intOf iv).toNat)
 case atStart=>exact⟨0,by omega,rfl,by rw [H0.out],ζ (Below.refl _ _)⟩
 case round=>
  clear y0
  obtain ⟨k,hk,rfl,rfl,hB⟩:=hrel
  by_cases hlt:k < l.length
  ·have y0:=(HS.out.below hB.out).at1 hlt
   have HTK:=ζ (HT.out k hlt)
   have i0:(0:Int)≤(k:Int):=by omega
   have i1:(k:Int) < (l.length:Int):=by omega
   generalize l[k]=y at*
   generalize minL (l.take (max k 1))=m at*
   go_wp2
   go_roundw
   case rel=>exact⟨k+1,by omega,by go_num,(by rw [←HTK.out];try go_num),hB⟩
   case measure=>simp [intOf];omega
  ·obtain rfl:k=l.length:=by omega
   go_wp2
   go_ret
   exact⟨ret_int HE.out,hB.out⟩
set_option maxHeartbeats 2000000 in
set_option maxRecDepth 100000 in
theorem rgreatest_any (a:Option Addr) (n c:Nat) (l:List Int) (hs:Sx 1 w a n c (L1 l)) (h0:0 < n) (hl:n≤1000000):Calls Tryz.prog 85 #[.slice a n c] w (Gives (.int .i64 (maxL l)) w):=by
 obtain rfl:=hs.n1
 have HS:=ζ hs
 have HT:=ζ (fun k (hk:k < l.length)=>fold_max (F:=l) hk)
 have H0:=ζ (show maxL (l.take (max 0 1))=l[0]by cases l with | nil=>simp at h0 | cons a r=>rfl)
 have HE:=ζ (show maxL (l.take (max l.length 1))=maxL l by rw [show max l.length 1=l.length by omega,List.take_length])
 obtain ⟨g,o,rfl⟩:=hs.addr h0
 have y0:=hs.at1 h0
 rw [Nat.add_zero]at y0
 clear hs
 generalize l[0]=z at*
 generalize maxL l=r at*
 have i1:(0:Int) < (l.length:Int):=by omega
 go_enter Tryz.func85,Tryz.ntmps85
 go_wp2
 go_loopw [3,4] (fun mv iv wr=>∃k:Nat,k≤l.length∧iv= .int .i64 k∧mv= .int .i64 (maxL (l.take (max k 1)))∧Hid (Below w.heap.size w wr)) (fun _ iv _=>l.length - (intOf iv).toNat)
 case atStart=>exact⟨0,by omega,rfl,by rw [H0.out],ζ (Below.refl _ _)⟩
 case round=>
  clear y0
  obtain ⟨k,hk,rfl,rfl,hB⟩:=hrel
  by_cases hlt:k < l.length
  ·have y0:=(HS.out.below hB.out).at1 hlt
   have HTK:=ζ (HT.out k hlt)
   have i0:(0:Int)≤(k:Int):=by omega
   have i1:(k:Int) < (l.length:Int):=by omega
   generalize l[k]=y at*
   generalize maxL (l.take (max k 1))=m at*
   go_wp2
   go_roundw
   case rel=>exact⟨k+1,by omega,by go_num,(by rw [←HTK.out];try go_num),hB⟩
   case measure=>simp [intOf];omega
  ·obtain rfl:k=l.length:=by omega
   go_wp2
   go_ret
   exact⟨ret_int HE.out,hB.out⟩
set_option maxHeartbeats 2000000 in
set_option maxRecDepth 100000 in
theorem rMany_any (fa:Option Addr) (fn fc:Nat) (feet:List Int) (hf:Sx 1 w fa fn fc (L1 feet)) (ha:Option Addr) (hn hc:Nat) (heads:List Int) (hh:Sx 1 w ha hn hc (L1 heads)) (h:Int) (h0:0 < fn) (h1:0 < hn) (h2:fn≤1000000) (h3:hn≤1000000) (m1: -200000≤minL feet∧minL feet≤200000) (m2: -200000≤maxL heads∧maxL heads≤200000) (hhb:1≤h∧h≤3000):
  Calls Tryz.prog 35 #[.slice fa fn fc,.slice ha hn hc,.int .i64 h] w (Gives (.bool (decide (200*h < maxL heads - minL feet))) w):=by
 have HL:=ζ (fun W (hW:Below w.heap.size w W)=>rleast_any W fa fn fc feet (hf.below hW) h0 h2)
 have HG:=ζ (fun W (hW:Below w.heap.size w W)=>rgreatest_any W ha hn hc heads (hh.below hW) h1 h3)
 clear hf hh h0 h1 h2 h3
 generalize minL feet=lo at*
 generalize maxL heads=hi at*
 have v1:IntKind.i64.wrap (hi - lo)=hi - lo:=IntWalk.i64_in _ (by omega)
 have v2:IntKind.i64.wrap (200*h)=200*h:=IntWalk.i64_in _ (by omega)
 have hC:=ζ (Sy.enter w)
 go_enter Tryz.func35,Tryz.ntmps35
 go_wp2_with fail
 refine(HG.out _ hC.out.be).mono ?_
 rintro e w1 ⟨rfl,hb⟩
 have hD:=ζ (hC.out.call hb)
 clear hb hC
 go_wp2_with fail
 refine(HL.out _ hD.out.be).mono ?_
 rintro e w2 ⟨rfl,hb⟩
 have hE:=ζ (hD.out.call hb)
 clear hb hD
 by_cases q:200*h < hi - lo
 ·go_wp2
  go_ret
  exact⟨ret_bool (by first | rfl | (rw [decide_eq_true q])),hE.out.be⟩
 ·go_wp2
  go_ret
  exact⟨ret_bool (by first | rfl | (rw [decide_eq_false (show ¬ 200*h < hi - lo by omega)])),hE.out.be⟩
set_option maxHeartbeats 4000000 in
set_option maxRecDepth 100000 in
theorem rLevels_any (ba:Option Addr) (bn bc:Nat) (bs:List Int) (hb:Sx 1 w ba bn bc (L1 bs)) (za:Option Addr) (zn zc:Nat) (zs:List Int) (hz:Sx 1 w za zn zc (L1 zs)) (h1:1≤bn):
  Calls Tryz.prog 27 #[.slice ba bn bc,.slice za zn zc] w (Gives (.bool (!wrongB (bs.length - 1) zs)) w):=by
 obtain rfl:=hb.n1
 obtain rfl:=hz.n1
 have hcap:=hb.cap
 have hcz:=hz.cap
 unfold maxLen at hcap hcz
 have HZ:=ζ hz
 have HN:=ζ (fun k hk h=>wrongB_at (n:=bs.length - 1) (zs:=zs) (k:=k) hk h)
 have HE:=ζ (fun h=>wrongB_end (n:=bs.length - 1) (zs:=zs) h)
 have HI:=ζ (fun W z=>rIn_any W z (-200000) 200000)
 clear hz hb
 obtain ⟨nn,hnn⟩:∃nn,bs.length - 1=nn:=⟨_,rfl⟩
 rw [hnn]at HN HE⊢
 have v1:IntKind.i64.wrap ((bs.length:Int) - 1)=(nn:Int):=by rw [IntWalk.i64_in _ (by omega)];omega
 have HNN:=ζ hnn
 clear hnn
 generalize wrongB nn zs=R at*
 go_enter Tryz.func27,Tryz.ntmps27
 go_wp2
 go_loopw [5] (fun iv wr=>∃k:Nat,k≤zs.length∧iv= .int .i64 k∧Hid (∀i (hi:i < zs.length),i < k→inB zs[i] (-200000) 200000=true)∧Hid (Below w.heap.size w wr)) (fun iv _=>zs.length - (intOf iv).toNat)
 case atStart=>exact⟨0,Nat.zero_le _,rfl,ζ (fun i _ h=>absurd h (Nat.not_lt_zero i)),ζ (Below.refl _ _)⟩
 case round=>
  obtain ⟨k,hk,rfl,HK,hB⟩:=hrel
  by_cases hlt:k < zs.length
  ·obtain ⟨g0,o0,rfl⟩:=HZ.out.addr (by omega)
   have x0:=(HZ.out.below hB.out).at1 hlt
   have i0:(0:Int)≤(k:Int):=by omega
   have i1:(k:Int) < (zs.length:Int):=by omega
   have HK1:=ζ (HN.out k hlt)
   have HNX:=ζ (show inB zs[k] (-200000) 200000=true→∀i (hi:i < zs.length),i < k+1→inB zs[i] (-200000) 200000=true from fun h i hi hik=>by
    rcases Nat.lt_or_ge i k with h' | h'
    ·exact HK.out i hi h'
    ·have:i=k:=by omega
     subst this;exact h)
   have HA:=ζ (fun W=>HI.out W zs[k])
   clear HK HN HE
   generalize zs[k]=u at*
   cases hu:inB u (-200000) 200000
   ·have HG:=ζ (HK1.out hu)
    rw [hu]at HA
    clear hu HNX HK1
    go_wp2_with ((with_reducible refine(HA.out _).mono ?_);rintro e w2 ⟨rfl,rfl⟩)
    go_ret
    exact⟨ret_bool (by rw [HG.out];rfl),hB.out⟩
   ·have HG:=ζ (HNX.out hu)
    rw [hu]at HA
    clear hu HNX HK1
    go_wp2_with ((with_reducible refine(HA.out _).mono ?_);rintro e w2 ⟨rfl,rfl⟩)
    go_roundw
    case rel=>exact⟨k+1,by omega,by go_num,HG,hB⟩
    case measure=>simp [intOf];omega
  ·obtain rfl:k=zs.length:=by omega
   have HG:=ζ (HE.out (fun i hi=>HK.out i hi hi))
   clear HE HN HK
   by_cases q:zs.length=nn
   ·have q2:((zs.length:Int)==(nn:Int))=true:=by rw [q];exact beq_self_eq_true _
    have HG2:=ζ (show R=false from by rw [HG.out,decide_eq_false (fun h=>h q)])
    clear q
    go_wp2
    go_ret
    exact⟨ret_bool (by rw [HG2.out];rfl),hB.out⟩
   ·have q2:((zs.length:Int)==(nn:Int))=false:=beq_eq_false_iff_ne.2 (by omega)
    have HG2:=ζ (show R=true from by rw [HG.out,decide_eq_true q])
    clear q
    go_wp2
    go_ret
    exact⟨ret_bool (by rw [HG2.out];rfl),hB.out⟩
theorem mY12_0 {P_ : Prop} (h : P_ := by
 try simp only [Act.put,zI,z0,zS]
 refine rdy1 13 rfl (fun Kq hKq=>?_)
 rw [if_pos (by rfl)]
 refine op_append_sy hVA_2.out 1 2 rfl rfl _ _ _ rfl und_RBays info_RBay rfl (by omega) rfl rfl (by intro u hu;simp at hu;rcases hu with rfl | rfl<;>rfl) (by omega) (by omega) (fun a4 c4 _ hcA=>?_)
 refine stepZ hKq hcA (fun _=>HSL _ _ _ _) ?_
 intro VA_3 hVA_3 hHA_3
 clear hKq Kq hVA_2 hcA hHA_2
 try simp only [Act.put,zI,z0,zS]
 refine tkA 14 rfl hHA_3 ?_
 try simp only [Act.put,zI,z0,zS]
 refine rdy1 15 rfl (fun Kq hKq=>?_)
 have cQ:=hVA_3.out.cell 0 2 rfl rfl
 have fQ:=hVA_3.out.free 0 2 rfl
 go_simp
 refine stepZ hKq (hVA_3.out.set (j:=2) (v:= .slice a4 (b.length+1) c4) 0 rfl) (fun _ hX=>⟨(HX1.out _ hX.be),(HX2.out _ hX.be),trivial⟩) ?_
 intro VA_4 hVA_4 hHA_4
 clear hKq Kq hVA_3 cQ fQ hHA_3
 try simp only [Act.put]
 refine wpAnyH_done (by kernel_rfl) ?_ _
 have hK:=ζ (hVA_4.out.thin (bs':=[(b11,#[.int .i64 z,.int .i64 (z+h),.slice a4 (b.length+1) c4],70)]) (os':=[⟨.slice a T.length c',70,3,T.length,LRw T⟩,⟨.slice a4 (b.length+1) c4,73,2,b.length+1,L2 b++ [.int .i64 u1,.int .i64 u2]⟩]) (List.Sublist.refl _) (by exact List.Sublist.cons_cons _ (List.Sublist.cons_cons _ (List.nil_sublist _))))
 have HLB:=ζ (show L2 b++ [.int .i64 u1,.int .i64 u2]=L2 (b++ [(u1,u2)])from by unfold L2;rw [List.flatMap_append];rfl)
 rw [HLB.out]at hK
 clear hVA_4
 go_wp2
 go_roundw
 case rel=>
  refine⟨j+1,true,a4,c4,b++ [(u1,u2)],by omega,by have:=HJ1.out;go_num,rfl,by rw [List.length_append,List.length_singleton];omega,HON,HN,?_⟩
  rw [List.length_append,List.length_singleton]
  exact hK
 case measure=>have:=HJ1.out;simp [intOf];omega) : P_ := h
set_option maxHeartbeats 8000000 in
set_option maxRecDepth 100000 in
theorem rRows_any (ba:Option Addr) (bn bc:Nat) (bs:List Int) (hb:Sx 1 w ba bn bc (L1 bs)) (fa:Option Addr) (fn fc:Nat) (feet:List Int) (hf:Sx 1 w fa fn fc (L1 feet)) (ha:Option Addr) (hn hc:Nat) (heads:List Int) (hh:Sx 1 w ha hn hc (L1 heads)) (h:Int) (nn:Nat) (hbl:bs.length=nn+1) (hfl:feet.length=nn) (hgl:heads.length=nn) (hn1:0 < nn∧nn≤60) (fb:∀z∈feet,-200000≤z∧z≤200000) (hhb:1≤h∧h≤3000) (hup:∀i,i < nn→bX bs i < bX bs (i+1)):
  Calls Tryz.prog 36 #[.slice ba bn bc,.slice fa fn fc,.slice ha hn hc,.int .i64 h] w (RetRo w (rowsUp bs feet heads (minL feet) h nn 200)):=by
 obtain rfl:=hb.n1
 obtain rfl:=hf.n1
 obtain rfl:=hh.n1
 have m1:=minL_in (l:=feet) (lo:= -200000) (hi:=200000) (by omega) fb
 have HL:=ζ (fun W (hW:Below w.heap.size w W)=>rleast_any W fa feet.length fc feet (hf.below hW) (by omega) (by omega))
 have HBC:=ζ (fun W (hW:Below w.heap.size w W)=>hb.below hW)
 have HFC:=ζ (fun W (hW:Below w.heap.size w W)=>hf.below hW)
 have HHC:=ζ (fun W (hW:Below w.heap.size w W)=>hh.below hW)
 have HRP:=ζ (fun has=>bay_RP (bs:=bs) (has:=has) (n:=nn) hup)
 obtain ⟨gb,ob,hba⟩:=hb.addr (by omega)
 obtain ⟨gf,of_,hfa⟩:=hf.addr (by omega)
 obtain ⟨gh,oh,hha⟩:=hh.addr (by omega)
 subst hba hfa hha
 have HBL:=ζ hbl
 have HFLN:=ζ hfl
 have HGLN:=ζ hgl
 clear hb hf hh fb hup hbl hfl hgl
 generalize minL feet=lo at*
 obtain ⟨RR,hRR⟩:∃R,rowsUp bs feet heads lo h nn 200=R:=⟨_,rfl⟩
 have HRR:=ζ hRR
 rw [hRR]
 clear hRR
 have hO:=ζ (((Sy.enter w).onil 70 3).push (r:=(fun V=>∀t∈([]:List Rwx),V.ownsRow w.heap.size 73 2 (.slice t.ba t.bays.length t.bc) t.bays.length (L2 t.bays))) (fun V _ t ht=>by cases ht))
 go_enter Tryz.func36,Tryz.ntmps36
 go_wp2
 go_loopw [9,10] (fun ov iv wr=>∃ (i:Nat) (a:Option Addr) (c':Nat) (T:List Rwx),i≤200∧iv= .int .i64 i∧ov= .slice a T.length c'∧T.length≤i∧Hid (T.map nR=rowsUp bs feet heads lo h nn i)∧Hid (Sy w wr [] [⟨.slice a T.length c',70,3,T.length,LRw T⟩] [(fun V=>∀t∈(T:List Rwx),V.ownsRow w.heap.size 73 2 (.slice t.ba t.bays.length t.bc) t.bays.length (L2 t.bays))])) (fun _ iv _=>200 - (intOf iv).toNat)
 case atStart=>exact⟨0,none,0,[],Nat.zero_le _,rfl,rfl,Nat.le_refl _,ζ rfl,hO⟩
 case round=>
  clear hO
  obtain ⟨i,a,c',T,hi1,rfl,rfl,hTl,HTM,hO⟩:=hrel
  by_cases hlt:i < 200
  ·obtain ⟨n1,hn1e⟩:∃n,n=i+1:=⟨_,rfl⟩
   obtain ⟨y,hy⟩:∃y,(i:Int)*h=y:=⟨_,rfl⟩
   have hyb:0≤y∧y≤600000:=by
    have h1:=Int.mul_nonneg (show(0:Int)≤(i:Int)by omega) (show 0≤h by omega)
    have h2:=Int.mul_le_mul (show(i:Int)≤200 by omega) (show h≤3000 by omega) (by omega) (by omega)
    omega
   have hy2:(n1:Int)*h=y+h:=by rw [hn1e,Int.natCast_add,Int.add_mul,hy,show((1:Nat):Int)=1 from rfl,Int.one_mul]
   obtain ⟨y2,hy2e⟩:∃y2,y2=y+h:=⟨_,rfl⟩
   obtain ⟨z,hz⟩:∃z,lo+y=z:=⟨_,rfl⟩
   rw [←hy2e]at hy2
   have e1:IntKind.i64.wrap ((i:Int)*h)=y:=by rw [hy];exact IntWalk.i64_in _ (by omega)
   have e2:IntKind.i64.wrap ((i:Int)+1)=(n1:Int):=by rw [IntWalk.i64_in _ (by omega)];omega
   have e3:IntKind.i64.wrap ((n1:Int)*h)=y2:=by rw [hy2];exact IntWalk.i64_in _ (by omega)
   have e4:IntKind.i64.wrap (lo+y)=z:=by rw [hz];exact IntWalk.i64_in _ (by omega)
   have e5:IntKind.i64.wrap (lo+y2)=z+h:=by rw [show lo+y2=z+h by omega];exact IntWalk.i64_in _ (by omega)
   have HZ:=ζ (show z=lo+(i:Int)*h from by rw [hy];omega)
   have HN1:=ζ hn1e
   have i200:(i:Int) < 200:=by omega
   have hzb: -200000≤z∧z≤800000:=by omega
   clear hy hy2 hy2e hz hyb hn1e
   go_upto_region 5 with fail
   go_wp2_with fail
   refine(HL.out _ hO.out.be).mono ?_
   rintro e w2 ⟨rfl,hbb⟩
   have hE:=ζ (hO.out.call hbb)
   clear hbb hO
   go_wp2_with fail
   refine(HL.out _ hE.out.be).mono ?_
   rintro e w3 ⟨rfl,hbb⟩
   have hG:=ζ (hE.out.call hbb)
   clear hbb hE
   have hA:=ζ ((hG.out.al w3.heap.size #[.int .i64 z,.int .i64 (z+h),.slice none 0 0] 70 rfl).onil 73 2)
   go_upto_region 6 with fail
   obtain ⟨b11,hb11⟩:∃b,w3.heap.size=b:=⟨_,rfl⟩
   rw [hb11]at hA⊢
   refine wp_geny hA.out ?_
   intro V1 hc
   have hP:=ζ hc
   clear hc hA hG hb11 e1 e3 e4 e5
   go_wp2
   go_loopw [12,13] (fun ov jv wr=>∃ (j:Nat) (op:Bool) (a3:Option Addr) (c3:Nat) (b:List (Int×Int)),j≤nn∧jv= .int .i64 j∧ov= .bool op∧b.length≤j∧Hid (opn (hasR feet heads z h) j=op)∧Hid (bayR (bX bs) (hasR feet heads z h) j=b)∧Hid (Sy w wr [(b11,#[.int .i64 z,.int .i64 (z+h),.slice a3 b.length c3],70)] [⟨.slice a T.length c',70,3,T.length,LRw T⟩,⟨.slice a3 b.length c3,73,2,b.length,L2 b⟩] [(fun V=>∀t∈(T:List Rwx),V.ownsRow w.heap.size 73 2 (.slice t.ba t.bays.length t.bc) t.bays.length (L2 t.bays))])) (fun _ jv _=>nn - (intOf jv).toNat)
   case atStart=>exact⟨0,false,none,0,[],Nat.zero_le _,rfl,rfl,Nat.le_refl _,ζ rfl,ζ rfl,hP⟩
   case round=>
    clear hP
    obtain ⟨j,op,a3,c3,b,hj,rfl,rfl,hbl3,HOP,HBP,hP⟩:=hrel
    by_cases hjn:j < nn
    ·have HBN:=ζ (show bayR (bX bs) (hasR feet heads z h) (j+1)=if (hasR feet heads z h j && opn (hasR feet heads z h) j)=true then putTo (bayR (bX bs) (hasR feet heads z h) j) (bX bs (j+1))else if hasR feet heads z h j=true then bayR (bX bs) (hasR feet heads z h) j++ [(bX bs j,bX bs (j+1))]else bayR (bX bs) (hasR feet heads z h) j from rfl)
     have HPO:=ζ (show op=true→0 < b.length from fun q=>by rw [←HBP.out];exact bayR_open j (HOP.out.trans q))
     rw [HBP.out,HOP.out]at HBN
     have HON:=ζ (show opn (hasR feet heads z h) (j+1)=hasR feet heads z h j from rfl)
     have HHS:=ζ (show hasR feet heads z h j=(decide (bX feet j≤z) && decide (z+h≤bX heads j))from rfl)
     have HY1:=ζ (fun W (hW:Below w.heap.size w W)=>(HFC.out W hW).atX (show j < feet.length by rw [HFLN.out];exact hjn))
     have HY2:=ζ (fun W (hW:Below w.heap.size w W)=>(HHC.out W hW).atX (show j < heads.length by rw [HGLN.out];exact hjn))
     have HX1:=ζ (fun W (hW:Below w.heap.size w W)=>(HBC.out W hW).atX (show j < bs.length by rw [HBL.out];omega))
     have HX2:=ζ (fun W (hW:Below w.heap.size w W)=>(HBC.out W hW).atX (show j+1 < bs.length by rw [HBL.out];omega))
     generalize hasR feet heads z h j=hs at*
     generalize bX bs j=u1 at*
     generalize bX bs (j+1)=u2 at*
     generalize bX feet j=f1 at*
     generalize bX heads j=f2 at*
     obtain ⟨j1,hj1⟩:∃k,k=j+1:=⟨_,rfl⟩
     have i0:(0:Int)≤(j:Int):=by omega
     have i2:(j:Int) < (feet.length:Int):=by rw [HFLN.out];omega
     have i3:(j:Int) < (heads.length:Int):=by rw [HGLN.out];omega
     have i4:(j:Int) < (bs.length:Int):=by rw [HBL.out];omega
     have i5:IntKind.i64.wrap ((j:Int)+1)=(j1:Int):=by rw [IntWalk.i64_in _ (by omega)];omega
     have i6:(0:Int)≤(j1:Int):=by omega
     have i7:(j1:Int) < (bs.length:Int):=by rw [HBL.out];omega
     rw [←hj1]at HX2
     have HJ1:=ζ hj1
     clear hj1
     have y1:=HY1.out _ hP.out.be
     have y2:=HY2.out _ hP.out.be
     have z0:wr.cell? ⟨b11,0,none⟩=some (.int .i64 z):=hP.out.cell 0 0 rfl rfl
     have z1:wr.cell? ⟨b11,1,none⟩=some (.int .i64 (z+h)):=hP.out.cell 0 1 rfl rfl
     go_upto_region 10 with fail
     go_cut [14] (fun tv wx=>∃q:Bool,tv= .bool q∧Hid (hs=q)∧Hid (Sy w wx [(b11,#[.int .i64 z,.int .i64 (z+h),.slice a3 b.length c3],70)] [⟨.slice a T.length c',70,3,T.length,LRw T⟩,⟨.slice a3 b.length c3,73,2,b.length,L2 b⟩] [(fun V=>∀t∈(T:List Rwx),V.ownsRow w.heap.size 73 2 (.slice t.ba t.bays.length t.bc) t.bays.length (L2 t.bays))]))
     case first=>
      by_cases g1:f1≤z
      ·have d1:=decide_eq_true g1
       by_cases g2:z+h≤f2
       ·have HQ:=ζ (show hs=true from by rw [HHS.out,decide_eq_true g1,decide_eq_true g2];rfl)
        have d2:=decide_eq_true g2
        go_quiet (fail)
        have hQ1:=ζ (hP.out.call (below_dN (Below.refl _ _) nq))
        go_wp2
        go_meet
        exact⟨true,rfl,HQ,hQ1⟩
       ·have HQ:=ζ (show hs=false from by rw [HHS.out,decide_eq_false g2,Bool.and_false])
        have d2:=decide_eq_false g2
        go_quiet (fail)
        have hQ1:=ζ (hP.out.call (below_dN (Below.refl _ _) nq))
        go_wp2
        go_meet
        exact⟨false,rfl,HQ,hQ1⟩
      ·have HQ:=ζ (show hs=false from by rw [HHS.out,decide_eq_false g1];rfl)
       have d1:=decide_eq_false g1
       go_quiet (fail)
       have hQ1:=ζ (hP.out.call (below_dN (Below.refl _ _) nq))
       go_wp2
       go_meet
       exact⟨false,rfl,HQ,hQ1⟩
     case rest=>
      clear hP y1 y2 z0 z1 HY1 HY2
      obtain ⟨q,rfl,HQ,hP⟩:=hcut
      rw [HQ.out]at HBN HON
      clear HHS HQ
      cases q
      ·have HN:=ζ (show bayR (bX bs) (hasR feet heads z h) (j+1)=b from by rw [HBN.out];rfl)
       clear HBN
       go_wp2
       go_roundw
       case rel=>exact⟨j+1,false,a3,c3,b,by omega,by have:=HJ1.out;go_num,rfl,by omega,HON,HN,hP⟩
       case measure=>have:=HJ1.out;simp [intOf];omega
      ·cases op
       ·have HN:=ζ (show bayR (bX bs) (hasR feet heads z h) (j+1)=b++ [(u1,u2)]from by rw [HBN.out];rfl)
        clear HBN HPO
        go_upto_region 14 with fail
        have HSL:∀V ex os rs,Sy w V ([(b11,#[.int .i64 z,.int .i64 (z+h),.slice a3 b.length c3],70)]++ex) os rs→(fun w'=>w'.cell? ⟨gb,ob+j,none⟩=some (.int .i64 u1)∧w'.cell? ⟨gb,ob+j1,none⟩=some (.int .i64 u2)∧True) V:=fun V ex os rs hX=>⟨(HX1.out _ hX.be),(HX2.out _ hX.be),trivial⟩
        refine wp_region_held_drew (S:=(fun w'=>w'.cell? ⟨gb,ob+j,none⟩=some (.int .i64 u1)∧w'.cell? ⟨gb,ob+j1,none⟩=some (.int .i64 u2)∧True)) (by kernel_rfl) ⟨(HX1.out _ hP.out.drew.be),(HX2.out _ hP.out.drew.be),trivial⟩ (fun hH=>?_)
        refine wpAnyH_geny (show Sy w _ [(b11,#[.int .i64 z,.int .i64 (z+h),.slice a3 b.length c3],70)] [⟨.slice a T.length c',70,3,T.length,LRw T⟩,⟨.slice a3 b.length c3,73,2,b.length,L2 b⟩] [(fun V=>∀t∈(T:List Rwx),V.ownsRow w.heap.size 73 2 (.slice t.ba t.bays.length t.bc) t.bays.length (L2 t.bays))]from hP.out.drew) hH ?_
        intro VA_0 hc hHA_0
        have hVA_0:=ζ hc
        clear hc hH hP
        refine tkA 0 rfl hHA_0 ?_
        try simp only [Act.put,zI,z0,zS]
        refine tkA 2 rfl hHA_0 ?_
        try simp only [Act.put,zI,z0,zS]
        refine tkA 3 rfl hHA_0 ?_
        try simp only [Act.put,zI,z0,zS]
        refine tkA 4 rfl hHA_0 ?_
        try simp only [Act.put,zI,z0,zS]
        refine tkA 5 rfl hHA_0 ?_
        try simp only [Act.put,zI,z0,zS]
        refine tkA 6 rfl hHA_0 ?_
        try simp only [Act.put,zI,z0,zS]
        refine tkA 7 rfl hHA_0 ?_
        try simp only [Act.put,zI,z0,zS]
        refine tkA 8 rfl hHA_0 ?_
        try simp only [Act.put,zI,z0,zS]
        refine tkA 9 rfl hHA_0 ?_
        try simp only [Act.put,zI,z0,zS]
        refine tkA 10 rfl hHA_0 ?_
        try simp only [Act.put,zI,z0,zS]
        refine tkA 11 rfl hHA_0 ?_
        try simp only [Act.put,zI,z0,zS]
        refine wpAnyH_ready (rs:=[1,12]) (by kernel_rfl) (by simp) ?_
        refine AllReadyH.cons (o:=⟨_,_,_,_,_,_⟩) rfl (fun Kq hKq=>?_) ?_
        ·have cQ0:=hVA_0.out.cell 0 0 rfl rfl
         have cQ1:=hVA_0.out.cell 0 1 rfl rfl
         have cQ2:=hVA_0.out.cell 0 2 rfl rfl
         go_simp
         refine stepZ hKq hVA_0.out (fun _=>HSL _ _ _ _) ?_
         intro VA_1 hVA_1 hHA_1
         clear hKq Kq hVA_0 cQ0 cQ1 cQ2 hHA_0
         try simp only [Act.put,zI,z0,zS]
         refine rdy1 12 rfl (fun Kq hKq=>?_)
         go_simp
         refine stepZ hKq (hVA_1.out.onew VA_1.heap.size #[.int .i64 u1,.int .i64 u2] 73 2 1 rfl (by omega) rfl) (fun _=>HSL _ _ _ _) ?_
         intro VA_2 hVA_2 hHA_2
         clear hKq Kq hVA_1 hHA_1
         exact mY12_0
        refine AllReadyH.cons (o:=⟨_,_,_,_,_,_⟩) rfl (fun Kq hKq=>?_) ?_
        ·go_simp
         refine stepZ hKq (hVA_0.out.onew VA_0.heap.size #[.int .i64 u1,.int .i64 u2] 73 2 1 rfl (by omega) rfl) (fun _=>HSL _ _ _ _) ?_
         intro VA_1 hVA_1 hHA_1
         clear hKq Kq hVA_0 hHA_0
         try simp only [Act.put,zI,z0,zS]
         refine rdy1 1 rfl (fun Kq hKq=>?_)
         have cQ0:=hVA_1.out.cell 0 0 rfl rfl
         have cQ1:=hVA_1.out.cell 0 1 rfl rfl
         have cQ2:=hVA_1.out.cell 0 2 rfl rfl
         go_simp
         refine stepZ hKq hVA_1.out (fun _=>HSL _ _ _ _) ?_
         intro VA_2 hVA_2 hHA_2
         clear hKq Kq hVA_1 cQ0 cQ1 cQ2 hHA_1
         exact mY12_0
        exact AllReadyH.nil
       ·have hb0:=HPO.out rfl
        have HN:=ζ (show bayR (bX bs) (hasR feet heads z h) (j+1)=putTo b u2 from by rw [HBN.out];rfl)
        have HLN:=ζ (putTo_len b u2)
        have HPC:=ζ (putTo_cells b u2 hb0)
        obtain ⟨g3,hg3,-⟩:=hP.out.oaddr 1 rfl hb0
        subst hg3
        have v1:IntKind.i64.wrap ((b.length:Int) - 1)=((b.length - 1:Nat):Int):=by rw [IntWalk.i64_in _ (by omega)];omega
        have v2:(0:Int)≤((b.length - 1:Nat):Int):=by omega
        have v3:((b.length - 1:Nat):Int) < (b.length:Int):=by omega
        have hx0:(L2 b)[(b.length - 1)*2+1]? ≠none:=by
         rw [List.getElem?_eq_getElem (by unfold L2;rw [flat_len (f:=c2) (k:=2) (fun _=>rfl)];omega)]
         exact fun h=>by cases h
        obtain ⟨xo,hxo⟩:=Option.ne_none_iff_exists'.1 hx0
        have HXO:=ζ hxo
        clear HBN HPO hx0 hxo
        go_upto_region 12 with fail
        have HSL:∀V ex os rs,Sy w V ([(b11,#[.int .i64 z,.int .i64 (z+h),.slice (some ⟨g3,0,none⟩) b.length c3],70)]++ex) os rs→(fun w'=>w'.cell? ⟨b11,0,none⟩=some (.int .i64 z)∧w'.cell? ⟨b11,1,none⟩=some (.int .i64 (z+h))∧w'.cell? ⟨b11,2,none⟩=some (.slice (some ⟨g3,0,none⟩) b.length c3)∧w'.cell? ⟨gb,ob+j,none⟩=some (.int .i64 u1)∧w'.cell? ⟨gb,ob+j1,none⟩=some (.int .i64 u2)∧True) V:=fun V ex os rs hX=>⟨hX.cell 0 0 rfl rfl,hX.cell 0 1 rfl rfl,hX.cell 0 2 rfl rfl,(HX1.out _ hX.be),(HX2.out _ hX.be),trivial⟩
        refine wp_region_held_drew (S:=(fun w'=>w'.cell? ⟨b11,0,none⟩=some (.int .i64 z)∧w'.cell? ⟨b11,1,none⟩=some (.int .i64 (z+h))∧w'.cell? ⟨b11,2,none⟩=some (.slice (some ⟨g3,0,none⟩) b.length c3)∧w'.cell? ⟨gb,ob+j,none⟩=some (.int .i64 u1)∧w'.cell? ⟨gb,ob+j1,none⟩=some (.int .i64 u2)∧True)) (by kernel_rfl) ⟨hP.out.drew.cell 0 0 rfl rfl,hP.out.drew.cell 0 1 rfl rfl,hP.out.drew.cell 0 2 rfl rfl,(HX1.out _ hP.out.drew.be),(HX2.out _ hP.out.drew.be),trivial⟩ (fun hH=>?_)
        refine wpAnyH_geny (show Sy w _ [(b11,#[.int .i64 z,.int .i64 (z+h),.slice (some ⟨g3,0,none⟩) b.length c3],70)] [⟨.slice a T.length c',70,3,T.length,LRw T⟩,⟨.slice (some ⟨g3,0,none⟩) b.length c3,73,2,b.length,L2 b⟩] [(fun V=>∀t∈(T:List Rwx),V.ownsRow w.heap.size 73 2 (.slice t.ba t.bays.length t.bc) t.bays.length (L2 t.bays))]from hP.out.drew) hH ?_
        intro VB_0 hc hHB_0
        have hVB_0:=ζ hc
        clear hc hH hP
        refine tkA 0 rfl hHB_0 ?_
        try simp only [Act.put,zI,z0,zS]
        refine tkA 1 rfl hHB_0 ?_
        try simp only [Act.put,zI,z0,zS]
        refine tkA 2 rfl hHB_0 ?_
        try simp only [Act.put,zI,z0,zS]
        refine tkA 3 rfl hHB_0 ?_
        try simp only [Act.put,zI,z0,zS]
        refine tkA 4 rfl hHB_0 ?_
        try simp only [Act.put,zI,z0,zS]
        refine tkA 5 rfl hHB_0 ?_
        try simp only [Act.put,zI,z0,zS]
        refine tkA 6 rfl hHB_0 ?_
        try simp only [Act.put,zI,z0,zS]
        refine tkA 7 rfl hHB_0 ?_
        try simp only [Act.put,zI,z0,zS]
        refine tkA 8 rfl hHB_0 ?_
        try simp only [Act.put,zI,z0,zS]
        refine tkA 9 rfl hHB_0 ?_
        try simp only [Act.put,zI,z0,zS]
        refine tkA 10 rfl hHB_0 ?_
        try simp only [Act.put,zI,z0,zS]
        refine tkA 11 rfl hHB_0 ?_
        try simp only [Act.put,zI,z0,zS]
        refine tkA 12 rfl hHB_0 ?_
        try simp only [Act.put,zI,z0,zS]
        refine rdy1 13 rfl (fun Kq hKq=>?_)
        have fq:=hVB_0.out.rfree 1 rfl ((b.length - 1)*2+1)
        have x3:=hVB_0.out.rcell 1 rfl HXO.out
        go_simp
        refine stepZ hKq (hVB_0.out.ostore 1 rfl ((b.length - 1)*2+1) (.int .i64 u2)) (fun _=>HSL _ _ _ _) ?_
        intro VB_1 hVB_1 hHB_1
        clear hKq Kq hVB_0 fq x3 hHB_0
        try simp only [Act.put]
        refine wpAnyH_done (by kernel_rfl) ?_ _
        rw [HPC.out]at hVB_1
        go_wp2
        go_roundw
        case rel=>
         refine⟨j+1,true,some ⟨g3,0,none⟩,c3,putTo b u2,by omega,by have:=HJ1.out;go_num,rfl,by rw [HLN.out];omega,HON,HN,?_⟩
         rw [HLN.out]
         exact hVB_1
        case measure=>have:=HJ1.out;simp [intOf];omega
    ·obtain rfl:j=nn:=by omega
     have j8:¬ (j:Int) < (feet.length:Int):=by rw [HFLN.out];omega
     have z2:wr.cell? ⟨b11,2,none⟩=some (.slice a3 b.length c3):=hP.out.cell 0 2 rfl rfl
     have HSU:=ζ (show rowsUp bs feet heads lo h j (i+1)=rowsUp bs feet heads lo h j i++rowOf (lo+i*h) h (baysP bs feet heads (lo+i*h) h j)from rfl)
     rw [←HZ.out,show baysP bs feet heads z h j=b from(HRP.out _).symm.trans HBP.out,←HTM.out]at HSU
     by_cases hb0:b.length=0
     ·have HN:=ζ (show T.map nR=rowsUp bs feet heads lo h j (i+1)from by rw [HSU.out,rowOf,if_pos hb0,List.append_nil])
      have HQ:=ζ (hP.out.thin (bs':=[]) (os':=[⟨.slice a T.length c',70,3,T.length,LRw T⟩]) (List.nil_sublist _) (List.sublist_append_left [_] _))
      have d1:decide (0 < b.length)=false:=decide_eq_false (by omega)
      clear hb0
      go_wp2
      go_roundw
      case rel=>exact⟨i+1,a,c',T,by omega,by have:=HN1.out;go_num,rfl,by omega,HN,HQ⟩
      case measure=>have:=HN1.out;simp [intOf];omega
     ·have HN:=ζ (show(T++ [(⟨z,z+h,a3,c3,b⟩:Rwx)]).map nR=rowsUp bs feet heads lo h j (i+1)from by rw [HSU.out,rowOf,if_neg hb0,List.map_append];rfl)
      have d0:(0:Int) < (b.length:Int):=by omega
      have d1:decide (0 < b.length)=true:=decide_eq_true (by omega)
      have z0:wr.cell? ⟨b11,0,none⟩=some (.int .i64 z):=hP.out.cell 0 0 rfl rfl
      have z1:wr.cell? ⟨b11,1,none⟩=some (.int .i64 (z+h)):=hP.out.cell 0 1 rfl rfl
      clear hb0
      go_upto_region 4 with (refine wpList_append_sy (o:=⟨some 96,_,_,_,_,_⟩) rfl (hP.out.onew wr.heap.size #[.int .i64 z,.int .i64 (z+h),.slice a3 b.length c3] 70 3 1 rfl (by omega) rfl) 0 2 rfl rfl _ _ _ rfl und_RRows info_RRow rfl (by omega) rfl rfl (by intro u hu;simp at hu;rcases hu with rfl | rfl | rfl<;>rfl) (by omega) (by omega) ?_;intro a4 c4 V4 hV4;have hJ:=ζ hV4;clear hV4)
      have hK:=ζ (hJ.out.thin (bs':=[]) (os':=[⟨.slice a4 (T.length+1) c4,70,3,T.length+1,LRw T++ [.int .i64 z,.int .i64 (z+h),.slice a3 b.length c3]⟩]++ [⟨.slice a3 b.length c3,73,2,b.length,L2 b⟩]) (List.nil_sublist _) (by exact List.Sublist.cons_cons _ (List.Sublist.cons_cons _ (List.nil_sublist _))))
      have hM:=ζ (hK.out.retire.imp (rs':=[(fun V=>∀t∈(T++ [(⟨z,z+h,a3,c3,b⟩:Rwx)]:List Rwx),V.ownsRow w.heap.size 73 2 (.slice t.ba t.bays.length t.bc) t.bays.length (L2 t.bays))]) (fun V hv r hr=>by
       rcases List.mem_singleton.1 hr with rfl
       intro t ht
       rcases List.mem_append.1 ht with ht | ht
       ·exact hv _ (List.mem_cons_self ..) t ht
       ·rcases List.mem_singleton.1 ht with rfl
        exact hv (fun V=>V.ownsRow w.heap.size 73 2 (.slice a3 b.length c3) b.length (L2 b)) (by simp)))
      have HLB:=ζ (show LRw T++ [.int .i64 z,.int .i64 (z+h),.slice a3 b.length c3]=LRw (T++ [(⟨z,z+h,a3,c3,b⟩:Rwx)])from by rw [LRw_append];rfl)
      rw [HLB.out]at hM
      clear hJ hK hP
      go_wp2
      go_roundw
      case rel=>
       refine⟨i+1,a4,c4,T++ [(⟨z,z+h,a3,c3,b⟩:Rwx)],by omega,by have:=HN1.out;go_num,by rw [List.length_append,List.length_singleton],by rw [List.length_append,List.length_singleton];omega,HN,?_⟩
       rw [List.length_append,List.length_singleton]
       exact hM
      case measure=>have:=HN1.out;simp [intOf];omega
  ·obtain rfl:i=200:=by omega
   have HFI:=ζ (show T.map nR=RR from by rw [HTM.out];exact HRR.out)
   go_wp2
   go_ret
   exact⟨a,c',T,HFI,rfl,ζ ⟨Sx.owns (hO.out.orow 0 rfl),fun t ht=>Sx.owns (hO.out.r 0 rfl t ht)⟩,hO.out.be⟩
end
end Go.Proofs.YthmdhlopeponcaaGreatDoor

/- part -/
import Derived.Test.YtjpojeapdgjbhaaGreatDoorQ6
import Derived.Test.YtjpojeapdgjbhaaGreatDoorQ3
set_option maxRecDepth 100000
set_option maxHeartbeats 1000000
namespace Go.Proofs.YtjpojeapdgjbhaaGreatDoor
open Go.RowKit Dig
theorem cr_bound:∀ (c:Int) (l:List Int),(∀x∈l,-4611686018427387904<=x/\x<=4611686018427387904)-> -300000000000<=c->c<=300000000000-> -300000000000<=(cr 16777216 c l).2/\(cr 16777216 c l).2<=300000000000
 | c,[],_,h1,h2=>⟨h1,h2⟩
 | c,x::l,h,h1,h2=>by
   have hx:=h x (by simp);rw [cr];exact cr_bound _ l (fun y hy=>h y (by simp [hy])) (by omega) (by omega)
theorem cr_round {xs:List Int} {k:Nat} (h:k < xs.length):
  ((cr 16777216 0 (xs.take k)).1++xs.drop k)[k]'(by simp [cr_len];omega)=xs[k]/\
  (((cr 16777216 0 (xs.take k)).1++xs.drop k).set k (xs[k] +(cr 16777216 0 (xs.take k)).2)).set k ((xs[k] +(cr 16777216 0 (xs.take k)).2) % 16777216)=(cr 16777216 0 (xs.take (k+1))).1++xs.drop (k+1)/\
  (cr 16777216 0 (xs.take (k+1))).2=(xs[k] +(cr 16777216 0 (xs.take k)).2) / 16777216:=by
 have hl:(cr 16777216 0 (xs.take k)).1.length=k:=by rw [cr_len,List.length_take];omega
 have ht:xs.take (k+1)=xs.take k++ [xs[k]]:=List.take_succ_eq_append_getElem h;have hs:cr 16777216 0 (xs.take (k+1))=((cr 16777216 0 (xs.take k)).1++ [(xs[k] +(cr 16777216 0 (xs.take k)).2) % 16777216],(xs[k] +(cr 16777216 0 (xs.take k)).2) / 16777216):=by rw [ht,cr_snoc]
 refine⟨?_,?_,by rw [hs]⟩
 ·rw [List.getElem_append_right (by omega)];simp [hl]
 ·rw [hs,List.set_set,List.set_append_right _ _ (by omega),hl,Nat.sub_self,List.drop_eq_getElem_cons h,List.set_cons_zero];simp
set_option maxHeartbeats 400000 in
theorem settled_any (v:Value) (xs:List Int) (w:World) (hv:∃a n c,v= .slice a n c) (hs:Sl 2 w v xs) (hb:∀x∈xs,-4611686018427387904<=x/\x<=4611686018427387904) (h0:0<=vl 16777216 xs) (hl:xs.length<=100000000):
  Calls Tryz.prog 149 #[v] w fun e w'=>∃a n c,e= .returned (.agg #[.slice a n c])/\Dg w' (.slice a n c) (vl 16777216 xs).toNat/\w.grownBy w' v.ownBlock/\Since w.heap.size v (.slice a n c):=by
 obtain ⟨a,n,c,rfl⟩:=hv;have hn:=hs.len;subst hn;have hlt:=hs.lt;have hS:=ζ hs;clear hs;go_enter Tryz.func149,Tryz.ntmps149;go_wp2;go_loopw [3,7] (fun c' i wr=>∃k:Nat,k<=xs.length/\i= .int .i64 k/\c'= .int .i64 (cr 16777216 0 (xs.take k)).2/\
   Sl 2 wr (.slice a xs.length c) ((cr 16777216 0 (xs.take k)).1++xs.drop k)/\w.grownBy wr (Value.ownBlock (.slice a xs.length c))/\Box wr w.heap.size (.slice none 0 0) 68) (fun _ i _=>xs.length - (intOf i).toNat)
 case atStart=>exact⟨0,Nat.zero_le _,rfl,rfl,by simpa [cr] using hS.out.alloc _,World.grownBy_alloc _ _ _,Box.new _ _ _⟩
 case round=>
  obtain ⟨k,hk,rfl,rfl,ho,hg,hbx⟩:=hrel;by_cases hkl:k < xs.length
  ·obtain ⟨g,rfl,hgl⟩:=hS.out.row (by omega);obtain ⟨r1,r2,r3⟩:=cr_round hkl;have hc:wr.cell? ⟨g,k,none⟩=some (.int .i64 xs[k]):=(by rw [ho.cell (k:=k) (by simp [cr_len];omega),r1]);have hf:=ho.free k;have b1:=hb _ (List.getElem_mem hkl);have b2:=cr_bound 0 (xs.take k) (fun x hx=>hb x (List.mem_of_mem_take hx)) (by omega) (by omega);have R2:=ζ r2;have R3:=ζ r3;clear r1 r2 r3 hb;go_wp2;go_roundw
   case rel=>
    have hne:some w.heap.size≠Value.ownBlock (.slice (some ⟨g,0,none⟩) xs.length c):=(by simp only [Value.ownBlock,ne_eq,Option.some.injEq];omega);rw [i64_mask24];refine⟨k+1,by omega,by go_num,by rw [R3.out],?_,?_,?_⟩
    ·rw [<-R2.out];exact(ho.set k _).set k _
    ·exact grownBy_trans hg (grownBy_trans (grownBy_setCell _ _ _ _) (grownBy_setCell _ _ _ _))
    ·exact hbx.grown (grownBy_trans (grownBy_setCell _ _ _ _) (grownBy_setCell _ _ _ _)) hne
   case measure=>simp [intOf];omega
  ·obtain rfl:k=xs.length:=by omega
   rw [List.take_length]at*;rw [List.drop_length,List.append_nil]at ho;have c1:=cr_carry_nonneg (b:=16777216) (by omega) xs h0;have c2:=(cr_bound 0 xs hb (by omega) (by omega)).2;have c3:=cr_vl 16777216 0 xs;have c4:=cr_mem (b:=16777216) (by omega) 0 xs;have c5:=cr_len 16777216 0 xs;simp only [show((16777216:Nat):Int)=16777216 from rfl,Int.add_zero]at c1 c3 c4;generalize (cr 16777216 0 xs).2=cy at*;generalize (cr 16777216 0 xs).1=L0 at*;obtain ⟨r0,rfl⟩:=Int.eq_ofNat_of_zero_le c1;have hr0:r0<=300000000000:=(by omega);have hown:∀k,Value.ownBlock (.slice a xs.length c)=some k->k≠w.heap.size:=fun k hk=>Nat.ne_of_lt (hlt k hk);have C3:=ζ c3;have C4:=ζ c4;have C5:=ζ c5;have H0:=ζ h0;have HO:=ζ hown;clear c1 c2 c3 c4 c5 hS hlt h0 hb hown;go_wp2;go_loopw [0,3] (fun d e wr'=>∃ (a':OA) (n' c':Nat) (done:List Int) (r:Nat),d= .slice a' n' c'/\e= .int .i64 r/\Sl 2 wr' (.slice a' n' c') (L0++done)/\done++dg 16777216 r=dg 16777216 r0/\r<=r0/\
    w.grownBy wr' (Value.ownBlock (.slice a xs.length c))/\Since w.heap.size (.slice a xs.length c) (.slice a' n' c')/\(∀k,Value.ownBlock (.slice a' n' c')=some k->k≠w.heap.size)/\Box wr' w.heap.size (.slice none 0 0) 68) (fun _ e _=>(intOf e).toNat)
   case atStart=>exact⟨a,_,c,[],r0,rfl,rfl,by rw [List.append_nil];exact ho,rfl,Nat.le_refl _,hg,Since.refl _ _,HO.out,hbx⟩
   case round=>
    clear ho hg hbx;rename_i wq _ _;obtain ⟨a',n',c',done,r,rfl,rfl,ho,hd,hrr,hg,hsi,hne,hbx⟩:=hrel;by_cases hr:r=0
    ·subst hr;rw [dg_zero,List.append_nil]at hd;subst hd;have hlen:(dg 16777216 r0).length<=3:=dg_len_le (by omega) (by omega);have hvL:vl 16777216 (L0++dg 16777216 r0)=vl 16777216 xs:=by
      have:=vl_dg (b:=16777216) (by omega) r0;simp only [show((16777216:Nat):Int)=16777216 from rfl]at this;rw [vl_append,this,C5.out];exact C3.out
     have hmL:∀x∈L0++dg 16777216 r0,0<=x/\x < 16777216:=fun x hx=>(List.mem_append.1 hx).elim (C4.out x) (dg_mem (b:=16777216) (by omega) r0 x);have hlL:(L0++dg 16777216 r0).length<=200000000:=(by rw [List.length_append,C5.out];omega);have HV:=ζ hvL;have HM:=ζ hmL;have HL:=ζ ho.len;have HN:=ζ hne;have AA:=ζ ho;clear hvL hmL hne hlen ho;generalize L0++dg 16777216 r0=L at*;go_wp2;go_loop [0] (fun d=>∃ (a2:OA) (m c2:Nat),d= .slice a2 m c2/\m<=L.length/\Sl 2 wr (.slice a2 m c2) (L.take m)/\vl 16777216 (L.take m)=vl 16777216 L/\
      Since w.heap.size (.slice a xs.length c) (.slice a2 m c2)/\(∀k,Value.ownBlock (.slice a2 m c2)=some k->k≠w.heap.size)) (fun d=>match d with | .slice _ m _=>m | _=>0)
     case atStart=>exact⟨a',n',c',rfl,Nat.le_of_eq HL.out,by rw [List.take_of_length_le (Nat.le_of_eq HL.out.symm)];exact AA.out,by rw [HL.out,List.take_length],hsi,HN.out⟩
     case round=>
      obtain ⟨a2,m,c2,rfl,hm,ho2,hv2,hs2,ne2⟩:=hrel;have H2:=ζ hv2;clear hv2;have bc:=hbx.cell;have bf:=hbx.free;have bs:=fun u=>(hbx.set u).cell;have hcap:=ho2.cap;have NE:=ζ ne2;clear ne2;by_cases hm0:m=0
      ·subst hm0;go_wp2;refine bodyPost_ret (v:= .agg #[.slice a2 0 c2]) (by simp [results,Tryz.results149,go_sem,bs]) rfl ?_;have hfin:L.take 0=dg 16777216 (vl 16777216 xs).toNat:=dg_of_take (by omega) (Nat.zero_le _) HM.out (by rw [Int.toNat_of_nonneg H0.out,<-HV.out];exact H2.out) (fun h=>absurd h (by omega));refine⟨a2,0,c2,rfl,?_,?_,hs2⟩
       ·unfold Dg;rw [<-hfin];exact ho2.other (fun e=>NE.out _ e rfl) _
       ·exact grownBy_on hg (grownBy_setCell _ _ _ _) (fun j hj=> .inr (by simp only [Option.some.injEq]at hj;omega))
      ·obtain ⟨j,rfl⟩:∃j,m=j+1:=⟨m - 1,by omega⟩
       obtain ⟨g,rfl,hgl⟩:=ho2.row (by simp;omega);have hc:wr.cell? ⟨g,j,none⟩=some (.int .i64 L[j]):=by
        rw [ho2.cell (k:=j) (by simp;omega)];simp
       by_cases hz:L[j]=0
       ·rw [hz]at hc;go_wp2;go_round
        case rel=>
         refine⟨_,j,c2,rfl,by omega,?_,?_,fun k hk=>hs2 k hk,fun k hk=>NE.out k hk⟩
         ·have:=ho2.pop (k:=j) (by simp;omega);rwa [List.take_take,Nat.min_eq_left (by omega)]at this
         ·rw [<-H2.out,vl_take_zero 16777216 hm hz]
        case measure=>simp
       ·have hz':(L[j]==0)=false:=(by simpa using hz);go_wp2;refine bodyPost_ret (v:= .agg #[.slice (some ⟨g,0,none⟩) (j+1) c2]) (by simp [results,Tryz.results149,go_sem,bs]) rfl ?_;have hfin:L.take (j+1)=dg 16777216 (vl 16777216 xs).toNat:=dg_of_take (by omega) hm HM.out (by rw [Int.toNat_of_nonneg H0.out,<-HV.out];exact H2.out) (fun _=>by
         rw [Nat.add_sub_cancel,List.getElem?_eq_getElem (by omega)];exact hz)
        refine⟨_,_,c2,rfl,?_,?_,hs2⟩
        ·unfold Dg;rw [<-hfin];exact ho2.other (fun e=>NE.out _ e rfl) _
        ·exact grownBy_on hg (grownBy_setCell _ _ _ _) (fun j hj=> .inr (by simp only [Option.some.injEq]at hj;omega))
    ·have hr1:1<=r:=(by omega);have hpos:dg 16777216 r=((r % 16777216:Nat):Int)::dg 16777216 (r / 16777216):=dg_pos (by omega) (by omega);have hlen:(dg 16777216 r0).length<=3:=dg_len_le (by omega) (by omega);have hl2:done.length+1<=3:=(by rw [<-hd,hpos]at hlen;simp at hlen;omega);have HD:=ζ hd;have HP:=ζ hpos;have HN:=ζ hne;have HL:=ζ ho.len;clear hd hpos hne hlen;have hne0:((r:Int) !=0)=true:=(by simp;omega);go_wp2_with (at_builtin;refine wpList_append_sl _ rfl _ _ 66 rfl 2 Tryz.underlying66 info_i64 _ _ rfl (ho.alloc _) _ _ rfl (Sl.one _ _ _) ?c3 ?_)
     case c3=>simp;have:=C5.out;omega
     intro a2 n2 c2 w2 ho2 hg2 hs2;go_wp2;go_roundw
     case rel=>
      have hm:=i64_mask24 (r:Int);rw [hm]at ho2 hg2;have hgw:w.grownBy w2 (Value.ownBlock (.slice a xs.length c)):=grownBy_on (grownBy_trans hg (World.grownBy_alloc _ _ _)) hg2 hsi;have hsz:=hg.size;have hne2:∀k,Value.ownBlock (.slice a2 n2 c2)=some k->k≠w.heap.size:=fun k hk=>by
       rcases hs2 k hk with h | h
       ·exact HN.out k h
       ·omega
      refine⟨a2,n2,c2,done++ [((r % 16777216:Nat):Int)],r / 16777216,rfl,by go_num,ho2,?_,Nat.le_trans (Nat.div_le_self _ _) hrr,hgw,?_,hne2,?_⟩
      ·rw [<-HD.out,HP.out];simp
      ·intro k hk;rcases hs2 k hk with h | h
       ·exact hsi k h
       ·exact .inr (by omega)
      ·exact(hbx.grown (World.grownBy_alloc _ _ none) (by simp)).grown hg2 (fun e=>HN.out _ e.symm rfl)
     case measure=>simp [intOf];omega
theorem plus_round {A L ys:List Int} {i:Nat} {k:Int} (hk:k=1\/k= -1) (hlen:L.length=A.length) (hd:L.drop i=A.drop i) (hv:vl 16777216 L=vl 16777216 A+k*vl 16777216 (ys.take i))
  (hb:∀x∈L,-16777216<=x/\x<=33554432) (hA:∀x∈A,0<=x/\x < 16777216) (hy:∀x∈ys,0<=x/\x < 16777216) (hi:i < ys.length) (hl:i < L.length):
  (0<=L[i]/\L[i] < 16777216)/\(0<=ys[i]/\ys[i] < 16777216)/\(L.set i (L[i] +k*ys[i])).length=A.length/\(L.set i (L[i] +k*ys[i])).drop (i+1)=A.drop (i+1)/\
  vl 16777216 (L.set i (L[i] +k*ys[i]))=vl 16777216 A+k*vl 16777216 (ys.take (i+1))/\∀x∈L.set i (L[i] +k*ys[i]),-16777216<=x/\x<=33554432:=by
 have e1:L[i]=A[i]'(by omega):=by
  have h1:(L.drop i)[0]? =(A.drop i)[0]? :=by rw [hd]
  rw [List.getElem?_drop,List.getElem?_drop,Nat.add_zero,List.getElem?_eq_getElem hl,List.getElem?_eq_getElem (by omega)]at h1;exact Option.some.inj h1
 have a1:=hA _ (List.getElem_mem (l:=A) (n:=i) (by omega));have y1:=hy _ (List.getElem_mem hi);refine⟨by rw [e1];exact a1,y1,by rw [List.length_set,hlen],?_,?_,?_⟩
 ·rw [List.drop_set_of_lt (by omega)];have:L.drop (i+1)=(L.drop i).drop 1:=by rw [List.drop_drop]
  rw [this,hd,List.drop_drop]
 ·rw [vl_set _ _ hl,hv,vl_take_succ _ hi];grind
 ·intro x hx;rcases List.mem_or_eq_of_mem_set hx with h | h
  ·exact hb x h
  ·rcases hk with rfl | rfl<;>omega
theorem mPlus_0 {P_:Prop} (h:P_:=by
 obtain rfl:i=ys.length:=by omega
 rw [List.take_length,HA.out,VN.out]at AA;have e0:0<=vl 16777216 L:=by rw [AA];exact h0
 have e1:L.length<=100000000:=by rw [AB,AF.out];omega
 have e2:∀x∈L,-4611686018427387904<=x/\x<=4611686018427387904:=fun x hx=>by have:=AC x hx;omega
 have E0:=ζ e0;have E2:=ζ e2;have E3:=ζ AA;have GO:=ζ hg;have HOo:=ζ ho;have BX:=ζ bx2;clear e0 e2 AB AE AA AC h0 ho hg bx2;go_wp2_with fail
 refine(settled_any _ L _ ⟨_,_,_,rfl⟩ HOo.out E2.out E0.out e1).mono ?_;rintro e w2 ⟨a3,n3,c3,rfl,hd,hg2,hs2⟩;have bx:=BX.out.grown hg2 (by simp [Value.ownBlock]);have bc:=bx.cell;have bf:=bx.free;have bs:=fun u=>(bx.set u).cell;have HD:=ζ hd;have HG:=ζ hg2;have HS:=ζ hs2;clear hd hg2 hs2;go_wp2;have hzr:=GO.out.size;refine bodyPost_ret (v:= .agg #[.slice a3 n3 c3]) (by simp [results,Tryz.results111,go_sem,bs]) rfl ⟨a3,n3,c3,rfl,?_,?_,fun j hj=>?_⟩
 ·have hd:=HD.out;rw [E3.out]at hd;exact hd.other (fun e=>by
   rcases HS.out _ e with h | h
   ·simp only [Value.ownBlock,Option.some.injEq]at h;omega
   ·omega) _
 ·exact((((AG.out).grown GO.out (by omega) (fun j hj=>by simp only [Option.some.injEq]at hj;omega)).grown HG.out (by omega) (fun j hj=>by simp only [Value.ownBlock,Option.some.injEq]at hj;omega)).setCell (by simp;omega) _)
 ·rcases HS.out _ hj with h | h
  ·simp only [Value.ownBlock,Option.some.injEq]at h;omega
  ·omega):P_:=h
theorem mPlus_1 {P_:Prop} (h:P_:=by
 have P3:=ζ p3;have P4:=ζ p4;have P5:=ζ p5;have P6:=ζ p6;have S0:=ζ ho;clear p3 p4 p5 p6 AB AE AA AC sy hmx2 ho;rcases hk with rfl | rfl;all_goals
  go_wp2;go_roundw
  case rel=>
   refine⟨i+1,_,by go_num,by omega,P3.out,P4.out,P5.out,P6.out,?_,grownBy_trans hg (grownBy_setCell _ _ _ _)⟩;first | (have:=S0.out.set i (L[i] +1*ys[i]);rw [Int.one_mul]at this;rw [Int.one_mul];exact this) | (have:=S0.out.set i (L[i] + -1*ys[i]);rw [Int.neg_one_mul]at this;rw [Int.neg_one_mul];exact this)
  case measure=>simp [intOf];omega):P_:=h
theorem mPlus_2 {P_:Prop} (h:P_:=by
 refine⟨_,?_,?_,?_,?_,?_,ho1⟩
 ·first | exact hlN | exact hlM
 ·first | omega | (simp;omega)
 ·first | rfl | (simp;omega)
 ·first | exact VM.out | (rw [vl_append,vl_replicate,VM.out];omega)
 ·first | exact MM.out | (intro x hx;rcases List.mem_append.1 hx with h | h;exact MM.out x h;rw [(List.mem_replicate.1 h).2];omega)):P_:=h
theorem plus_fresh (a:OA) (n c:Nat) (a2:OA) (n2 c2:Nat) (k:Int) (M N:Nat) (w:World) (h1:Dg w (.slice a n c) M) (h2:Dg w (.slice a2 n2 c2) N) (hk:k=1\/k= -1) (h0:0<=(M:Int)+k*N)
  (hlM:(dg 16777216 M).length<=10000000) (hlN:(dg 16777216 N).length<=10000000):
  Calls Tryz.prog 111 #[.agg #[.slice a n c],.agg #[.slice a2 n2 c2],.int .i64 k] w (RetF w ((M:Int)+k*N).toNat):=by
 unfold Dg at h1 h2;have hn:=h1.len;have hn2:=h2.len;have lt1:=h1.lt;have lt2:=h2.lt;have HM:=ζ h1;have HN:=ζ h2;have vM:=vl_dg (b:=16777216) (by omega) M;have vN:=vl_dg (b:=16777216) (by omega) N;have mM:=dg_mem (b:=16777216) (by omega) M;have mN:=dg_mem (b:=16777216) (by omega) N;simp only [show((16777216:Nat):Int)=16777216 from rfl]at vM vN mM mN;generalize dg 16777216 M=xs at*;generalize dg 16777216 N=ys at*;have nm:=@vM;clear nm;have VM:=ζ vM;have VN:=ζ vN;have MM:=ζ mM;have MN:=ζ mN;have L1:=ζ lt1;have L2:=ζ lt2;clear h1 h2 vM vN mM mN lt1 lt2;obtain rfl:=hn;obtain rfl:=hn2;by_cases hlt:xs.length < ys.length
 ·go_enter Tryz.func111,Tryz.ntmps111;go_wp2_with (first | (at_make;refine wpList_make_sl _ rfl _ _ _ rfl 2 Tryz.underlying66 info_i64 _ _ _ _ _ _ rfl rfl rfl rfl (Nat.le_refl _) (by omega) ?_;intro ho0;simp only [World.size_alloc]at ho0) | (with_reducible refine wpList_copy_sl (o:=⟨some 21,_,_,_,_,_⟩) rfl _ _ _ rfl 2 Tryz.underlying66 size_i64 _ _ _ _ rfl ho0 _ _ _ _ rfl ((((HM.out.alloc _).alloc _).alloc _).alloc _) ?hle ?_))
  case hle=>first | (simp;done) | (simp;omega)
  intro w1 ho1 hg1;have AD:Below w.heap.size w w1:=((((((Below.refl _ w).alloc (Nat.le_refl _) _).alloc (by go_size) _).alloc (by go_size) _).alloc (by go_size) _).grown hg1 (by go_size) (fun j hj=>by simp only [Option.some.injEq]at hj;omega))
  have bx1:Box w1 (w.heap.size+1) (.slice a2 ys.length c2) 68:=Box.grown (((Box.new' (by simp)).alloc _).alloc _) hg1 (by simp);have bx2:Box w1 (w.heap.size+1+1) (.slice none 0 0) 68:=Box.grown ((Box.new' (by simp)).alloc _) hg1 (by simp);have sy1:Sl 2 w1 (.slice a2 ys.length c2) ys:=HN.out.below AD L2.out;have hz1:w.heap.size+4<=w1.heap.size:=by have h:=hg1.size;simp only [World.size_alloc]at h;omega
  obtain ⟨A,hmx,hyA,hlA,hvA,hmA,hoA⟩:∃ (A:List Int),ys.length<=10000000/\ys.length<=A.length/\A.length=ys.length/\vl 16777216 A=M/\(∀x∈A,0<=x/\x < 16777216)/\Sl 2 w1 (.slice (some ⟨w.heap.size+1+1+1,0,none⟩) ys.length ys.length) A:=by
   exact mPlus_2
  have HA:=ζ hvA;have HAm:=ζ hmA;have AF:=ζ hlA;have HO:=ζ hoA;have AG:=ζ AD;have BX1:=ζ bx1;have BX2:=ζ bx2;have SY1:=ζ sy1;clear hvA hmA hlA hoA AD bx1 bx2 sy1 ho0 ho1 hg1 hlt;have c1:=BX1.out.cell;go_wp2;go_loopw [25] (fun ix wr=>∃ (i:Nat) (L:List Int),ix= .int .i64 i/\i<=ys.length/\L.length=A.length/\L.drop i=A.drop i/\vl 16777216 L=vl 16777216 A+k*vl 16777216 (ys.take i)/\(∀x∈L,-16777216<=x/\x<=33554432)/\
   Sl 2 wr (.slice (some ⟨w.heap.size+1+1+1,0,none⟩) ys.length ys.length) L/\w1.grownBy wr (some (w.heap.size+1+1+1))) (fun ix _=>ys.length - (intOf ix).toNat)
  case atStart=>exact⟨0,A,rfl,Nat.zero_le _,rfl,rfl,by simp [vl],fun x hx=>by have:=HAm.out x hx;omega,HO.out,grownBy_refl _ _⟩
  case round=>
   clear c1;obtain ⟨i,L,rfl,hi,AB,AE,AA,AC,ho,hg⟩:=hrel;have bx2:Box wr (w.heap.size+1+1) (.slice none 0 0) 68:=BX2.out.grown hg (by simp);by_cases hlt:i < ys.length
   ·have hil2:i < L.length:=(by omega);obtain ⟨p1,p2,p3,p4,p5,p6⟩:=plus_round (L:=L) (A:=A) hk AB AE AA AC HAm.out MN.out hlt hil2;have sy:Sl 2 wr (.slice a2 ys.length c2) ys:=SY1.out.grown hg (.inr (fun e=>by have:=L2.out _ e;omega));obtain ⟨g2,rfl,hg2⟩:=sy.row (by omega);have c2':=sy.cell hlt;have c3:=ho.cell (k:=i) hil2;have f3:=ho.free i;have hmx2:=AF.out;have hil:i < ys.length:=(by omega);exact mPlus_1
   ·exact mPlus_0
 ·go_enter Tryz.func111,Tryz.ntmps111;go_wp2_with (first | (at_make;refine wpList_make_sl _ rfl _ _ _ rfl 2 Tryz.underlying66 info_i64 _ _ _ _ _ _ rfl rfl rfl rfl (Nat.le_refl _) (by omega) ?_;intro ho0;simp only [World.size_alloc]at ho0) | (with_reducible refine wpList_copy_sl (o:=⟨some 21,_,_,_,_,_⟩) rfl _ _ _ rfl 2 Tryz.underlying66 size_i64 _ _ _ _ rfl ho0 _ _ _ _ rfl ((((HM.out.alloc _).alloc _).alloc _).alloc _) ?hle ?_))
  case hle=>first | (simp;done) | (simp;omega)
  intro w1 ho1 hg1;have AD:Below w.heap.size w w1:=((((((Below.refl _ w).alloc (Nat.le_refl _) _).alloc (by go_size) _).alloc (by go_size) _).alloc (by go_size) _).grown hg1 (by go_size) (fun j hj=>by simp only [Option.some.injEq]at hj;omega))
  have bx1:Box w1 (w.heap.size+1) (.slice a2 ys.length c2) 68:=Box.grown (((Box.new' (by simp)).alloc _).alloc _) hg1 (by simp);have bx2:Box w1 (w.heap.size+1+1) (.slice none 0 0) 68:=Box.grown ((Box.new' (by simp)).alloc _) hg1 (by simp);have sy1:Sl 2 w1 (.slice a2 ys.length c2) ys:=HN.out.below AD L2.out;have hz1:w.heap.size+4<=w1.heap.size:=by have h:=hg1.size;simp only [World.size_alloc]at h;omega
  obtain ⟨A,hmx,hyA,hlA,hvA,hmA,hoA⟩:∃ (A:List Int),xs.length<=10000000/\ys.length<=A.length/\A.length=xs.length/\vl 16777216 A=M/\(∀x∈A,0<=x/\x < 16777216)/\Sl 2 w1 (.slice (some ⟨w.heap.size+1+1+1,0,none⟩) xs.length xs.length) A:=by
   exact mPlus_2
  have HA:=ζ hvA;have HAm:=ζ hmA;have AF:=ζ hlA;have HO:=ζ hoA;have AG:=ζ AD;have BX1:=ζ bx1;have BX2:=ζ bx2;have SY1:=ζ sy1;clear hvA hmA hlA hoA AD bx1 bx2 sy1 ho0 ho1 hg1 hlt;have c1:=BX1.out.cell;go_wp2;go_loopw [25] (fun ix wr=>∃ (i:Nat) (L:List Int),ix= .int .i64 i/\i<=ys.length/\L.length=A.length/\L.drop i=A.drop i/\vl 16777216 L=vl 16777216 A+k*vl 16777216 (ys.take i)/\(∀x∈L,-16777216<=x/\x<=33554432)/\
   Sl 2 wr (.slice (some ⟨w.heap.size+1+1+1,0,none⟩) xs.length xs.length) L/\w1.grownBy wr (some (w.heap.size+1+1+1))) (fun ix _=>ys.length - (intOf ix).toNat)
  case atStart=>exact⟨0,A,rfl,Nat.zero_le _,rfl,rfl,by simp [vl],fun x hx=>by have:=HAm.out x hx;omega,HO.out,grownBy_refl _ _⟩
  case round=>
   clear c1;obtain ⟨i,L,rfl,hi,AB,AE,AA,AC,ho,hg⟩:=hrel;have bx2:Box wr (w.heap.size+1+1) (.slice none 0 0) 68:=BX2.out.grown hg (by simp);by_cases hlt:i < ys.length
   ·have hil2:i < L.length:=(by omega);obtain ⟨p1,p2,p3,p4,p5,p6⟩:=plus_round (L:=L) (A:=A) hk AB AE AA AC HAm.out MN.out hlt hil2;have sy:Sl 2 wr (.slice a2 ys.length c2) ys:=SY1.out.grown hg (.inr (fun e=>by have:=L2.out _ e;omega));obtain ⟨g2,rfl,hg2⟩:=sy.row (by omega);have c2':=sy.cell hlt;have c3:=ho.cell (k:=i) hil2;have f3:=ho.free i;have hmx2:=AF.out;have hil:i < xs.length:=(by omega);exact mPlus_1
   ·exact mPlus_0
theorem plus_any (a:OA) (n c:Nat) (a2:OA) (n2 c2:Nat) (k:Int) (M N:Nat) (w:World) (h1:Dg w (.slice a n c) M) (h2:Dg w (.slice a2 n2 c2) N) (hk:k=1\/k= -1) (h0:0<=(M:Int)+k*N)
  (hlM:(dg 16777216 M).length<=10000000) (hlN:(dg 16777216 N).length<=10000000):
  Calls Tryz.prog 111 #[.agg #[.slice a n c],.agg #[.slice a2 n2 c2],.int .i64 k] w (RetD w ((M:Int)+k*N).toNat):=
 (plus_fresh a n c a2 n2 c2 k M N w h1 h2 hk h0 hlM hlN).mono fun _ _ ⟨a',n',c',he,hd,hb,_⟩=>⟨a',n',c',he,hd,hb⟩
structure TI (xs ys:List Int) (L:List Int) (i k:Nat) (cy:Int):Prop where
 len:L.length=xs.length+ys.length
 val:vl 16777216 L+16777216 ^ (i+k)*cy=(vl 16777216 (xs.take i)+16777216 ^ i*(xs[i]?.getD 0*vl 16777216 (ys.take k)) - 16777216 ^ i*(xs[i]?.getD 0*vl 16777216 ys))+16777216 ^ i*(xs[i]?.getD 0*vl 16777216 ys)+vl 16777216 (xs.take i)*(vl 16777216 ys - 1)
 rng:∀x∈L,0<=x/\x < 16777216
 zer:∀j,i+ys.length<=j->L[j]?.getD 0=0
 cy0:0<=cy
 cy1:cy < 16777216
structure TO (xs ys:List Int) (L:List Int) (i:Nat):Prop where
 len:L.length=xs.length+ys.length
 val:vl 16777216 L=vl 16777216 (xs.take i)*vl 16777216 ys
 rng:∀x∈L,0<=x/\x < 16777216
 zer:∀j,i+ys.length<=j->L[j]?.getD 0=0
theorem TO.start (xs ys:List Int):TO xs ys (List.replicate (xs.length+ys.length) 0) 0:=
 ⟨by simp,by simp [vl_replicate,vl],fun x hx=>by rw [(List.mem_replicate.1 hx).2];omega,fun j _=>by rw [List.getElem?_replicate];split<;>rfl⟩
theorem TO.inner {xs ys L:List Int} {i:Nat} (h:TO xs ys L i):TI xs ys L i 0 0:=
 ⟨h.len,by rw [h.val];simp [vl];grind,h.rng,h.zer,by omega,by omega⟩
theorem mul_bd {x y:Int} (hx:0<=x/\x < 16777216) (hy:0<=y/\y < 16777216):0<=x*y/\x*y<=281474943156225:=
 ⟨Int.mul_nonneg hx.1 hy.1,Int.le_trans (Int.mul_le_mul (show x<=16777215 by omega) (show y<=16777215 by omega) hy.1 (by omega)) (by omega)⟩
theorem getD_set (L:List Int) (i j:Nat) (y:Int) (hi:i < L.length):(L.set i y)[j]?.getD 0=if i=j then y else L[j]?.getD 0:=by
 rw [List.getElem?_set];by_cases h:i=j
 ·rw [if_pos h,if_pos h,if_pos (by omega)];rfl
 ·rw [if_neg h,if_neg h]
theorem TI.step {xs ys L:List Int} {i k:Nat} {cy:Int} (h:TI xs ys L i k cy) (hx:∀x∈xs,0<=x/\x < 16777216) (hy:∀y∈ys,0<=y/\y < 16777216) (hi:i < xs.length) (hk:k < ys.length) (hl:i+k < L.length):
  TI xs ys (L.set (i+k) ((cy+(xs[i] *ys[k] +L[i+k])) % 16777216)) i (k+1) ((cy+(xs[i] *ys[k] +L[i+k])) / 16777216):=by
 have b1:=mul_bd (hx _ (List.getElem_mem hi)) (hy _ (List.getElem_mem hk));have b2:=h.rng _ (List.getElem_mem hl);have b3:=h.cy0;have b4:=h.cy1;refine⟨by rw [List.length_set,h.len],?_,?_,?_,by omega,by omega⟩
 ·have hv:=h.val;rw [vl_set _ _ hl,vl_take_succ _ hk];have hgi:xs[i]?.getD 0=xs[i]:=by rw [List.getElem?_eq_getElem hi];rfl
  rw [hgi]at hv⊢;have hd:=Int.mul_ediv_add_emod (cy+(xs[i] *ys[k] +L[i+k])) 16777216;generalize (cy+(xs[i] *ys[k] +L[i+k])) % 16777216=m at*;generalize (cy+(xs[i] *ys[k] +L[i+k])) / 16777216=q at*;have hp:(16777216:Int) ^ (i+(k+1))=16777216 ^ (i+k)*16777216:=by rw [<-Nat.add_assoc,Int.pow_succ]
  have hq:(16777216:Int) ^ (i+k)=16777216 ^ i*16777216 ^ k:=Int.pow_add ..;rw [hp];have e:(16777216:Int) ^ (i+k)*16777216*q=16777216 ^ (i+k)*(cy+(xs[i] *ys[k] +L[i+k]) - m):=by
   rw [<-hd];grind
  rw [e];rw [hq]at hv⊢;grind
 ·intro x hx';rcases List.mem_or_eq_of_mem_set hx' with h' | h'
  ·exact h.rng x h'
  ·omega
 ·intro j hj;rw [getD_set _ _ _ _ hl,if_neg (by omega)];exact h.zer j hj
theorem TI.done {xs ys L:List Int} {i:Nat} {cy:Int} (h:TI xs ys L i ys.length cy) (hi:i < xs.length) (hl:i+ys.length < L.length):TO xs ys (L.set (i+ys.length) cy) (i+1):=by
 have hz:L[i+ys.length]=0:=by have:=h.zer (i+ys.length) (Nat.le_refl _);rwa [List.getElem?_eq_getElem hl]at this
 refine⟨by rw [List.length_set,h.len],?_,?_,?_⟩
 ·have hv:=h.val;rw [vl_set _ _ hl,hz,vl_take_succ _ hi];have hgi:xs[i]?.getD 0=xs[i]:=by rw [List.getElem?_eq_getElem hi];rfl
  rw [hgi,List.take_length]at hv;grind
 ·intro x hx';rcases List.mem_or_eq_of_mem_set hx' with h' | h'
  ·exact h.rng x h'
  ·rw [h'];exact⟨h.cy0,h.cy1⟩
 ·intro j hj;rw [getD_set _ _ _ _ hl,if_neg (by omega)];exact h.zer j (by omega)
theorem times_any (a:OA) (n c:Nat) (a2:OA) (n2 c2:Nat) (M N:Nat) (w:World) (h1:Dg w (.slice a n c) M) (h2:Dg w (.slice a2 n2 c2) N)
  (hlM:(dg 16777216 M).length<=10000000) (hlN:(dg 16777216 N).length<=10000000):
  Calls Tryz.prog 110 #[.agg #[.slice a n c],.agg #[.slice a2 n2 c2]] w (RetD w (M*N)):=by
 unfold Dg at h1 h2;have hn:=h1.len;have hn2:=h2.len;have L1:=ζ h1.lt;have L2:=ζ h2.lt;have HM:=ζ h1;have HN:=ζ h2;have VM:=ζ (show vl 16777216 (dg 16777216 M)=(M:Int)from vl_dg (b:=16777216) (by omega) M);have VN:=ζ (show vl 16777216 (dg 16777216 N)=(N:Int)from vl_dg (b:=16777216) (by omega) N);have MM:=ζ (show ∀x∈dg 16777216 M,0<=x/\x < 16777216 from dg_mem (b:=16777216) (by omega) M);have MN:=ζ (show ∀x∈dg 16777216 N,0<=x/\x < 16777216 from dg_mem (b:=16777216) (by omega) N);clear h1 h2;generalize dg 16777216 M=xs at*;generalize dg 16777216 N=ys at*;subst hn;subst hn2;go_enter Tryz.func110,Tryz.ntmps110;go_wp2_with (first | (at_make;refine wpList_make_sl _ rfl _ _ _ rfl 2 Tryz.underlying66 info_i64 _ _ _ _ (xs.length+ys.length) (xs.length+ys.length) rfl rfl (by omega) (by omega) (Nat.le_refl _) (by omega) ?_;intro ho0;simp only [World.size_alloc]at ho0))
 have AE:=ζ ((((((Below.refl w.heap.size w).alloc (Nat.le_refl _) (.cells #[.slice a xs.length c] 68)).alloc (by go_size) (.cells #[.slice a2 ys.length c2] 68)).alloc (by go_size) (.cells #[.slice none 0 0] 68)).alloc (by go_size) (.cells (madeCells #[.int .i64 0] (xs.length+ys.length)) 2)));have AA:=ζ (((((Box.new' (v:= .slice a2 ys.length c2) (t:=68) (w:=w.alloc (.cells #[.slice a xs.length c] 68)) (b:=w.heap.size+1) (by simp)).alloc (.cells #[.slice none 0 0] 68)).alloc (.cells (madeCells #[.int .i64 0] (xs.length+ys.length)) 2))));have AB:=ζ ((((Box.new' (v:= .slice none 0 0) (t:=68) (w:=(w.alloc (.cells #[.slice a xs.length c] 68)).alloc (.cells #[.slice a2 ys.length c2] 68)) (b:=w.heap.size+1+1) (by simp)).alloc (.cells (madeCells #[.int .i64 0] (xs.length+ys.length)) 2))));have hO:=ζ ho0;clear ho0;go_loopw [22] (fun ix wr=>∃ (i:Nat) (L:List Int),ix= .int .i64 i/\i<=xs.length/\TO xs ys L i/\Below w.heap.size w wr/\Box wr (w.heap.size+1) (.slice a2 ys.length c2) 68/\Box wr (w.heap.size+1+1) (.slice none 0 0) 68/\
   Sl 2 wr (.slice (some ⟨w.heap.size+1+1+1,0,none⟩) (xs.length+ys.length) (xs.length+ys.length)) L) (fun ix _=>xs.length - (intOf ix).toNat)
 case atStart=>exact⟨0,_,rfl,Nat.zero_le _,TO.start xs ys,AE.out,AA.out,AB.out,hO.out⟩
 case round=>
  clear AE AA AB hO;obtain ⟨i,L,rfl,hi,hT,hB,AA,AB,ho⟩:=hrel;have bc1:=AA.cell;by_cases hlt:i < xs.length
  ·have sx:Sl 2 wr (.slice a xs.length c) xs:=HM.out.below hB L1.out;obtain ⟨g1,rfl,hg1⟩:=sx.row (by omega);have cx:=sx.cell hlt;have bX:=MM.out _ (List.getElem_mem hlt);have HB:=ζ hB;have AD:=ζ AA;have AC:=ζ AB;have HO:=ζ ho;have HT:=ζ hT.inner;clear sx hB AA AB ho hT;go_wp2;clear cx bc1;obtain ⟨wo,hwo⟩:∃wo:World,wo=wr:=⟨_,rfl⟩
   go_loopw [8,30] (fun cv ix wi=>∃ (k:Nat) (cy:Int) (Li:List Int),ix= .int .i64 k/\cv= .int .i64 cy/\k<=ys.length/\Hid (TI xs ys Li i k cy)/\Below w.heap.size w wi/\Box wi (w.heap.size+1) (.slice a2 ys.length c2) 68/\Box wi (w.heap.size+1+1) (.slice none 0 0) 68/\
    Sl 2 wi (.slice (some ⟨w.heap.size+1+1+1,0,none⟩) (xs.length+ys.length) (xs.length+ys.length)) Li) (fun _ ix _=>ys.length - (intOf ix).toNat)
   case atStart=>exact⟨0,0,L,rfl,rfl,Nat.zero_le _,HT,HB.out,AD.out,AC.out,HO.out⟩
   case round=>
    clear HB AD AC HO HT hwo;obtain ⟨k,cy,Li,rfl,rfl,hk,hT,hB,AA,AB,ho⟩:=hrel;have hlen:=hT.out.len;by_cases hkl:k < ys.length
    ·have sy:Sl 2 wr (.slice a2 ys.length c2) ys:=HN.out.below hB L2.out;obtain ⟨g2,rfl,hg2⟩:=sy.row (by omega);have hil:i+k < Li.length:=(by omega);have hil2:i+k < xs.length+ys.length:=(by omega);have cyv:=sy.cell hkl;have co:=ho.cell hil;have fo:=ho.free (i+k);have bY:=MN.out _ (List.getElem_mem hkl);have bO:=hT.out.rng _ (List.getElem_mem hil);have b0:=hT.out.cy0;have b1:=hT.out.cy1;have b2:=mul_bd bX bY;have HB:=ζ hB;have AD:=ζ AA;have AC:=ζ AB;have HO:=ζ ho;have HT:=ζ (hT.out.step MM.out MN.out hlt hkl hil);clear sy hB AA AB ho hT;go_wp2;go_roundw
     case rel=>
      rw [i64_mask24];exact⟨k+1,_,_,by go_num,rfl,by omega,HT,HB.out.setCell (by simp;omega) _,AD.out.other (by simp) _,AC.out.other (by simp) _,HO.out.set _ _⟩
     case measure=>simp [intOf];omega
    ·obtain rfl:k=ys.length:=by omega
     have hil:i+ys.length < Li.length:=(by omega);have hil2:i+ys.length < xs.length+ys.length:=(by omega);have co:=ho.cell hil;have fo:=ho.free (i+ys.length);have bc1:=AA.cell;have HB:=ζ hB;have AD:=ζ AA;have AC:=ζ AB;have HO:=ζ ho;have HT:=ζ (hT.out.done hlt hil);clear hB AA AB ho hT;go_wp2;go_roundw
     case rel=>exact⟨i+1,_,by go_num,by omega,HT.out,HB.out.setCell (by simp;omega) _,AD.out.other (by simp) _,AC.out.other (by simp) _,HO.out.set _ _⟩
     case measure=>simp [intOf];omega
  ·obtain rfl:i=xs.length:=by omega
   have hv:vl 16777216 L=((M*N:Nat):Int):=(by rw [hT.val,List.take_length,VM.out,VN.out,Int.natCast_mul]);have e0:=ζ (show 0<=vl 16777216 L by rw [hv];omega);have e1:=ζ (show L.length<=100000000 by rw [hT.len];omega);have e2:=ζ (show ∀x∈L,-4611686018427387904<=x/\x<=4611686018427387904 from fun x hx=>by have:=hT.rng x hx;omega);have HV:=ζ hv;have HB:=ζ hB;have AC:=ζ AB;have HO:=ζ ho;clear hB AA AB ho hT hv bc1;go_wp2_with fail
   refine(settled_any _ L _ ⟨_,_,_,rfl⟩ HO.out e2.out e0.out e1.out).mono ?_;rintro e w2 ⟨a3,n3,c3,rfl,hd,hg2,hs2⟩;have bx:=AC.out.grown hg2 (by simp [Value.ownBlock]);have bc:=bx.cell;have bf:=bx.free;have bs:=fun u=>(bx.set u).cell;have HF:=ζ (fin_D (R:=w.heap.size+1+1) HB.out (by omega) AC.out.lt (by omega) (by omega) hd hg2 hs2 HV.out);clear hd hg2 hs2 bx;go_wp2;exact bodyPost_ret (v:= .agg #[.slice a3 n3 c3]) (by simp [results,Tryz.results110,go_sem,bs]) rfl HF.out
theorem even_any (a:OA) (n c:Nat) (M:Nat) (w:World) (h1:Dg w (.slice a n c) M) (hM:0 < M):
  Calls Tryz.prog 234 #[.agg #[.slice a n c]] w fun e w'=>e= .returned (.bool (((M:Int) % 2)==0))/\w'=w.alloc (.cells #[.slice a n c] 68):=by
 unfold Dg at h1;have hn:=h1.len;have hd:dg 16777216 M=((M % 16777216:Nat):Int)::dg 16777216 (M / 16777216):=dg_pos (by omega) hM;have hp:0 < (dg 16777216 M).length:=by rw [hd];simp
 obtain ⟨g,rfl,hg⟩:=h1.row hp;have hc:=(h1.alloc (.cells #[.slice (some ⟨g,0,none⟩) n c] 68)).cell hp;have hx:(dg 16777216 M)[0]=((M % 16777216:Nat):Int):=by simp only [hd,List.getElem_cons_zero]
 rw [hx]at hc;have hm:=i64_mask1 ((M % 16777216:Nat):Int);have hm2:((M % 16777216:Nat):Int) % 2=(M:Int) % 2:=by omega
 rw [hm2]at hm;have hn0:0 < n:=by omega
 clear hx hm2 hd hp hn h1;generalize ((M % 16777216:Nat):Int)=d at*;go_enter Tryz.func234,Tryz.ntmps234;go_wp2;go_ret;exact⟨rfl,rfl⟩
theorem divisor_any (x y:Nat) (w:World) (hx:x < 9223372036854775808) (hy:y < 9223372036854775808):
  Calls Tryz.prog 236 #[.int .u64 x,.int .u64 y] w fun e w'=>e= .returned (.int .u64 (Nat.gcd x y:Nat))/\Below w.heap.size w w':=by
 go_enter Tryz.func236,Tryz.ntmps236;go_wp2;go_loopw [0,1] (fun u v wr=>∃p q:Nat,u= .int .u64 p/\v= .int .u64 q/\p < 9223372036854775808/\q < 9223372036854775808/\Hid (Nat.gcd p q=Nat.gcd x y)/\Below w.heap.size w wr) (fun _ v _=>(intOf v).toNat)
 case atStart=>exact⟨x,y,rfl,rfl,hx,hy,rfl,Below.refl _ _⟩
 case round=>
  obtain ⟨p,q,rfl,rfl,hp,hq,hg,hB⟩:=hrel;by_cases h0:q=0
  ·subst h0;go_wp2;go_ret;exact⟨by rw [<-hg.out,Nat.gcd_zero_right];rfl,hB⟩
  ·have h1:1<=q:=(by omega);have h2:((q:Int) !=0)=true:=(by simp;omega);have HB:=ζ hB;clear hB;go_wp2;go_quiet (fail)
   go_wp2;go_roundw
   case rel=>
    have hlt:=Nat.mod_lt p (show 0 < q by omega);exact⟨q,p % q,rfl,by rw [Int.natCast_emod],hq,by omega,by unfold Hid;rw [<-hg.out,Nat.gcd_comm p q,Nat.gcd_rec q p,Nat.gcd_comm],Below.drewN HB.out _⟩
   case measure=>
    have hlt:=Nat.mod_lt p (show 0 < q by omega);simp only [intOf];rw [<-Int.natCast_emod];omega
def cmpN (M N:Nat):Int:=if M < N then -1 else if N < M then 1 else 0
theorem size_any (a:OA) (n c:Nat) (a2:OA) (n2 c2:Nat) (M N:Nat) (w:World) (h1:Dg w (.slice a n c) M) (h2:Dg w (.slice a2 n2 c2) N)
  (hlM:(dg 16777216 M).length<=10000000) (_hlN:(dg 16777216 N).length<=10000000):
  Calls Tryz.prog 173 #[.agg #[.slice a n c],.agg #[.slice a2 n2 c2]] w fun e w'=>e= .returned (.int .i64 (cmpN M N))/\Below w.heap.size w w':=by
 unfold Dg at h1 h2;have hn:=h1.len;have hn2:=h2.len;have L1:=ζ h1.lt;have L2:=ζ h2.lt;have HM:=ζ h1;have HN:=ζ h2;have LT:=ζ (fun h=>lt_of_len_lt (b:=16777216) (by omega) (m:=M) (n:=N) h);have GT:=ζ (fun h=>lt_of_len_lt (b:=16777216) (by omega) (m:=N) (n:=M) h);have VM:=ζ (show vl 16777216 (dg 16777216 M)=(M:Int)from vl_dg (b:=16777216) (by omega) M);have VN:=ζ (show vl 16777216 (dg 16777216 N)=(N:Int)from vl_dg (b:=16777216) (by omega) N);have MM:=ζ (show ∀x∈dg 16777216 M,0<=x/\x < 16777216 from dg_mem (b:=16777216) (by omega) M);have MN:=ζ (show ∀x∈dg 16777216 N,0<=x/\x < 16777216 from dg_mem (b:=16777216) (by omega) N);clear h1 h2;generalize dg 16777216 M=xs at*;generalize dg 16777216 N=ys at*;subst hn;subst hn2;by_cases hlt:xs.length < ys.length
 ·have hc:=ζ (show cmpN M N= -1 by unfold cmpN;rw [if_pos (LT.out hlt)]);go_enter Tryz.func173,Tryz.ntmps173;go_wp2;go_ret;exact⟨ret_int hc.out.symm,((Below.refl _ _).alloc (Nat.le_refl _) _).alloc (by go_size) _⟩
 by_cases hgt:ys.length < xs.length
 ·have hc:=ζ (show cmpN M N=1 by unfold cmpN;rw [if_neg (by have:=GT.out hgt;omega),if_pos (GT.out hgt)]);go_enter Tryz.func173,Tryz.ntmps173;go_wp2;go_ret;exact⟨ret_int hc.out.symm,((Below.refl _ _).alloc (Nat.le_refl _) _).alloc (by go_size) _⟩
 have heq:ys.length=xs.length:=by omega
 clear hlt hgt LT GT _hlN;rw [heq]at HN L2;go_enter Tryz.func173,Tryz.ntmps173;rw [heq];have HE:=ζ heq;clear heq;go_wp2;have AC:=ζ (((Below.refl w.heap.size w).alloc (Nat.le_refl _) (.cells #[.slice a xs.length c] 68)).alloc (by go_size) (.cells #[.slice a2 xs.length c2] 68));have AA:=ζ ((Box.new' (v:= .slice a xs.length c) (t:=68) (w:=w) (b:=w.heap.size) rfl).alloc (.cells #[.slice a2 xs.length c2] 68));have AB:=ζ (Box.new' (v:= .slice a2 xs.length c2) (t:=68) (w:=w.alloc (.cells #[.slice a xs.length c] 68)) (b:=w.heap.size+1) (by simp));go_loopw [5] (fun ix wr=>∃ (k:Nat),ix= .int .i64 ((k:Int) - 1)/\k<=xs.length/\Hid (xs.drop k=ys.drop k)/\Below w.heap.size w wr/\Box wr w.heap.size (.slice a xs.length c) 68/\Box wr (w.heap.size+1) (.slice a2 xs.length c2) 68) (fun ix _=>(intOf ix+1).toNat)
 case atStart=>exact⟨xs.length,rfl,Nat.le_refl _,by unfold Hid;rw [List.drop_length,List.drop_of_length_le (Nat.le_of_eq HE.out)],AC.out,AA.out,AB.out⟩
 case round=>
  clear AC AA AB;obtain ⟨k,rfl,hk,hd,hB,AA,AB⟩:=hrel;cases k with
  | zero=>
    have HB:=ζ hB;clear AA AB hB;go_wp2;go_ret;refine⟨ret_int ?_,HB.out⟩;have e:=hd.out;rw [List.drop_zero,List.drop_zero]at e;have e2:(M:Int)=N:=(by rw [<-VM.out,<-VN.out,e]);unfold cmpN;rw [if_neg (by omega),if_neg (by omega)]
  | succ k=>
    have b0:=AA.cell;have b1:=AB.cell;have sx:Sl 2 wr (.slice a xs.length c) xs:=HM.out.below hB L1.out;have sy:Sl 2 wr (.slice a2 xs.length c2) ys:=HN.out.below hB L2.out;obtain ⟨g1,rfl,hg1⟩:=sx.row (by omega);have hky:k < ys.length:=(by rw [HE.out];omega);obtain ⟨g2,rfl,hg2⟩:=sy.row (by omega);have cx:=sx.cell (k:=k) (by omega);have cy:=sy.cell hky;have HD:=ζ hd.out;have HB:=ζ hB;have AD:=ζ AA;have AE:=ζ AB;clear sx sy hB AA AB hd;rw [show((k+1:Nat):Int) - 1=(k:Int)by omega];rcases Int.lt_trichotomy xs[k] ys[k]with hl | he | hg
    ·have hc:=ζ (show cmpN M N= -1 by
      unfold cmpN;rw [if_pos];have:=vl_lt_of_top (b:=16777216) (by omega) (l:=xs) (r:=ys) HE.out.symm MM.out MN.out HD.out (by omega) hky hl;have e1:=VM.out;have e2:=VN.out;simp only [show((16777216:Nat):Int)=16777216 from rfl]at this;omega)
     go_wp2;go_quiet (fail)
     go_wp2;go_ret;exact⟨ret_int hc.out.symm,Below.drewN HB.out _⟩
    ·have hl:¬ xs[k] < ys[k]:=(by omega);have hg:¬ ys[k] < xs[k]:=(by omega);have he':=ζ he;clear he;go_wp2;go_quiet (fail)
     go_wp2;go_quiet (fail)
     go_wp2;go_roundw
     case rel=>exact⟨k,rfl,by omega,by
      unfold Hid;rw [List.drop_eq_getElem_cons (by omega),List.drop_eq_getElem_cons hky,he'.out,HD.out],Below.drewN HB.out _,AD.out.drewN _,AE.out.drewN _⟩
     case measure=>simp [intOf]
    ·have hc:=ζ (show cmpN M N=1 by
      have:=vl_lt_of_top (b:=16777216) (by omega) (l:=ys) (r:=xs) HE.out MN.out MM.out HD.out.symm hky (by omega) hg;have e1:=VM.out;have e2:=VN.out;simp only [show((16777216:Nat):Int)=16777216 from rfl]at this;unfold cmpN;rw [if_neg (by omega),if_pos (by omega)])
     have hl:¬ xs[k] < ys[k]:=(by omega);go_wp2;go_quiet (fail)
     go_wp2;go_quiet (fail)
     go_wp2;go_ret;exact⟨ret_int hc.out.symm,Below.drewN (Below.drewN HB.out _) _⟩
theorem vl_map_mul (b k:Int):∀l:List Int,vl b (l.map (· *k))=vl b l*k
 | []=>by simp [vl]
 | x::l=>by simp only [List.map_cons,vl,vl_map_mul b k l];grind
theorem pow24 (r:Nat) (h:r < 24):(1:Int)<=2 ^ r/\(2:Int) ^ r<=8388608:=by
 constructor
 ·exact Int.pow_pos (by omega)
 ·have h1:2 ^ r<=2 ^ 23:=Nat.pow_le_pow_right (by omega) (by omega);have h2:((2 ^ r:Nat):Int)<=((2 ^ 23:Nat):Int):=by exact_mod_cast h1
  rw [Int.natCast_pow]at h2;exact h2
theorem mul_bd24 {x y:Int} (hx:0<=x/\x < 16777216) (hy:1<=y/\y<=8388608):0<=x*y/\x*y<=140737479966720:=
 ⟨Int.mul_nonneg hx.1 (by omega),Int.le_trans (Int.mul_le_mul (show x<=16777215 by omega) hy.2 (by omega) (by omega)) (by omega)⟩
theorem pow_split (k:Nat):(2:Nat) ^ k=16777216 ^ (k / 24)*2 ^ (k % 24):=by
 have h:(16777216:Nat)=2 ^ 24:=by decide
 rw [h,<-Nat.pow_mul,<-Nat.pow_add];congr 1;omega
theorem shifted_any (a:OA) (n c:Nat) (M k:Nat) (w:World) (h1:Dg w (.slice a n c) M) (hlM:(dg 16777216 M).length<=10000000) (hk:k<=10000000):
  Calls Tryz.prog 237 #[.agg #[.slice a n c],.int .i64 k] w (RetD w (M*2 ^ k)):=by
 unfold Dg at h1;have hn:=h1.len;have L1:=ζ h1.lt;have HM:=ζ h1;have VM:=ζ (show vl 16777216 (dg 16777216 M)=(M:Int)from vl_dg (b:=16777216) (by omega) M);have MM:=ζ (show ∀x∈dg 16777216 M,0<=x/\x < 16777216 from dg_mem (b:=16777216) (by omega) M);clear h1;generalize dg 16777216 M=xs at*;subst hn;go_enter Tryz.func237,Tryz.ntmps237;go_wp2_with (first | (at_make;refine wpList_make_sl _ rfl _ _ _ rfl 2 Tryz.underlying66 info_i64 _ _ _ _ (k / 24) (k / 24+xs.length+1) rfl rfl (by omega) (by omega) (by omega) (by omega) ?_;intro ho0;simp only [World.size_alloc]at ho0))
 have AD:=ζ (((((Below.refl w.heap.size w).alloc (Nat.le_refl _) (.cells #[.slice a xs.length c] 68)).alloc (by go_size) (.cells #[.slice none 0 0] 68)).alloc (by go_size) (.cells (madeCells #[.int .i64 0] (k / 24+xs.length+1)) 2)));have AA:=ζ ((((Box.new' (v:= .slice none 0 0) (t:=68) (w:=w.alloc (.cells #[.slice a xs.length c] 68)) (b:=w.heap.size+1) (by simp)).alloc (.cells (madeCells #[.int .i64 0] (k / 24+xs.length+1)) 2))));have hO:=ζ ho0;clear ho0;go_loopw [5,21] (fun d ix wr=>∃ (i:Nat) (g c':Nat),ix= .int .i64 i/\i<=xs.length/\d= .slice (some ⟨g,0,none⟩) (k / 24+i) c'/\w.heap.size+1 < g/\Below w.heap.size w wr/\Box wr (w.heap.size+1) (.slice none 0 0) 68/\
   Sl 2 wr (.slice (some ⟨g,0,none⟩) (k / 24+i) c') (List.replicate (k / 24) 0++(xs.map (· *2 ^ (k % 24))).take i)) (fun _ ix _=>xs.length - (intOf ix).toNat)
 case atStart=>exact⟨0,_,_,rfl,Nat.zero_le _,rfl,by omega,AD.out,AA.out,by simpa using hO.out⟩
 case round=>
  clear AD AA hO;obtain ⟨i,g,c',rfl,hi,rfl,hgb,hB,AA,ho⟩:=hrel;by_cases hlt:i < xs.length
  ·have sx:Sl 2 wr (.slice a xs.length c) xs:=HM.out.below hB L1.out;obtain ⟨g1,rfl,hg1⟩:=sx.row (by omega);have cx:=sx.cell hlt;have bX:=MM.out _ (List.getElem_mem hlt);have HB:=ζ hB;have AB:=ζ AA;have HO:=ζ ho;clear sx hB AA ho;have hr:=pow24 (k % 24) (by omega);have hm:=ζ (mul_bd24 bX hr);have hmo:=hm.out;go_wp2_with (at_builtin;refine wpList_append_sl _ rfl _ _ 66 rfl 2 Tryz.underlying66 info_i64 _ _ rfl (HO.out.alloc _) _ _ rfl (Sl.one _ _ _) ?c3 ?_)
   case c3=>simp;omega
   intro a2 n2 c2 w2 ho2 hg2 hs2;have hn2:=ho2.len;obtain ⟨g2,rfl,hgg⟩:=ho2.row (by simp;omega);have AE:=ζ ho2;have AC:=ζ hg2;have AF:=ζ hs2;have hlen:n2=k / 24+(i+1):=(by rw [hn2];simp;omega);subst hlen;clear ho2 hg2 hs2 hn2 hm;go_wp2;go_roundw
   case rel=>
    have hgz:=AC.out.size;simp only [World.size_alloc]at hgz;have hbz:=HB.out.size;have hxl:=AB.out.lt;refine⟨i+1,g2,c2,by go_num,by omega,rfl,?_,?_,?_,?_⟩
    ·rcases AF.out g2 rfl with h | h
     ·simp only [Value.ownBlock,Option.some.injEq]at h;omega
     ·omega
    ·exact((HB.out.alloc hbz _).grown AC.out (by go_size) (fun j hj=>by simp only [Value.ownBlock,Option.some.injEq]at hj;omega))
    ·exact(AB.out.alloc _).grown AC.out (by simp only [Value.ownBlock,ne_eq,Option.some.injEq];omega)
    ·have h:=AE.out;rw [List.take_succ_eq_append_getElem (by simpa using hlt),List.getElem_map];exact h
   case measure=>simp [intOf];omega
  ·obtain rfl:i=xs.length:=by omega
   rw [List.take_of_length_le (by simp)]at ho;have hv:vl 16777216 (List.replicate (k / 24) 0++xs.map (· *2 ^ (k % 24)))=((M*2 ^ k:Nat):Int):=by
    rw [vl_append,vl_replicate,vl_map_mul,VM.out,List.length_replicate,pow_split k];simp only [Int.natCast_mul,Int.natCast_pow];grind
   have e0:=ζ (show 0<=vl 16777216 (List.replicate (k / 24) 0++xs.map (· *2 ^ (k % 24)))by rw [hv];omega);have e1:=ζ (show(List.replicate (k / 24) 0++xs.map (· *2 ^ (k % 24))).length<=100000000 by simp;omega);have e2:=ζ (show ∀x∈List.replicate (k / 24) 0++xs.map (· *2 ^ (k % 24)),-4611686018427387904<=x/\x<=4611686018427387904 from fun x hx=>by
    rcases List.mem_append.1 hx with h | h
    ·rw [(List.mem_replicate.1 h).2];omega
    ·obtain ⟨y,hy,rfl⟩:=List.mem_map.1 h;have:=mul_bd24 (MM.out y hy) (pow24 (k % 24) (by omega));omega)
   have HV:=ζ hv;have HB:=ζ hB;have AB:=ζ AA;have HO:=ζ ho;clear hB AA ho hv;generalize List.replicate (k / 24) 0++xs.map (· *2 ^ (k % 24))=L at*;go_wp2_with fail
   refine(settled_any _ L _ ⟨_,_,_,rfl⟩ HO.out e2.out e0.out e1.out).mono ?_;rintro e w2 ⟨a3,n3,c3,rfl,hd,hg2,hs2⟩;have bx:=AB.out.grown hg2 (by simp [Value.ownBlock];omega);have bc:=bx.cell;have bf:=bx.free;have bs:=fun u=>(bx.set u).cell;have HF:=ζ (fin_D (R:=w.heap.size+1) HB.out (by omega) AB.out.lt (by omega) (by omega) hd hg2 hs2 HV.out);clear hd hg2 hs2 bx;go_wp2;exact bodyPost_ret (v:= .agg #[.slice a3 n3 c3]) (by simp [results,Tryz.results237,go_sem,bs]) rfl HF.out
theorem word_any (n:Nat) (w:World) (h:n < 18446744073709551616):
  Calls Tryz.prog 109 #[.int .u64 n] w (RetD w n):=by
 go_enter Tryz.func109,Tryz.ntmps109;go_wp2;go_loopw [0,3] (fun u d wr=>∃ (r:Nat) (a':OA) (n' c':Nat) (done:List Int),u= .int .u64 r/\d= .slice a' n' c'/\r < 18446744073709551616/\Hid (done++dg 16777216 r=dg 16777216 n)/\Below w.heap.size w wr/\Box wr w.heap.size (.slice none 0 0) 68/\
   (∀k,Value.ownBlock (.slice a' n' c')=some k->w.heap.size < k)/\Sl 2 wr (.slice a' n' c') done) (fun u _ _=>(intOf u).toNat)
 case atStart=>exact⟨n,none,0,0,[],rfl,rfl,h,by simp [Hid],(Below.refl _ w).alloc (Nat.le_refl _) _,Box.new _ _ _,fun k hk=>by simp [Value.ownBlock]at hk,Sl.nil⟩
 case round=>
  obtain ⟨r,a',n',c',done,rfl,rfl,hr,hd,hB,AA,hlt,ho⟩:=hrel;by_cases h0:r=0
  ·subst h0;have hd':=hd.out;rw [dg_zero,List.append_nil]at hd';subst hd';have bc:=AA.cell;have bf:=AA.free;have bs:=fun u=>(AA.set u).cell;have HB:=ζ hB;have HL:=ζ hlt;have HO:=ζ ho;clear hB AA hlt ho hd;go_wp2;refine bodyPost_ret (v:= .agg #[.slice a' n' c']) (by simp [results,Tryz.results109,go_sem,bs]) rfl ⟨a',n',c',rfl,HO.out.other (fun e=>by have:=HL.out _ e;omega) _,HB.out.setCell (Nat.le_refl _) _⟩
  ·have hpos:dg 16777216 r=((r % 16777216:Nat):Int)::dg 16777216 (r / 16777216):=dg_pos (by omega) (by omega);have hlen:(dg 16777216 n).length<=3:=dg_len_le (by omega) (Nat.lt_of_lt_of_le h (by decide));have hl2:done.length+1<=3:=(by rw [<-hd.out,hpos]at hlen;simp at hlen;omega);have HD:=ζ hd.out;have HP:=ζ hpos;have HB:=ζ hB;have AB:=ζ AA;have HO:=ζ ho;have HL:=ζ hlt;have hr1:1<=r:=(by omega);clear hd hpos hB AA ho hlt hlen;go_wp2_with (at_builtin;refine wpList_append_sl _ rfl _ _ 66 rfl 2 Tryz.underlying66 info_i64 _ _ rfl (HO.out.alloc _) _ _ rfl (Sl.one _ _ _) ?c3 ?_)
   case c3=>simp;omega
   intro a2 n2 c2 w2 ho2 hg2 hs2;go_wp2;go_roundw
   case rel=>
    have hm:wrap64 (bits BinOp.and IntKind.u64 (r:Int) 16777215)=((r % 16777216:Nat):Int):=by
     rw [u64_mask24 r hr];exact IntWalk.wrap64_in _ (by omega)
    rw [hm]at ho2 hg2;have hgz:=hg2.size;simp only [World.size_alloc]at hgz;have hbz:=HB.out.size;refine⟨r / 16777216,a2,n2,c2,_,by rw [Int.natCast_ediv];rfl,rfl,by omega,by unfold Hid;rw [<-HD.out,HP.out,List.append_assoc];rfl,?_,?_,?_,ho2⟩
    ·exact((HB.out.alloc hbz _).grown hg2 (by go_size) (fun j hj=>by have:=HL.out j hj;omega))
    ·exact(AB.out.alloc _).grown hg2 (fun e=>by have:=HL.out _ e.symm;omega)
    ·intro k hk;have hx:=AB.out.lt;rcases hs2 k hk with h | h
     ·exact HL.out k h
     ·omega
   case measure=>simp [intOf];omega
def Bz (w:World) (b:Nat) (s:Value) (m:Bool):Prop:=w.heap[b]? =some (.cells #[s,.bool m] 70 (0,0))
theorem Bz.lt {w:World} {b:Nat} {s:Value} {m:Bool} (h:Bz w b s m):b < w.heap.size:=(Array.getElem?_eq_some_iff.1 h).1
theorem Bz.c0 {w:World} {b:Nat} {s:Value} {m:Bool} (h:Bz w b s m):w.cell? ⟨b,0,none⟩=some s:=by
 unfold Bz at h;simp [World.cell?,h]
theorem Bz.c1 {w:World} {b:Nat} {s:Value} {m:Bool} (h:Bz w b s m):w.cell? ⟨b,1,none⟩=some (.bool m):=by
 unfold Bz at h;simp [World.cell?,h]
theorem Bz.f0 {w:World} {b:Nat} {s:Value} {m:Bool} (h:Bz w b s m):w.frozen? ⟨b,0,none⟩=false:=by
 unfold Bz at h;simp [World.frozen?,h]
theorem Bz.f1 {w:World} {b:Nat} {s:Value} {m:Bool} (h:Bz w b s m):w.frozen? ⟨b,1,none⟩=false:=by
 unfold Bz at h;simp [World.frozen?,h]
theorem Bz.new' {w:World} {b:Nat} {s:Value} {m:Bool} (h:b=w.heap.size):Bz (w.alloc (.cells #[s,.bool m] 70)) b s m:=by
 subst h;unfold Bz World.alloc;simp
theorem Bz.alloc {w:World} {b:Nat} {s:Value} {m:Bool} (h:Bz w b s m) (o:Obj):Bz (w.alloc o) b s m:=(Below.heap_alloc _ _ _ h.lt).trans h
theorem Bz.below {w w':World} {b:Nat} {s:Value} {m:Bool} (h:Bz w b s m) (hb:Below w.heap.size w w'):Bz w' b s m:=(hb.block b h.lt).trans h
theorem Bz.drew {w:World} {b:Nat} {s:Value} {m:Bool} (h:Bz w b s m):Bz w.drew b s m:=h
theorem Bz.set {w:World} {b:Nat} {s:Value} {m:Bool} (h:Bz w b s m) (s':Value) (m':Bool):Bz ((w.setCell ⟨b,0,none⟩ s').setCell ⟨b,1,none⟩ (.bool m')) b s' m':=by
 unfold Bz at h⊢;simp [World.setCell,Array.getElem?_modify,h]
theorem Bz.other {w:World} {b g k:Nat} {s:Value} {m:Bool} (h:Bz w b s m) (hne:b≠g) (u:Value):Bz (w.setCell ⟨g,k,none⟩ u) b s m:=(Below.heap_setCell _ _ _ _ hne).trans h
theorem Sl.ne_bz {t:TypeId} {w:World} {v s:Value} {m:Bool} {xs:List Int} {b:Nat} (h:Sl t w v xs) (hb:Bz w b s m) (hne:t≠70):v.ownBlock≠some b:=by
 intro e;rcases h.2 with ⟨rfl,_⟩ | ⟨g,cap,cur,rfl,_,hg,_⟩
 ·simp [Value.ownBlock]at e
 ·simp only [Value.ownBlock,Option.some.injEq]at e;subst e;unfold Bz at hb;rw [hg]at hb;simp only [Option.some.injEq,Obj.cells.injEq]at hb;exact hne hb.2.1
theorem Zd.set {w:World} {b:Nat} {s s' u:Value} {k:Nat} {m m':Bool} {z:Int} (h:Zd w s m z) (hb:Bz w b s' m'):Zd (w.setCell ⟨b,k,none⟩ u) s m z:=⟨Sl.other h.d (Sl.ne_bz h.d hb (by decide)) _,h.m⟩
theorem Zd.set2 {w:World} {b:Nat} {s s' u u':Value} {m m':Bool} {z:Int} (h:Zd w s m z) (hb:Bz w b s' m'):Zd ((w.setCell ⟨b,0,none⟩ u).setCell ⟨b,1,none⟩ u') s m z:=
 ⟨Sl.other (Sl.other h.d (Sl.ne_bz h.d hb (by decide)) _) (Sl.ne_bz h.d hb (by decide)) _,h.m⟩
theorem fin_Z {w W w2:World} {R:Nat} {a:OA} {n c:Nat} {m m0:Bool} {s0:Value} {z:Int} (hB:Below w.heap.size w W) (hb:Below W.heap.size W w2) (hR:Bz w2 R s0 m0) (AA:w.heap.size<=R) (hz:Zd w2 (.slice a n c) m z):
  RetZ w z (.returned (.agg #[.slice a n c,.bool m])) ((w2.setCell ⟨R,0,none⟩ (.slice a n c)).setCell ⟨R,1,none⟩ (.bool m)):=
 ⟨a,n,c,m,rfl,hz.set2 hR,((hB.trans (hb.mono hB.size)).setCell AA _).setCell AA _⟩
theorem neg_any (a:OA) (n c:Nat) (m:Bool) (z:Int) (w:World) (h:Zd w (.slice a n c) m z):
  Calls Tryz.prog 61 #[.agg #[.slice a n c,.bool m]] w (RetZ w (-z)):=by
 go_enter Tryz.func61,Tryz.ntmps61;have hd:=ζ ((h.d.alloc (.cells #[.slice a n c,.bool m] 70)).alloc (.cells #[.slice none 0 0,.bool false] 70));have hm:=ζ h.m;have hX:=ζ (Bz.new' (w:=w.alloc (.cells #[.slice a n c,.bool m] 70)) (s:= .slice none 0 0) (m:=false) (b:=w.heap.size+1) (by simp));have hW:=ζ (((Below.refl w.heap.size w).alloc (Nat.le_refl _) (.cells #[.slice a n c,.bool m] 70)).alloc (by go_size) (.cells #[.slice none 0 0,.bool false] 70));clear h;go_wp2_with fail
 refine(made_any (!m) a n c z.natAbs _ hd.out (-z) ?hz).mono ?_
 case hz=>rw [hm.out];by_cases h:z < 0<;>simp [h]<;>omega
 rintro e w' ⟨a3,n3,c3,m3,rfl,hz,hb⟩;have hB:=ζ (hX.out.below hb);have c0:=hB.out.c0;have c1:=hB.out.c1;have f0:=hB.out.f0;have f1:=hB.out.f1;have HZ:=ζ hz;have HB:=ζ hb;clear hz hb;go_wp2;have bs:=fun u u'=>(hB.out.set u u').c0;have bs1:=fun u u'=>(hB.out.set u u').c1;exact bodyPost_ret (v:= .agg #[.slice a3 n3 c3,.bool m3]) (by simp [results,Tryz.results61,go_sem,bs,bs1]) rfl (fin_Z hW.out HB.out hB.out (by simp) HZ.out)
theorem abs_any (a:OA) (n c:Nat) (m:Bool) (z:Int) (w:World) (h:Zd w (.slice a n c) m z):
  Calls Tryz.prog 152 #[.agg #[.slice a n c,.bool m]] w (RetZ w z.natAbs):=by
 go_enter Tryz.func152,Tryz.ntmps152;have hd:=ζ ((h.d.alloc (.cells #[.slice a n c,.bool m] 70)).alloc (.cells #[.slice none 0 0,.bool false] 70));have hX:=ζ (Bz.new' (w:=w.alloc (.cells #[.slice a n c,.bool m] 70)) (s:= .slice none 0 0) (m:=false) (b:=w.heap.size+1) (by simp));have hW:=ζ (((Below.refl w.heap.size w).alloc (Nat.le_refl _) (.cells #[.slice a n c,.bool m] 70)).alloc (by go_size) (.cells #[.slice none 0 0,.bool false] 70));clear h;go_wp2_with fail
 refine(made_any false a n c z.natAbs _ hd.out z.natAbs ?hz).mono ?_
 case hz=>rfl
 rintro e w' ⟨a3,n3,c3,m3,rfl,hz,hb⟩;have hB:=ζ (hX.out.below hb);have c0:=hB.out.c0;have c1:=hB.out.c1;have f0:=hB.out.f0;have f1:=hB.out.f1;have HZ:=ζ hz;have HB:=ζ hb;clear hz hb;go_wp2;have bs:=fun u u'=>(hB.out.set u u').c0;have bs1:=fun u u'=>(hB.out.set u u').c1;exact bodyPost_ret (v:= .agg #[.slice a3 n3 c3,.bool m3]) (by simp [results,Tryz.results152,go_sem,bs,bs1]) rfl (fin_Z hW.out HB.out hB.out (by simp) HZ.out)
structure Z2 (w W:World) (s1:Value) (m1:Bool) (z1:Int) (s2:Value) (m2:Bool) (z2:Int):Prop where
 x1:Bz W w.heap.size s1 m1
 x2:Bz W (w.heap.size+1) s2 m2
 x3:Bz W (w.heap.size+2) (.slice none 0 0) false
 d1:Zd W s1 m1 z1
 d2:Zd W s2 m2 z2
 be:Below w.heap.size w W
theorem Z2.later {w W W':World} {s1 s2:Value} {m1 m2:Bool} {z1 z2:Int} (h:Z2 w W s1 m1 z1 s2 m2 z2) (hb:Below W.heap.size W W'):Z2 w W' s1 m1 z1 s2 m2 z2:=
 ⟨h.x1.below hb,h.x2.below hb,h.x3.below hb,h.d1.mono hb,h.d2.mono hb,h.be.trans (hb.mono h.be.size)⟩
theorem Z2.S {w W:World} {s1 s2:Value} {m1 m2:Bool} {z1 z2:Int} (h:Z2 w W s1 m1 z1 s2 m2 z2):
  W.cell? ⟨w.heap.size,0,none⟩=some s1/\W.cell? ⟨w.heap.size,1,none⟩=some (.bool m1)/\W.cell? ⟨w.heap.size+1,0,none⟩=some s2/\W.cell? ⟨w.heap.size+1,1,none⟩=some (.bool m2):=
 ⟨h.x1.c0,h.x1.c1,h.x2.c0,h.x2.c1⟩
theorem Z2.S' {w W:World} {s1 s2:Value} {m1 m2:Bool} {z1 z2:Int} (h:Z2 w W s1 m1 z1 s2 m2 z2) (u u':Value):
  ((W.setCell ⟨w.heap.size+2,0,none⟩ u).setCell ⟨w.heap.size+2,1,none⟩ u').cell? ⟨w.heap.size,0,none⟩=some s1/\((W.setCell ⟨w.heap.size+2,0,none⟩ u).setCell ⟨w.heap.size+2,1,none⟩ u').cell? ⟨w.heap.size,1,none⟩=some (.bool m1)/\
  ((W.setCell ⟨w.heap.size+2,0,none⟩ u).setCell ⟨w.heap.size+2,1,none⟩ u').cell? ⟨w.heap.size+1,0,none⟩=some s2/\((W.setCell ⟨w.heap.size+2,0,none⟩ u).setCell ⟨w.heap.size+2,1,none⟩ u').cell? ⟨w.heap.size+1,1,none⟩=some (.bool m2):=
 ⟨((h.x1.other (by omega) _).other (by omega) _).c0,((h.x1.other (by omega) _).other (by omega) _).c1,((h.x2.other (by omega) _).other (by omega) _).c0,((h.x2.other (by omega) _).other (by omega) _).c1⟩
theorem Z2.drew {w W:World} {s1 s2:Value} {m1 m2:Bool} {z1 z2:Int} (h:Z2 w W s1 m1 z1 s2 m2 z2):Z2 w W.drew s1 m1 z1 s2 m2 z2:=h.later (Below.refl _ _).drew
theorem Z2.start {w:World} {s1 s2:Value} {m1 m2:Bool} {z1 z2:Int} (h1:Zd w s1 m1 z1) (h2:Zd w s2 m2 z2):
  Z2 w (((w.alloc (.cells #[s1,.bool m1] 70)).alloc (.cells #[s2,.bool m2] 70)).alloc (.cells #[.slice none 0 0,.bool false] 70)) s1 m1 z1 s2 m2 z2:=by
 have hb:=(((Below.refl w.heap.size w).alloc (Nat.le_refl _) (.cells #[s1,.bool m1] 70)).alloc (by go_size) (.cells #[s2,.bool m2] 70)).alloc (by go_size) (.cells #[.slice none 0 0,.bool false] 70);exact⟨((Bz.new' rfl).alloc _).alloc _,(Bz.new' (by simp)).alloc _,Bz.new' (by simp),h1.mono hb,h2.mono hb,hb⟩
set_option maxHeartbeats 1000000 in
theorem mul_any (a:OA) (n c:Nat) (m:Bool) (z:Int) (a2:OA) (n2 c2:Nat) (m2:Bool) (z2:Int) (w:World) (h:Zd w (.slice a n c) m z) (h2:Zd w (.slice a2 n2 c2) m2 z2)
  (hl:(dg 16777216 z.natAbs).length<=10000000) (hl2:(dg 16777216 z2.natAbs).length<=10000000):
  Calls Tryz.prog 54 #[.agg #[.slice a n c,.bool m],.agg #[.slice a2 n2 c2,.bool m2]] w (RetZ w (z*z2)):=by
 go_enter Tryz.func54,Tryz.ntmps54;have hC:=ζ (Z2.start h h2);have hm1:=ζ h.m;have hm2:=ζ h2.m;clear h h2;have hzz:=ζ (show z*z2=if (m !=m2)then -((z.natAbs*z2.natAbs:Nat):Int)else((z.natAbs*z2.natAbs:Nat):Int)by
  rw [hm1.out,hm2.out,<-Int.natAbs_mul];rcases Int.lt_or_le z 0 with h1 | h1<;>rcases Int.lt_or_le z2 0 with h2 | h2
  ·have:=Int.mul_pos_of_neg_of_neg h1 h2;simp only [h1,h2,decide_true,bne_self_eq_false,Bool.false_eq_true,if_false];omega
  ·have:=Int.mul_nonpos_of_nonpos_of_nonneg (Int.le_of_lt h1) h2;simp [h1,Int.not_lt.2 h2];omega
  ·have:=Int.mul_nonpos_of_nonneg_of_nonpos h1 (Int.le_of_lt h2);simp [h2,Int.not_lt.2 h1];omega
  ·have:=Int.mul_nonneg h1 h2;simp only [Int.not_lt.2 h1,Int.not_lt.2 h2,decide_false,bne_self_eq_false,Bool.false_eq_true,if_false];omega)
 go_wp2;go_region_held3 (fun w'=>w'.cell? ⟨w.heap.size,0,none⟩=some (.slice a n c)/\w'.cell? ⟨w.heap.size,1,none⟩=some (.bool m)/\w'.cell? ⟨w.heap.size+1,0,none⟩=some (.slice a2 n2 c2)/\w'.cell? ⟨w.heap.size+1,1,none⟩=some (.bool m2))
  (first | exact AA.out.S' _ _ | exact AA.out.S | exact AB.out.S | exact hC.out.S)
  (first
   | (go_at_call 110;refine(times_any a n c a2 n2 c2 z.natAbs z2.natAbs _ hC.out.drew.d1.d hC.out.drew.d2.d hl hl2).mono ?_;rintro e wa ⟨b1,k1,d1,rfl,hd,hb⟩;have AB:=ζ (hC.out.drew.later hb);have AC:=ζ hd;clear hd hb)
   | (go_at_call 108;refine(made_any (m !=m2) b1 k1 d1 (z.natAbs*z2.natAbs) _ AC.out (z*z2) hzz.out).mono ?_;rintro e wb ⟨b2,k2,d2,mb,rfl,hz,hb⟩;have AA:=ζ (AB.out.later hb);have AD:=ζ hz;have HBb:=ζ hb;clear hz hb;have c0:=AA.out.x3.c0;have c1:=AA.out.x3.c1;have f0:=AA.out.x3.f0;have f1:=AA.out.x3.f1))
 go_wp2;have bs:=fun u u'=>(AA.out.x3.set u u').c0;have bs1:=fun u u'=>(AA.out.x3.set u u').c1;exact bodyPost_ret (v:= .agg #[.slice b2 k2 d2,.bool mb]) (by simp [results,Tryz.results54,go_sem,bs,bs1]) rfl (fin_Z AB.out.be HBb.out AA.out.x3 (Nat.le_add_right _ 2) AD.out)
theorem bool_f:∀ {a b:Bool},¬ a=b->a=true->b=false
 | true,false,_,_=>rfl
 | true,true,h,_=>absurd rfl h
theorem bool_t:∀ {a b:Bool},¬ a=b->a=false->b=true
 | false,true,_,_=>rfl
 | false,false,h,_=>absurd rfl h
theorem mZ3_0 {P_:Prop} (h:P_:=by
 go_wp2;have bs:=fun u u'=>(AA.out.x3.set u u').c0;have bs1:=fun u u'=>(AA.out.x3.set u u').c1;exact bodyPost_ret (v:= .agg #[.slice b2 k2 d2,.bool mb]) (by simp [results,Tryz.results144,go_sem,bs,bs1]) rfl (fin_Z AB.out.be HBb.out AA.out.x3 (Nat.le_add_right _ 2) AE.out)):P_:=h
set_option maxHeartbeats 2000000 in
theorem add_any (a:OA) (n c:Nat) (m:Bool) (z:Int) (a2:OA) (n2 c2:Nat) (m2:Bool) (z2:Int) (w:World) (h:Zd w (.slice a n c) m z) (h2:Zd w (.slice a2 n2 c2) m2 z2)
  (hl:(dg 16777216 z.natAbs).length<=10000000) (hl2:(dg 16777216 z2.natAbs).length<=10000000):
  Calls Tryz.prog 144 #[.agg #[.slice a n c,.bool m],.agg #[.slice a2 n2 c2,.bool m2]] w (RetZ w (z+z2)):=by
 go_enter Tryz.func144,Tryz.ntmps144;have hC:=ζ (Z2.start h h2);have hm1:=h.m;have hm2:=h2.m;clear h h2;by_cases hmm:m=m2
 ·subst hmm;have hzz:=ζ (show z+z2=if m then -((((z.natAbs:Nat):Int)+1*(z2.natAbs:Nat)).toNat:Int)else((((z.natAbs:Nat):Int)+1*(z2.natAbs:Nat)).toNat:Int)by
   by_cases h:z < 0
   ·have e1:m=true:=(by rw [hm1];simpa using h);have e2:z2 < 0:=(by rw [e1]at hm2;simpa using hm2.symm);subst e1;simp only [if_true];omega
   ·have e1:m=false:=(by rw [hm1];simpa using h);have e2:¬ z2 < 0:=(by rw [e1]at hm2;simpa using hm2.symm);subst e1;simp only [Bool.false_eq_true,if_false];omega)
  clear hm1 hm2;go_wp2_with fail
  go_region_held3 (fun w'=>w'.cell? ⟨w.heap.size,0,none⟩=some (.slice a n c)/\w'.cell? ⟨w.heap.size,1,none⟩=some (.bool m)/\w'.cell? ⟨w.heap.size+1,0,none⟩=some (.slice a2 n2 c2)/\w'.cell? ⟨w.heap.size+1,1,none⟩=some (.bool m))
   (first | exact AA.out.S' _ _ | exact AA.out.S | exact AB.out.S | exact hC.out.S)
   (first
    | (go_at_call 111;refine(plus_any a n c a2 n2 c2 1 z.natAbs z2.natAbs _ hC.out.drew.d1.d hC.out.drew.d2.d (.inl rfl) (by omega) hl hl2).mono ?_;rintro e wa ⟨b1,k1,d1,rfl,hd,hb⟩;have AB:=ζ (hC.out.drew.later hb);have AD:=ζ hd;clear hd hb)
    | (go_at_call 108;refine(made_any m b1 k1 d1 _ _ AD.out (z+z2) hzz.out).mono ?_;rintro e wb ⟨b2,k2,d2,mb,rfl,hz,hb⟩;have AA:=ζ (AB.out.later hb);have AE:=ζ hz;have HBb:=ζ hb;clear hz hb;have c0:=AA.out.x3.c0;have c1:=AA.out.x3.c1;have f0:=AA.out.x3.f0;have f1:=AA.out.x3.f1))
  exact mZ3_0
 ·have hmb:(m==m2)=false:=by simpa using hmm
  have H1:=ζ hm1;have H2:=ζ hm2;have HM:=ζ hmm;clear hm1 hm2 hmm;go_wp2_with fail
  refine(size_any _ _ _ _ _ _ z.natAbs z2.natAbs _ hC.out.d1.d hC.out.d2.d hl hl2).mono ?_;rintro e wz ⟨rfl,hb⟩;have AC:=ζ (hC.out.later hb);clear hb hC;by_cases hlt:z.natAbs < z2.natAbs
  ·have hc:cmpN z.natAbs z2.natAbs= -1:=(by unfold cmpN;rw [if_pos hlt]);have hzz:=ζ (show z+z2=if m2 then -((((z2.natAbs:Nat):Int)+(-1)*(z.natAbs:Nat)).toNat:Int)else((((z2.natAbs:Nat):Int)+(-1)*(z.natAbs:Nat)).toNat:Int)by
    have hm1:=H1.out;have hm2:=H2.out;have hmm:=HM.out;by_cases h:z < 0
    ·have e1:m=true:=(by rw [hm1];simpa using h);have e2:m2=false:=bool_f hmm e1;rw [e2]at hm2;have e3:¬ z2 < 0:=by simpa using hm2.symm
     subst e2;simp only [Bool.false_eq_true,if_false];omega
    ·have e1:m=false:=(by rw [hm1];simpa using h);have e2:m2=true:=bool_t hmm e1;rw [e2]at hm2;have e3:z2 < 0:=by simpa using hm2.symm
     subst e2;simp only [if_true];omega)
   rw [hc];go_wp2_with fail
   go_region_held3 (fun w'=>w'.cell? ⟨w.heap.size,0,none⟩=some (.slice a n c)/\w'.cell? ⟨w.heap.size,1,none⟩=some (.bool m)/\w'.cell? ⟨w.heap.size+1,0,none⟩=some (.slice a2 n2 c2)/\w'.cell? ⟨w.heap.size+1,1,none⟩=some (.bool m2))
    (first | exact AA.out.S' _ _ | exact AA.out.S | exact AB.out.S | exact AC.out.S)
    (first
     | (go_at_call 111;refine(plus_any a2 n2 c2 a n c (-1) z2.natAbs z.natAbs _ AC.out.drew.d2.d AC.out.drew.d1.d (.inr rfl) (by omega) hl2 hl).mono ?_;rintro e wa ⟨b1,k1,d1,rfl,hd,hb⟩;have AB:=ζ (AC.out.drew.later hb);have AD:=ζ hd;clear hd hb)
     | (go_at_call 108;refine(made_any m2 b1 k1 d1 _ _ AD.out (z+z2) hzz.out).mono ?_;rintro e wb ⟨b2,k2,d2,mb,rfl,hz,hb⟩;have AA:=ζ (AB.out.later hb);have AE:=ζ hz;have HBb:=ζ hb;clear hz hb;have c0:=AA.out.x3.c0;have c1:=AA.out.x3.c1;have f0:=AA.out.x3.f0;have f1:=AA.out.x3.f1))
   exact mZ3_0
  ·have hc:¬ cmpN z.natAbs z2.natAbs < 0:=(by unfold cmpN;rw [if_neg hlt];split<;>omega);have hzz:=ζ (show z+z2=if m then -((((z.natAbs:Nat):Int)+(-1)*(z2.natAbs:Nat)).toNat:Int)else((((z.natAbs:Nat):Int)+(-1)*(z2.natAbs:Nat)).toNat:Int)by
    have hm1:=H1.out;have hm2:=H2.out;have hmm:=HM.out;by_cases h:z < 0
    ·have e1:m=true:=(by rw [hm1];simpa using h);have e2:m2=false:=bool_f hmm e1;rw [e2]at hm2;have e3:¬ z2 < 0:=by simpa using hm2.symm
     subst e1;simp only [if_true];omega
    ·have e1:m=false:=(by rw [hm1];simpa using h);have e2:m2=true:=bool_t hmm e1;rw [e2]at hm2;have e3:z2 < 0:=by simpa using hm2.symm
     subst e1;simp only [Bool.false_eq_true,if_false];omega)
   go_wp2_with fail
   go_region_held3 (fun w'=>w'.cell? ⟨w.heap.size,0,none⟩=some (.slice a n c)/\w'.cell? ⟨w.heap.size,1,none⟩=some (.bool m)/\w'.cell? ⟨w.heap.size+1,0,none⟩=some (.slice a2 n2 c2)/\w'.cell? ⟨w.heap.size+1,1,none⟩=some (.bool m2))
    (first | exact AA.out.S' _ _ | exact AA.out.S | exact AB.out.S | exact AC.out.S)
    (first
     | (go_at_call 111;refine(plus_any a n c a2 n2 c2 (-1) z.natAbs z2.natAbs _ AC.out.drew.d1.d AC.out.drew.d2.d (.inr rfl) (by omega) hl hl2).mono ?_;rintro e wa ⟨b1,k1,d1,rfl,hd,hb⟩;have AB:=ζ (AC.out.drew.later hb);have AD:=ζ hd;clear hd hb)
     | (go_at_call 108;refine(made_any m b1 k1 d1 _ _ AD.out (z+z2) hzz.out).mono ?_;rintro e wb ⟨b2,k2,d2,mb,rfl,hz,hb⟩;have AA:=ζ (AB.out.later hb);have AE:=ζ hz;have HBb:=ζ hb;clear hz hb;have c0:=AA.out.x3.c0;have c1:=AA.out.x3.c1;have f0:=AA.out.x3.f0;have f1:=AA.out.x3.f1))
   exact mZ3_0
def rowT (t:TypeId):Bool:=t==2 || t==3 || t==9
def rowO:Obj->Bool
 | .cells _ e _=>rowT e
 | _=>false
structure Keeps (W W':World):Prop where
 size:W.heap.size<=W'.heap.size
 row:∀ (k:Nat) (o:Obj),W.heap[k]? =some o->rowO o=true->W'.heap[k]? =some o
theorem Keeps.refl (W:World):Keeps W W:=⟨Nat.le_refl _,fun _ _ h _=>h⟩
theorem Keeps.trans {A B C:World} (h:Keeps A B) (k:Keeps B C):Keeps A C:=⟨Nat.le_trans h.size k.size,fun i o h1 h2=>k.row i o (h.row i o h1 h2) h2⟩
theorem Below.keeps {W W':World} (h:Below W.heap.size W W'):Keeps W W':=⟨h.size,fun k _ h1 _=>(h.block k (Array.getElem?_eq_some_iff.1 h1).1).trans h1⟩
theorem Keeps.alloc {A W:World} (h:Keeps A W) (o:Obj):Keeps A (W.alloc o):=h.trans (Below.keeps ((Below.refl _ _).alloc (Nat.le_refl _) _))
theorem Keeps.drew {A W:World} (h:Keeps A W):Keeps A W.drew:=h.trans (Below.keeps (Below.refl _ _).drew)
theorem Sl.keep {t:TypeId} {w w':World} {v:Value} {xs:List Int} (h:Sl t w v xs) (ht:rowT t=true) (hk:Keeps w w'):Sl t w' v xs:=by
 refine⟨h.1,?_⟩;rcases h.2 with hn | ⟨g,cap,cur,rfl,hb0,hg,rest⟩
 ·exact .inl hn
 ·exact .inr ⟨g,cap,cur,rfl,hb0,hk.row g _ hg ht,rest⟩
theorem Dg.keep {w w':World} {v:Value} {N:Nat} (h:Dg w v N) (hk:Keeps w w'):Dg w' v N:=Sl.keep h rfl hk
theorem Zd.keep {w w':World} {s:Value} {m:Bool} {z:Int} (h:Zd w s m z) (hk:Keeps w w'):Zd w' s m z:=⟨h.d.keep hk,h.m⟩
structure St (w W:World) (bs:List (Nat×Array Value×TypeId)) (rs:List (World->Prop)):Prop where
 be:Below w.heap.size w W
 bx:∀x∈bs,w.heap.size<=x.1/\x.1 < W.heap.size/\W.heap[x.1]? =some (.cells x.2.1 x.2.2 (0,0))/\rowT x.2.2=false
 inc:bs.Pairwise (fun x y=>x.1≠y.1)
 rd:∀r∈rs,(∀V V',Keeps V V'->r V->r V')/\r W
section
variable {w W:World} {bs:List (Nat×Array Value×TypeId)} {rs:List (World->Prop)}
theorem St.enter (w:World):St w w [] []:=⟨Below.refl _ _,by simp,.nil,by simp⟩
theorem St.at_ (h:St w W bs rs) (i:Nat) {b:Nat} {cs:Array Value} {t:TypeId} (hx:bs[i]? =some (b,cs,t)):w.heap.size<=b/\b < W.heap.size/\W.heap[b]? =some (.cells cs t (0,0))/\rowT t=false:=
 h.bx _ (List.mem_of_getElem? hx)
theorem St.cell (h:St w W bs rs) (i j:Nat) {b:Nat} {cs:Array Value} {t:TypeId} {v:Value} (hx:bs[i]? =some (b,cs,t)) (hv:cs[j]? =some v):W.cell? ⟨b,j,none⟩=some v:=by
 have:=(h.at_ i hx).2.2.1;simp [World.cell?,this,hv]
theorem St.free (h:St w W bs rs) (i j:Nat) {b:Nat} {cs:Array Value} {t:TypeId} (hx:bs[i]? =some (b,cs,t)):W.frozen? ⟨b,j,none⟩=false:=by
 have:=(h.at_ i hx).2.2.1;simp [World.frozen?,this]
theorem St.c (h:St w W bs rs) (i j:Nat) {b:Nat} {cs:Array Value} {t:TypeId} {v:Value} (hx:bs[i]? =some (b,cs,t):=by with_unfolding_all exact rfl) (hv:cs.toList[j]? =some v:=by with_unfolding_all exact rfl):W.cell? ⟨b,j,none⟩=some v:=h.cell i j hx (by rw [<-Array.getElem?_toList];exact hv)
theorem St.f (h:St w W bs rs) (i j:Nat) {b:Nat} {cs:Array Value} {t:TypeId} (hx:bs[i]? =some (b,cs,t):=by with_unfolding_all exact rfl):W.frozen? ⟨b,j,none⟩=false:=h.free i j hx
theorem St.lt (h:St w W bs rs) (i:Nat) {b:Nat} {cs:Array Value} {t:TypeId} (hx:bs[i]? =some (b,cs,t)):b < W.heap.size:=(h.at_ i hx).2.1
theorem St.ge (h:St w W bs rs) (i:Nat) {b:Nat} {cs:Array Value} {t:TypeId} (hx:bs[i]? =some (b,cs,t)):w.heap.size<=b:=(h.at_ i hx).1
theorem St.call {W':World} (h:St w W bs rs) (hb:Below W.heap.size W W'):St w W' bs rs where
 be:=h.be.trans (hb.mono h.be.size)
 bx x hx:=by
  obtain ⟨h1,h2,h3,h4⟩:=h.bx x hx;exact⟨h1,Nat.lt_of_lt_of_le h2 hb.size,(hb.block _ h2).trans h3,h4⟩
 inc:=h.inc
 rd r hr:=⟨(h.rd r hr).1,(h.rd r hr).1 _ _ (Below.keeps hb) (h.rd r hr).2⟩
theorem St.drew (h:St w W bs rs):St w W.drew bs rs:=h.call (Below.refl _ _).drew
theorem St.drewN (h:St w W bs rs) (n:Nat):St w (W.drewN n) bs rs:=h.call (Below.drewN (Below.refl _ _) n)
theorem St.row (h:St w W bs rs) {o:Obj} :St w (W.alloc o) bs rs:=h.call ((Below.refl _ _).alloc (Nat.le_refl _) _)
theorem St.al (h:St w W bs rs) (b:Nat) (cs:Array Value) (t:TypeId) (hb:b=W.heap.size) (ht:rowT t=false):St w (W.alloc (.cells cs t)) (bs++ [(b,cs,t)]) rs where
 be:=h.row.be
 bx x hx:=by
  rcases List.mem_append.1 hx with hx | hx
  ·exact h.row.bx x hx
  ·rcases List.mem_singleton.1 hx with rfl;subst hb;exact⟨h.be.size,by simp,by rw [heap_alloc_get,if_pos rfl],ht⟩
 inc:=by
  rw [List.pairwise_append];refine⟨h.inc,List.pairwise_singleton _ _,fun a ha x hx=>?_⟩;rcases List.mem_singleton.1 hx with rfl;subst hb;exact Nat.ne_of_lt (h.bx a ha).2.1
 rd:=h.row.rd
theorem St.set (h:St w W bs rs) (i:Nat) {j b:Nat} {cs:Array Value} {t:TypeId} {v:Value} (hx:bs[i]? =some (b,cs,t)):St w (W.setCell ⟨b,j,none⟩ v) (bs.set i (b,cs.setIfInBounds j v,t)) rs:=by
 obtain ⟨h1,h2,h3,h4⟩:=h.at_ i hx;have hi:i < bs.length:=(List.getElem?_eq_some_iff.1 hx).1;have hx':bs[i]=(b,cs,t):=(List.getElem?_eq_some_iff.1 hx).2;have hsz:(W.setCell ⟨b,j,none⟩ v).heap.size=W.heap.size:=by simp [World.setCell]
 have hk:Keeps W (W.setCell ⟨b,j,none⟩ v):=⟨by rw [hsz];exact Nat.le_refl _,fun k o ho hr=>by
  rw [Below.heap_setCell _ _ _ _ (fun e=>?_)]
  ·exact ho
  ·subst e;rw [h3]at ho;simp only [Option.some.injEq]at ho;subst ho;simp only [rowO]at hr;rw [h4]at hr;exact Bool.noConfusion hr⟩
 refine⟨h.be.setCell h1 _,fun x hxm=>?_,?_,fun r hr=>⟨(h.rd r hr).1,(h.rd r hr).1 _ _ hk (h.rd r hr).2⟩⟩
 ·obtain ⟨k,hkl,hk2⟩:=List.getElem_of_mem hxm;rw [List.length_set]at hkl;rw [List.getElem_set]at hk2;by_cases e:i=k
  ·rw [if_pos e]at hk2;subst hk2;refine⟨h1,by rw [hsz];exact h2,?_,h4⟩;simp [World.setCell,Array.getElem?_modify,h3]
  ·rw [if_neg e]at hk2;subst hk2;obtain ⟨g1,g2,g3,g4⟩:=h.bx bs[k] (List.getElem_mem hkl);refine⟨g1,by rw [hsz];exact g2,?_,g4⟩;rw [Below.heap_setCell _ _ _ _ (fun e'=>?_)]
   ·exact g3
   ·have hp:=List.pairwise_iff_getElem.1 h.inc;rcases Nat.lt_or_gt_of_ne e with l | l
    ·have:=hp i k hi hkl l;rw [hx']at this;simp only at this e';omega
    ·have:=hp k i hkl hi l;rw [hx']at this;simp only at this e';omega
 ·rw [List.pairwise_iff_getElem];intro p q hp hq hpq;rw [List.length_set]at hp hq;have:=List.pairwise_iff_getElem.1 h.inc p q hp hq hpq;rw [List.getElem_set,List.getElem_set];by_cases e1:i=p<;>by_cases e2:i=q
  ·omega
  ·subst e1;rw [if_pos rfl,if_neg e2];rw [hx']at this;exact this
  ·subst e2;rw [if_pos rfl,if_neg e1];rw [hx']at this;exact this
  ·rw [if_neg e1,if_neg e2];exact this
theorem aH {p:Addr} {v:Option Value} {Q:Prop} (h:St w W bs rs) (k:St w W bs rs->World.cell? W p=v/\Q):World.cell? W p=v/\Q:=k h
theorem St.t2 (h:St w W bs rs) (i:Nat) {b:Nat} {cs:Array Value} {t:TypeId} {j0 j1:Nat} {v0 v1:Value} (hx:bs[i]? =some (b,cs,t)):St w ((W.setCell ⟨b,j0,none⟩ v0).setCell ⟨b,j1,none⟩ v1) (bs.set i (b,((cs.setIfInBounds j0 v0).setIfInBounds j1 v1),t)) rs:=by
 have q:=(h.set (j:=j0) (v:=v0) i hx).set (j:=j1) (v:=v1) i (List.getElem?_set_self (List.getElem?_eq_some_iff.1 hx).1);rwa [List.set_set]at q
theorem St.t3 (h:St w W bs rs) (i:Nat) {b:Nat} {cs:Array Value} {t:TypeId} {j0 j1 j2:Nat} {v0 v1 v2:Value} (hx:bs[i]? =some (b,cs,t)):St w (((W.setCell ⟨b,j0,none⟩ v0).setCell ⟨b,j1,none⟩ v1).setCell ⟨b,j2,none⟩ v2) (bs.set i (b,(((cs.setIfInBounds j0 v0).setIfInBounds j1 v1).setIfInBounds j2 v2),t)) rs:=by
 have q:=(h.t2 (j0:=j0) (v0:=v0) (j1:=j1) (v1:=v1) i hx).set (j:=j2) (v:=v2) i (List.getElem?_set_self (List.getElem?_eq_some_iff.1 hx).1);rwa [List.set_set]at q
theorem St.t4 (h:St w W bs rs) (i:Nat) {b:Nat} {cs:Array Value} {t:TypeId} {j0 j1 j2 j3:Nat} {v0 v1 v2 v3:Value} (hx:bs[i]? =some (b,cs,t)):St w ((((W.setCell ⟨b,j0,none⟩ v0).setCell ⟨b,j1,none⟩ v1).setCell ⟨b,j2,none⟩ v2).setCell ⟨b,j3,none⟩ v3) (bs.set i (b,((((cs.setIfInBounds j0 v0).setIfInBounds j1 v1).setIfInBounds j2 v2).setIfInBounds j3 v3),t)) rs:=by
 have q:=(h.t2 (j0:=j0) (v0:=v0) (j1:=j1) (v1:=v1) i hx).t2 (j0:=j2) (v0:=v2) (j1:=j3) (v1:=v3) i (List.getElem?_set_self (List.getElem?_eq_some_iff.1 hx).1);rwa [List.set_set]at q
theorem St.t6 (h:St w W bs rs) (i:Nat) {b:Nat} {cs:Array Value} {t:TypeId} {j0 j1 j2 j3 j4 j5:Nat} {v0 v1 v2 v3 v4 v5:Value} (hx:bs[i]? =some (b,cs,t)):St w ((((((W.setCell ⟨b,j0,none⟩ v0).setCell ⟨b,j1,none⟩ v1).setCell ⟨b,j2,none⟩ v2).setCell ⟨b,j3,none⟩ v3).setCell ⟨b,j4,none⟩ v4).setCell ⟨b,j5,none⟩ v5) (bs.set i (b,((((((cs.setIfInBounds j0 v0).setIfInBounds j1 v1).setIfInBounds j2 v2).setIfInBounds j3 v3).setIfInBounds j4 v4).setIfInBounds j5 v5),t)) rs:=by
 have q:=(h.t4 (j0:=j0) (v0:=v0) (j1:=j1) (v1:=v1) (j2:=j2) (v2:=v2) (j3:=j3) (v3:=v3) i hx).t2 (j0:=j4) (v0:=v4) (j1:=j5) (v1:=v5) i (List.getElem?_set_self (List.getElem?_eq_some_iff.1 hx).1);rwa [List.set_set]at q
theorem St.push {r:World->Prop} (h:St w W bs rs) (hp:∀V V',Keeps V V'->r V->r V') (hr:r W):St w W bs (rs++ [r]):=
 ⟨h.be,h.bx,h.inc,fun q hq=>by
   rcases List.mem_append.1 hq with hq | hq
   ·exact h.rd q hq
   ·rcases List.mem_singleton.1 hq with rfl;exact⟨hp,hr⟩⟩
theorem St.pz (h:St w W bs rs) {s:Value} {m:Bool} {z:Int} (hz:Zd W s m z):St w W bs (rs++ [fun V=>Zd V s m z]):=h.push (fun _ _ k hz=>hz.keep k) hz
theorem St.pd (h:St w W bs rs) {s:Value} {N:Nat} (hz:Dg W s N):St w W bs (rs++ [fun V=>Dg V s N]):=h.push (fun _ _ k hz=>hz.keep k) hz
theorem St.z (h:St w W bs rs) (i:Nat) {s:Value} {m:Bool} {z:Int} (hx:rs[i]? =some (fun V=>Zd V s m z)):Zd W s m z:=(h.rd _ (List.mem_of_getElem? hx)).2
theorem St.d (h:St w W bs rs) (i:Nat) {s:Value} {N:Nat} (hx:rs[i]? =some (fun V=>Dg V s N)):Dg W s N:=(h.rd _ (List.mem_of_getElem? hx)).2
theorem St.zd (h:St w W bs rs) (i:Nat) {s:Value} {m:Bool} {z:Int} (hx:rs[i]? =some (fun V=>Zd V s m z)):Dg W s z.natAbs:=(h.z i hx).d
theorem St.pick (h:St w W bs rs) (is:List Nat) {rs':List (World->Prop)} (hx:is.map (fun i=>rs[i]?)=rs'.map some):St w W bs rs':=
 ⟨h.be,h.bx,h.inc,fun r hr=>by
   have:some r∈is.map (fun i=>rs[i]?):=(by rw [hx];exact List.mem_map.2 ⟨r,hr,rfl⟩);obtain ⟨i,_,hi⟩:=List.mem_map.1 this;exact h.rd r (List.mem_of_getElem? hi)⟩
theorem St.bpick (h:St w W bs rs) (is:List Nat) (hn:is.Nodup) {bs':List (Nat×Array Value×TypeId)} (hx:is.map (fun i=>bs[i]?)=bs'.map some):St w W bs' rs:=by
 refine⟨h.be,fun x hx'=>?_,?_,h.rd⟩
 ·have:some x∈is.map (fun i=>bs[i]?):=by rw [hx];exact List.mem_map.2 ⟨x,hx',rfl⟩
  obtain ⟨i,_,hi⟩:=List.mem_map.1 this;exact h.bx x (List.mem_of_getElem? hi)
 ·rw [List.pairwise_iff_getElem];intro p q hp hq hpq;have hl:is.length=bs'.length:=by have:=congrArg List.length hx;simpa using this
  have e:∀ (k:Nat) (hk:k < bs'.length),bs[is[k]'(by omega)]? =some bs'[k]:=by
   intro k hk;have:=congrArg (fun l=>l[k]?) hx;simp only [List.getElem?_map,List.getElem?_eq_getElem hk,List.getElem?_eq_getElem (show k < is.length by omega),Option.map_some,Option.some.injEq]at this;exact this
  have h1:=List.getElem?_eq_some_iff.1 (e p hp);have h2:=List.getElem?_eq_some_iff.1 (e q hq);have hne:is[p]'(by omega)≠is[q]'(by omega):=List.pairwise_iff_getElem.1 hn p q (by omega) (by omega) hpq;have key:=List.pairwise_iff_getElem.1 h.inc;rw [<-h1.2,<-h2.2];rcases Nat.lt_or_gt_of_ne hne with l | l
  ·exact key _ _ h1.1 h2.1 l
  ·exact(key _ _ h2.1 h1.1 l).symm
theorem St.apart (h:St w W bs rs) (i j:Nat) {b b':Nat} {cs cs':Array Value} {t t':TypeId} (hx:bs[i]? =some (b,cs,t)) (hy:bs[j]? =some (b',cs',t')) (hij:i < j):b≠b':=by
 have hi:=(List.getElem?_eq_some_iff.1 hx)
 have hj:=(List.getElem?_eq_some_iff.1 hy)
 have:=List.pairwise_iff_getElem.1 h.inc i j hi.1 hj.1 hij;rw [hi.2,hj.2]at this;exact this
theorem wp_gen {P:Program} {c:Code} {Q:Exit->Act->World->Prop} {a:Act} (h:St w W bs rs) (k:∀V,St w V bs rs->c.wp P Q a V):c.wp P Q a W:=k W h
theorem gen_app {F:Act->World->Prop} {a:Act} (h:St w W bs rs) (k:∀V,St w V bs rs->F a V):F a W:=k W h
theorem ret_st {P:Program} {f:Func} {R:Ending->World->Prop} {a:Act} {v:Value} (h:St w W bs rs) (hr:St w W bs rs->(results f a.tmps).run P W= .ok v W) (hd:a.defers= []) (hR:St w W bs rs->R (.returned v) W):bodyPost P f R .ret a W:=
 bodyPost_ret (hr h) hd (hR h)
end
theorem sub_any (a:OA) (n c:Nat) (m:Bool) (z:Int) (a2:OA) (n2 c2:Nat) (m2:Bool) (z2:Int) (w:World) (h:Zd w (.slice a n c) m z) (h2:Zd w (.slice a2 n2 c2) m2 z2)
  (hl:(dg 16777216 z.natAbs).length<=10000000) (hl2:(dg 16777216 z2.natAbs).length<=10000000):
  Calls Tryz.prog 112 #[.agg #[.slice a n c,.bool m],.agg #[.slice a2 n2 c2,.bool m2]] w (RetZ w (z - z2)):=by
 go_enter Tryz.func112,Tryz.ntmps112;have hC:=ζ (Z2.start h h2);have hln:=ζ (show(dg 16777216 (-z2).natAbs).length<=10000000 by rw [Int.natAbs_neg];exact hl2);clear h h2;go_wp2;go_region_held3 (fun w'=>w'.cell? ⟨w.heap.size,0,none⟩=some (.slice a n c)/\w'.cell? ⟨w.heap.size,1,none⟩=some (.bool m)/\w'.cell? ⟨w.heap.size+1,0,none⟩=some (.slice a2 n2 c2)/\w'.cell? ⟨w.heap.size+1,1,none⟩=some (.bool m2))
  (first | exact AB.out.S' _ _ | exact AB.out.S | exact AE.out.S | exact hC.out.S)
  (first
   | (go_at_call 61;refine(neg_any a2 n2 c2 m2 z2 _ hC.out.drew.d2).mono ?_;rintro e wa ⟨b1,k1,d1,ma,rfl,hd,hb⟩;have AE:=ζ (hC.out.drew.later hb);have AC:=ζ hd;clear hd hb)
   | (go_at_call 144;refine(add_any a n c m z b1 k1 d1 ma (-z2) _ AE.out.d1 AC.out hl hln.out).mono ?_;rintro e wb ⟨b2,k2,d2,mb,rfl,hz,hb⟩;have AB:=ζ (AE.out.later hb);have AD:=ζ hz;have HBb:=ζ hb;clear hz hb;have c0:=AB.out.x3.c0;have c1:=AB.out.x3.c1;have f0:=AB.out.x3.f0;have f1:=AB.out.x3.f1))
 go_wp2;have bs:=fun u u'=>(AB.out.x3.set u u').c0;have bs1:=fun u u'=>(AB.out.x3.set u u').c1;have hz:Zd wb (.slice b2 k2 d2) mb (z - z2):=by rw [Int.sub_eq_add_neg];exact AD.out
 exact bodyPost_ret (v:= .agg #[.slice b2 k2 d2,.bool mb]) (by simp [results,Tryz.results112,go_sem,bs,bs1]) rfl (fin_Z AE.out.be HBb.out AB.out.x3 (Nat.le_add_right _ 2) hz)
def sgn (z:Int):Int:=if z=0 then 0 else if z < 0 then -1 else 1
theorem sign_any (a:OA) (n c:Nat) (m:Bool) (z:Int) (w:World) (h:Zd w (.slice a n c) m z):
  Calls Tryz.prog 113 #[.agg #[.slice a n c,.bool m]] w fun e w'=>e= .returned (.int .i64 (sgn z))/\Below w.heap.size w w':=by
 have hn:=Sl.len h.d;have e0:(n=0)↔z=0:=by
  rw [hn,List.length_eq_zero_iff,dg_nil_iff (b:=16777216) (by omega)];omega
 have HM:=ζ h.m;go_enter Tryz.func113,Tryz.ntmps113;have hW:=ζ (((Below.refl w.heap.size w).alloc (Nat.le_refl _) (.cells #[.slice a n c,.bool m] 70)).alloc (by go_size) (.cells #[.slice a n c] 68));have hx:=(Bz.new' (w:=w) (s:= .slice a n c) (m:=m) (b:=w.heap.size) rfl).alloc (.cells #[.slice a n c] 68);have c0:=hx.c0;have c1:=hx.c1;clear h hx hn;go_wp2_with fail
 refine(none_any _ _ _ _).mono ?_;rintro e w' ⟨rfl,rfl⟩;by_cases hz:z=0
 ·have hn0:((n:Int)==0)=true:=by simpa using e0.2 hz
  rw [hn0];go_wp2;go_ret;exact⟨by simp [sgn,hz],hW.out⟩
 ·have hn0:((n:Int)==0)=false:=by simpa using fun e=>hz (e0.1 e)
  rw [hn0];by_cases hlt:z < 0
  ·have e1:m=true:=(by rw [HM.out];simpa using hlt);subst e1;go_wp2;go_ret;exact⟨by simp [sgn,hz,hlt],hW.out⟩
  ·have e1:m=false:=(by rw [HM.out];simpa using hlt);subst e1;go_wp2;go_ret;exact⟨by simp [sgn,hz,hlt],hW.out⟩
theorem mZ4_0 {P_:Prop} (h:P_:=by
 rintro e wb ⟨b2,k2,d2,mb,rfl,hz,hb⟩;have AA:=ζ (AF.out.below hb);have AD:=ζ hz;have HBb:=ζ hb;clear hz hb;have c0:=AA.out.c0;have c1:=AA.out.c1;have f0:=AA.out.f0;have f1:=AA.out.f1;go_wp2;have bs:=fun u u'=>(AA.out.set u u').c0;have bs1:=fun u u'=>(AA.out.set u u').c1;exact bodyPost_ret (v:= .agg #[.slice b2 k2 d2,.bool mb]) (by simp [results,Tryz.results53,go_sem,bs,bs1]) rfl (fin_Z AG.out HBb.out AA.out (Nat.le_refl _) AD.out)):P_:=h
theorem int_any (k:Int) (hk: -9223372036854775808<=k/\k < 9223372036854775808) (w:World):Calls Tryz.prog 53 #[.int .i64 k] w (RetZ w k):=by
 go_enter Tryz.func53,Tryz.ntmps53;have hX:=ζ (Bz.new' (w:=w) (s:= .slice none 0 0) (m:=false) (b:=w.heap.size) rfl);have hW:=ζ ((Below.refl w.heap.size w).alloc (Nat.le_refl _) (.cells #[.slice none 0 0,.bool false] 70));by_cases hlt:k < 0
 ·have e1:IntKind.u64.wrap k=((18446744073709551616 - k.natAbs:Nat):Int):=by rw [IntKind.wrap_u64];omega
  have e2:IntKind.u64.wrap (-((18446744073709551616 - k.natAbs:Nat):Int))=((k.natAbs:Nat):Int):=by rw [IntKind.wrap_u64];omega
  go_wp2_with fail
  refine(word_any k.natAbs _ (by omega)).mono ?_;rintro e wa ⟨b1,k1,d1,rfl,hd,hb⟩;have AF:=ζ (hX.out.below hb);have AG:=ζ (hW.out.trans (hb.mono hW.out.size));have AC:=ζ hd;clear hd hb;go_wp2_with fail
  refine(made_any true b1 k1 d1 k.natAbs _ AC.out k (by simp;omega)).mono ?_;exact mZ4_0
 ·have e1:IntKind.u64.wrap k=((k.natAbs:Nat):Int):=by rw [IntKind.wrap_u64];omega
  go_wp2_with fail
  refine(word_any k.natAbs _ (by omega)).mono ?_;rintro e wa ⟨b1,k1,d1,rfl,hd,hb⟩;have AF:=ζ (hX.out.below hb);have AG:=ζ (hW.out.trans (hb.mono hW.out.size));have AC:=ζ hd;clear hd hb;go_wp2_with fail
  refine(made_any false b1 k1 d1 k.natAbs _ AC.out k (by simp;omega)).mono ?_;exact mZ4_0
theorem cmp_any (a:OA) (n c:Nat) (m:Bool) (z:Int) (a2:OA) (n2 c2:Nat) (m2:Bool) (z2:Int) (w:World) (h:Zd w (.slice a n c) m z) (h2:Zd w (.slice a2 n2 c2) m2 z2)
  (hl:(dg 16777216 z.natAbs).length<=10000000) (hl2:(dg 16777216 z2.natAbs).length<=10000000):
  Calls Tryz.prog 56 #[.agg #[.slice a n c,.bool m],.agg #[.slice a2 n2 c2,.bool m2]] w fun e w'=>e= .returned (.int .i64 (sgn (z - z2)))/\Below w.heap.size w w':=by
 go_enter Tryz.func56,Tryz.ntmps56;have hB:=ζ (((Below.refl w.heap.size w).alloc (Nat.le_refl _) (.cells #[.slice a n c,.bool m] 70)).alloc (by go_size) (.cells #[.slice a2 n2 c2,.bool m2] 70));have hz1:=ζ (h.mono hB.out);have hz2:=ζ (h2.mono hB.out);clear h h2;go_wp2_with fail
 refine(sub_any _ _ _ _ z _ _ _ _ z2 _ hz1.out hz2.out hl hl2).mono ?_;rintro e wa ⟨b1,k1,d1,m3,rfl,hd,hb⟩;have AH:=ζ (hB.out.trans (hb.mono hB.out.size));have AC:=ζ hd;clear hd hb;go_wp2_with fail
 refine(sign_any _ _ _ _ _ _ AC.out).mono ?_;rintro e wb ⟨rfl,hb⟩;have AI:=ζ (AH.out.trans (hb.mono AH.out.size));clear hb;go_wp2;go_ret;exact⟨rfl,AI.out⟩
section
theorem sgn_num (q:Rat):sgn q.num=sgnQ q:=by
 unfold sgn sgnQ;have h:q.num < 0↔q < 0:=by
  rw [<-Int.not_le,Rat.num_nonneg,Rat.not_le]
 simp only [Rat.num_eq_zero,h]
theorem sgn_cross (a b:Rat):sgn (a.num*b.den - b.num*a.den)=cmpQ a b:=by
 unfold sgn cmpQ;have h1:a.num*b.den - b.num*a.den=0↔a=b:=by rw [Rat.eq_iff_mul_eq_mul];omega
 have h2:a.num*b.den - b.num*a.den < 0↔a < b:=by rw [Rat.lt_iff];omega
 simp only [h1,h2]
theorem ratio_parts (n d:Int) (hd:d≠0):
  n / (if d < 0 then -(Int.gcd n d:Int)else(Int.gcd n d:Int))=(Rat.divInt n d).num/\d / (if d < 0 then -(Int.gcd n d:Int)else(Int.gcd n d:Int))=((Rat.divInt n d).den:Int):=by
 rw [Rat.num_divInt,Rat.den_divInt,if_neg hd,Int.gcd_comm d n];have g1:((Int.gcd n d:Nat):Int)∣n:=Int.gcd_dvd_left ..;have g2:((Int.gcd n d:Nat):Int)∣d:=Int.gcd_dvd_right ..;rcases Int.lt_trichotomy d 0 with h | h | h
 ·rw [if_pos h,Int.sign_eq_neg_one_of_neg h,Int.ediv_neg,Int.ediv_neg,Int.neg_one_mul,Int.neg_ediv_of_dvd g1];refine⟨rfl,?_⟩;rw [<-Int.neg_ediv_of_dvd g2];rw [show -d=((d.natAbs:Nat):Int)by omega]
  exact_mod_cast rfl
 ·exact absurd h hd
 ·rw [if_neg (by omega),Int.sign_eq_one_of_pos h,Int.one_mul];refine⟨rfl,?_⟩
  conv=>lhs;rw [show d=((d.natAbs:Nat):Int)by omega]
  exact_mod_cast rfl
theorem gcd_pos' (n:Int) {d:Int} (hd:d≠0):(0:Int) < Int.gcd n d:=by
 have:0 < Int.gcd n d:=Int.gcd_pos_of_ne_zero_right n hd;omega
theorem floor_eq (q:Rat):q.num / (q.den:Int)=q.floor:=(Rat.floor_def q).symm
end
section
open Go.RowKit Dig
structure Rd (w:World) (s:Value) (m:Bool) (s':Value) (q:Rat):Prop where
 z:Zd w s m q.num
 d:Dg w s' (q.den - 1)
theorem Rd.keep {w w':World} {s s':Value} {m:Bool} {q:Rat} (h:Rd w s m s' q) (hk:Keeps w w'):Rd w' s m s' q:=⟨h.z.keep hk,h.d.keep hk⟩
section
variable {w W:World} {bs:List (Nat×Array Value×TypeId)} {rs:List (World->Prop)}
theorem St.pr (h:St w W bs rs) {s s':Value} {m:Bool} {q:Rat} (hz:Rd W s m s' q):St w W bs (rs++ [fun V=>Rd V s m s' q]):=h.push (fun _ _ k hz=>hz.keep k) hz
theorem St.r (h:St w W bs rs) (i:Nat) {s s':Value} {m:Bool} {q:Rat} (hx:rs[i]? =some (fun V=>Rd V s m s' q)):Rd W s m s' q:=(h.rd _ (List.mem_of_getElem? hx)).2
end
def RetR (w:World) (q:Rat) (e:Ending) (w':World):Prop:=∃a n c m a' n' c',e= .returned (.agg #[.slice a n c,.bool m,.slice a' n' c'])/\Rd w' (.slice a n c) m (.slice a' n' c') q/\Below w.heap.size w w'
def RetRE (w:World) (q:Rat) (k:Int) (e:Ending) (w':World):Prop:=∃a n c m a' n' c',e= .returned (.tuple #[.agg #[.slice a n c,.bool m,.slice a' n' c'],.int .i64 k])/\Rd w' (.slice a n c) m (.slice a' n' c') q/\Below w.heap.size w w'
theorem den_sub (q:Rat):(q.den - 1:Nat)+1=q.den:=by have:=q.den_nz;omega
set_option maxHeartbeats 1000000 in
theorem bottom_any (a:OA) (n c:Nat) (m:Bool) (a2:OA) (n2 c2:Nat) (q:Rat) (w:World) (h:Rd w (.slice a n c) m (.slice a2 n2 c2) q) (k:Nat) (hl:Bq k q) (hk:k<=1000000):
  Calls Tryz.prog 55 #[.agg #[.slice a n c,.bool m,.slice a2 n2 c2]] w (RetZ w q.den):=by
 have HL:=ζ (show(dg 16777216 (q.den - 1)).length<=50000 by
  have:Bd k ((q.den - 1:Nat):Int):=hl.den.of_le (by simp);have:=this.len hk;rwa [Int.natAbs_natCast]at this)
 have HV:=ζ (show(((q.den - 1:Nat):Int)+1*((1:Nat):Int)).toNat=q.den by have:=den_sub q;omega);have hC:=ζ ((((St.enter w).pd h.d).al w.heap.size #[.slice a n c,.bool m,.slice a2 n2 c2] 72 rfl rfl).al (w.heap.size+1) #[.slice none 0 0,.bool false] 70 (by simp) rfl);clear h hl hk;go_enter Tryz.func55,Tryz.ntmps55;go_wp2;go_region_held3 (fun w'=>w'.cell? ⟨w.heap.size,2,none⟩=some (.slice a2 n2 c2)/\True)
  (first | exact⟨(AA.out.set 1 rfl|>.set 1 rfl).c 0 2,trivial⟩ | exact⟨AA.out.c 0 2,trivial⟩ | exact⟨AB.out.c 0 2,trivial⟩ | exact⟨hC.out.c 0 2,trivial⟩)
  (first
   | (go_at_call 109;refine(word_any 1 _ (by omega)).mono ?_;rintro e wa ⟨b1,k1,d1,rfl,hd,hb⟩;have AB:=ζ ((hC.out.drew.call hb).pd hd);clear hd hb)
   | (go_at_call 111;refine(plus_any _ _ _ _ _ _ 1 (q.den - 1) 1 _ (AB.out.d 0 rfl) (AB.out.d 1 rfl) (.inl rfl) (by omega) (Nat.le_trans HL.out (by omega)) (dg_len_le (by omega) (by omega))).mono ?_;rintro e wb ⟨b2,k2,d2,rfl,hd,hb⟩;have AA:=ζ ((AB.out.call hb).pd hd);clear hd hb;have c0:=AA.out.c 1 0;have c1:=AA.out.c 1 1;have f0:=AA.out.f 1 0;have f1:=AA.out.f 1 1))
 go_wp2;refine ret_st (AA.out.set 1 rfl|>.set 1 rfl) (v:= .agg #[.slice b2 k2 d2,.bool false]) (fun hF=>?_) rfl (fun hF=>⟨b2,k2,d2,false,rfl,⟨?_,by simp⟩,hF.be⟩)
 ·have e0:=hF.c 1 0;have e1:=hF.c 1 1;simp [results,Tryz.results55,go_sem,e0,e1]
 ·have:=hF.d 2 rfl;rw [HV.out]at this;rw [Int.natAbs_natCast];exact this
structure HI (xs L:List Int) (i:Nat):Prop where
 len:L.length=xs.length
 val:2*vl 16777216 L+vl 16777216 (xs.take i) % 2=vl 16777216 (xs.take i)
 rng:∀x∈L,0<=x/\x<=33554432
 zer:∀j,i<=j->L[j]?.getD 0=0
 las:∀j,j+1=i->0<=L[j]?.getD 0/\L[j]?.getD 0<=8388608
theorem HI.start (xs:List Int):HI xs (List.replicate xs.length 0) 0:=
 ⟨by simp,by simp [vl_replicate,vl],fun x hx=>by rw [(List.mem_replicate.1 hx).2];omega,fun j _=>by rw [List.getElem?_replicate];split<;>rfl,fun j h=>by omega⟩
theorem getD_set' (L:List Int) (i j:Nat) (y:Int) (hi:i < L.length):(L.set i y)[j]?.getD 0=if i=j then y else L[j]?.getD 0:=by
 rw [List.getElem?_set];by_cases h:i=j
 ·rw [if_pos h,if_pos h,if_pos (by omega)];rfl
 ·rw [if_neg h,if_neg h]
theorem getD_eq {L:List Int} {j:Nat} (h:j < L.length):L[j]?.getD 0=L[j]:=by rw [List.getElem?_eq_getElem h];rfl
theorem HI.first {xs L:List Int} (h:HI xs L 0) (hx:∀x∈xs,0<=x/\x < 16777216) (hi:0 < xs.length):HI xs (L.set 0 (xs[0] / 2)) 1:=by
 have hl:0 < L.length:=by rw [h.len];exact hi
 have b:=hx _ (List.getElem_mem hi);have hz:L[0]=0:=by have:=h.zer 0 (Nat.le_refl _);rwa [getD_eq hl]at this
 refine⟨by rw [List.length_set,h.len],?_,?_,?_,?_⟩
 ·have hv:=h.val;rw [List.take_zero,vl]at hv;rw [vl_set _ _ hl,hz,show(1:Nat)=0+1 from rfl,vl_take_succ _ hi,List.take_zero,vl];simp;omega
 ·intro x hx';rcases List.mem_or_eq_of_mem_set hx' with h' | h'
  ·exact h.rng x h'
  ·omega
 ·intro j hj;rw [getD_set' _ _ _ _ hl,if_neg (by omega)];exact h.zer j (by omega)
 ·intro j hj;obtain rfl:j=0:=by omega
  rw [getD_set' _ _ _ _ hl,if_pos rfl];omega
theorem HI.next {xs L:List Int} {i:Nat} (h:HI xs L (i+1)) (hx:∀x∈xs,0<=x/\x < 16777216) (hi:i+1 < xs.length) (hl0:i < (L.set (i+1) (xs[i+1] / 2)).length):
  (0<=(L.set (i+1) (xs[i+1] / 2))[i]/\(L.set (i+1) (xs[i+1] / 2))[i]<=8388608)/\
  HI xs ((L.set (i+1) (xs[i+1] / 2)).set i ((L.set (i+1) (xs[i+1] / 2))[i] +xs[i+1] % 2*8388608)) (i+2):=by
 have hl:i+1 < L.length:=by rw [h.len];exact hi
 have hl1:i < L.length:=by omega
 have b:=hx _ (List.getElem_mem hi);have hz:L[i+1]=0:=by have:=h.zer (i+1) (Nat.le_refl _);rwa [getD_eq hl]at this
 have hla:=h.las i rfl;rw [getD_eq hl1]at hla;have hg:(L.set (i+1) (xs[i+1] / 2))[i]=L[i]:=by rw [List.getElem_set_ne (by omega)]
 rw [hg];refine⟨hla,by rw [List.length_set,List.length_set,h.len],?_,?_,?_,?_⟩
 ·have hv:=h.val;rw [vl_set _ _ hl0,hg,vl_set _ _ hl,hz,show i+2=(i+1)+1 from rfl,vl_take_succ _ hi];have hp:(16777216:Int) ^ (i+1)=16777216 ^ i*16777216:=Int.pow_succ ..;rw [hp];have e1:xs[i+1]=2*(xs[i+1] / 2)+xs[i+1] % 2:=by omega
  generalize xs[i+1] / 2=q at*;generalize xs[i+1] % 2=r at*;rw [e1];generalize vl 16777216 (xs.take (i+1))=V at*;generalize vl 16777216 L=W at*;have e2:V+16777216 ^ i*16777216*(2*q+r)=V+2*(16777216 ^ i*8388608*(2*q+r)):=by grind
  have e3:(V+2*((16777216:Int) ^ i*8388608*(2*q+r))) % 2=V % 2:=by omega
  rw [e2,e3];grind
 ·intro x hx';rcases List.mem_or_eq_of_mem_set hx' with h' | h'
  ·rcases List.mem_or_eq_of_mem_set h' with h' | h'
   ·exact h.rng x h'
   ·omega
  ·omega
 ·intro j hj;rw [getD_set' _ _ _ _ hl0,if_neg (by omega),getD_set' _ _ _ _ hl,if_neg (by omega)];exact h.zer j (by omega)
 ·intro j hj;obtain rfl:j=i+1:=by omega
  rw [getD_set' _ _ _ _ hl0,if_neg (by omega),getD_set' _ _ _ _ hl,if_pos rfl];omega
theorem half_any (a:OA) (n c:Nat) (M:Nat) (w:World) (h1:Dg w (.slice a n c) M) (hlM:(dg 16777216 M).length<=10000000):
  Calls Tryz.prog 235 #[.agg #[.slice a n c]] w (RetD w (M / 2)):=by
 unfold Dg at h1;have hn:=h1.len;have L1:=ζ h1.lt;have HM:=ζ h1;have VM:=ζ (show vl 16777216 (dg 16777216 M)=(M:Int)from vl_dg (b:=16777216) (by omega) M);have MM:=ζ (show ∀x∈dg 16777216 M,0<=x/\x < 16777216 from dg_mem (b:=16777216) (by omega) M);clear h1;generalize dg 16777216 M=xs at*;subst hn;go_enter Tryz.func235,Tryz.ntmps235;go_wp2_with (first | (at_make;refine wpList_make_sl _ rfl _ _ _ rfl 2 Tryz.underlying66 info_i64 _ _ _ _ xs.length xs.length rfl rfl rfl rfl (Nat.le_refl _) (by omega) ?_;intro ho0;simp only [World.size_alloc]at ho0))
 have AC:=ζ (((((Below.refl w.heap.size w).alloc (Nat.le_refl _) (.cells #[.slice a xs.length c] 68)).alloc (by go_size) (.cells #[.slice none 0 0] 68)).alloc (by go_size) (.cells (madeCells #[.int .i64 0] xs.length) 2)));have AA:=ζ ((((Box.new' (v:= .slice none 0 0) (t:=68) (w:=w.alloc (.cells #[.slice a xs.length c] 68)) (b:=w.heap.size+1) (by simp)).alloc (.cells (madeCells #[.int .i64 0] xs.length) 2))));have hO:=ζ ho0;clear ho0;go_loopw [13] (fun ix wr=>∃ (i:Nat) (L:List Int),ix= .int .i64 i/\i<=xs.length/\HI xs L i/\Below w.heap.size w wr/\Box wr (w.heap.size+1) (.slice none 0 0) 68/\
   Sl 2 wr (.slice (some ⟨w.heap.size+1+1,0,none⟩) xs.length xs.length) L) (fun ix _=>xs.length - (intOf ix).toNat)
 case atStart=>exact⟨0,_,rfl,Nat.zero_le _,HI.start xs,AC.out,AA.out,hO.out⟩
 case round=>
  clear AC AA hO;obtain ⟨i,L,rfl,hi,hT,hB,AA,ho⟩:=hrel;by_cases hlt:i < xs.length
  ·have sx:Sl 2 wr (.slice a xs.length c) xs:=HM.out.below hB L1.out;obtain ⟨g1,rfl,hg1⟩:=sx.row (by omega);have cx:=sx.cell hlt;have bX:=MM.out _ (List.getElem_mem hlt);have hil:i < L.length:=(by rw [hT.len];exact hlt);have co:=ho.cell hil;have fo:=ho.free i;cases i with
   | zero=>
     have HT:=ζ (hT.first MM.out hlt);have HB:=ζ hB;have AB:=ζ AA;have HO:=ζ ho;clear sx hB AA ho hT;go_wp2;go_roundw
     case rel=>exact⟨1,_,by go_num,by omega,HT.out,HB.out.setCell (by simp;omega) _,AB.out.other (by simp) _,HO.out.set _ _⟩
     case measure=>simp [intOf];omega
   | succ i=>
     have hl0:i < (L.set (i+1) (xs[i+1] / 2)).length:=(by rw [List.length_set];omega);have hl1:i < L.length:=(by omega);obtain ⟨b2,hn⟩:=hT.next MM.out hlt hl0;have hg:(L.set (i+1) (xs[i+1] / 2))[i]=L[i]:=(by rw [List.getElem_set_ne (by omega)]);rw [hg]at b2 hn;have co2:=(ho.set (i+1) (xs[i+1] / 2)).cell hl0;rw [hg]at co2;have fo2:=(ho.set (i+1) (xs[i+1] / 2)).free i;clear hg;have hm1:=i64_mask1 xs[i+1];have HT:=ζ hn;have HB:=ζ hB;have AB:=ζ AA;have HO:=ζ ho;clear sx hB AA ho hT hn;go_wp2;go_roundw
     case rel=>exact⟨i+2,_,by go_num,by omega,HT.out,(HB.out.setCell (by simp;omega) _).setCell (by simp;omega) _,(AB.out.other (by simp) _).other (by simp) _,(HO.out.set _ _).set _ _⟩
     case measure=>simp [intOf];omega
  ·obtain rfl:i=xs.length:=by omega
   have hv:vl 16777216 L=((M / 2:Nat):Int):=(by have:=hT.val;rw [List.take_length,VM.out]at this;omega);have e0:=ζ (show 0<=vl 16777216 L by rw [hv];omega);have e1:=ζ (show L.length<=100000000 by rw [hT.len];omega);have e2:=ζ (show ∀x∈L,-4611686018427387904<=x/\x<=4611686018427387904 from fun x hx=>by have:=hT.rng x hx;omega);have HV:=ζ hv;have HB:=ζ hB;have AB:=ζ AA;have HO:=ζ ho;clear hB AA ho hT hv;go_wp2_with fail
   refine(settled_any _ L _ ⟨_,_,_,rfl⟩ HO.out e2.out e0.out e1.out).mono ?_;rintro e w2 ⟨a3,n3,c3,rfl,hd,hg2,hs2⟩;have bx:=AB.out.grown hg2 (by simp [Value.ownBlock]);have bc:=bx.cell;have bf:=bx.free;have bs:=fun u=>(bx.set u).cell;have HF:=ζ (fin_D (R:=w.heap.size+1) HB.out (by omega) AB.out.lt (by omega) (by omega) hd hg2 hs2 HV.out);clear hd hg2 hs2 bx;go_wp2;exact bodyPost_ret (v:= .agg #[.slice a3 n3 c3]) (by simp [results,Tryz.results235,go_sem,bs]) rfl HF.out
end
end Go.Proofs.YtjpojeapdgjbhaaGreatDoor

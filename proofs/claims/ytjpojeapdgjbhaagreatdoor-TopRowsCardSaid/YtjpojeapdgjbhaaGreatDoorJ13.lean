/- part -/
import Derived.Test.YtjpojeapdgjbhaaGreatDoorJ9
import Derived.Test.YtjpojeapdgjbhaaGreatDoorJ12
import Derived.Test.YtjpojeapdgjbhaaGreatDoorJ11
set_option maxRecDepth 100000
set_option maxHeartbeats 32000000
namespace Go.Proofs.YtjpojeapdgjbhaaGreatDoor
open Go.RowKit
section
variable (w:World)
theorem clone_any (a:Option Addr) (n c:Nat) (l:List Int) (hs:Sx 1 w a n c (L1 l)) (hn:n<=1000):Calls Tryz.prog 33 #[.slice a n c] w (RetRow w 3 1 n (L1 l)):=by
 have key:∀v':Value,∀w':World,w'.ownsRow w.heap.size 3 1 v' n (L1 l)->Below w.heap.size w w'->RetRow w 3 1 n (L1 l) (.returned v') w':=fun v' w' h hb=>by
  rcases h.2 with ⟨rfl,h0⟩ | ⟨g,cap,cur,rfl,_⟩
  ·exact⟨none,0,by rw [h0],by rw [<-h0]at h;rw [h0]at h⊢;exact h,hb⟩
  ·exact⟨_,_,rfl,h,hb⟩
 have hlen:=hs.n1;cases a with
 | none=>
   have h0:n=0:=by
    rcases Nat.eq_zero_or_pos n with h | h
    ·exact h
    ·obtain ⟨_,_,e⟩:=hs.addr h;cases e
   subst h0;refine(Tryz.slices_Clone_int_nil 0 c w).mono ?_;rintro e w' ⟨rfl,rfl⟩;refine key _ _ ?_ (Below.refl _ _);rw [List.length_eq_zero_iff.1 hlen.symm];exact World.ownsRow_nil _ _ _ _
 | some a=>
   rcases Nat.eq_zero_or_pos n with h | h
   ·subst h;refine(Tryz.slices_Clone_int_zero a c w).mono ?_;rintro e w' ⟨v',rfl,h1,_,h2⟩;refine key _ _ ?_ h2;rw [List.length_eq_zero_iff.1 hlen.symm];exact h1
   ·obtain ⟨g,o,e⟩:=hs.addr h;cases e;refine(Tryz.slices_Clone_int g o n c l w (by omega) (by omega) (fun j hj=>?_)).mono ?_
    ·rw [List.getD_eq_getElem?_getD,List.getElem?_eq_getElem hj];exact hs.at1 hj
    ·rintro e w' ⟨v',rfl,h1,_,h2⟩;rw [List.take_of_length_le (by omega)]at h1;exact key _ _ h1 h2
end
section
variable (w:World)
theorem countP_bound2 {p:Nat->Bool} :∀n,(∀a b,a<=b->b < n->p b=true->p a=true)->(∀i,i < n->(p i=true↔i < (List.range n).countP p))/\(List.range n).countP p<=n:=by
 intro n;induction n with
 | zero=>intro _;exact⟨fun i h=>absurd h (Nat.not_lt_zero i),by simp⟩
 | succ n ih=>
   intro hm;obtain ⟨h1,h2⟩:=ih fun a b hab hb=>hm a b hab (by omega);rw [List.range_succ,List.countP_append];cases hp:p n with
   | true=>
     have hall:∀i,i < n->p i=true:=fun i hi=>hm i n (by omega) (by omega) hp;have hc:(List.range n).countP p=n:=by
      have:(List.range n).countP p=(List.range n).length:=List.countP_eq_length.2 fun i hi=>hall i (List.mem_range.1 hi);simpa using this
     simp only [hc,List.countP_singleton,hp,if_true];refine⟨fun i hi=>⟨fun _=>hi,fun _=>?_⟩,Nat.le_refl _⟩;rcases Nat.lt_or_ge i n with h | h
     ·exact hall i h
     ·rw [show i=n by omega];exact hp
   | false=>
     simp only [List.countP_singleton,hp];simp only [Bool.false_eq_true,if_false,Nat.add_zero];refine⟨fun i hi=>?_,by omega⟩;rcases Nat.lt_or_ge i n with h | h
     ·exact h1 i h
     ·rw [show i=n by omega,hp];exact⟨fun h=>(by cases h),fun h=>by omega⟩
theorem found {ends:List Int} (hs:ends.Pairwise (· < ·)) (far:Int):∃K,(List.range ends.length).countP (fun i=> !decide (far < ends.getD i 0))=K/\K<=ends.length/\∀m,nextEnd ends m far=if 0 < K/\m < ends.getD (K - 1) 0 then ends.getD (K - 1) 0 else m:=by
 obtain ⟨h1,h2⟩:=countP_bound2 (p:=fun i=> !decide (far < ends.getD i 0)) ends.length (fun x y hxy hyl hy=>by
  simp only [Bool.not_eq_true',decide_eq_false_iff_not]at hy⊢;rcases Nat.lt_or_ge x y with h3 | h3
  ·have:=List.pairwise_iff_getElem.1 hs x y (by omega) hyl h3;rw [getD_at hyl]at hy;rw [getD_at (by omega)];omega
  ·rw [show x=y by omega];exact hy)
 refine⟨_,rfl,h2,fun m=>?_⟩;generalize (List.range ends.length).countP (fun i=> !decide (far < ends.getD i 0))=K at*;rw [nextEnd_last hs (k:=K) h2 (fun i hi hik=>by
  have:=(h1 i hi).2 hik;simp only [Bool.not_eq_true',decide_eq_false_iff_not]at this;rw [getD_at hi]at this;omega) (fun i hi hik=>by
  have:=mt (h1 i hi).1 (by omega);simp only [Bool.not_eq_true',decide_eq_false_iff_not]at this;rw [getD_at hi]at this;omega)]
 by_cases h0:0 < K
 ·rw [dif_pos h0,getD_at (by omega)];by_cases h3:m < ends[K - 1]'(by omega)
  ·rw [if_pos h3,if_pos ⟨h0,h3⟩]
  ·rw [if_neg h3,if_neg (fun h=>h3 h.2)]
 ·rw [dif_neg h0,if_neg (fun h=>h0 h.1)]
end
section
variable (w:World)
end
def okB (b:Nat):Bool:=(decide (97<=b) && decide (b<=122)) || (decide (48<=b) && decide (b<=57))
theorem odd_ok (b:Nat):oddR b= !okB b:=by
 unfold oddR okB;cases decide (97<=b)<;>cases decide (b<=122)<;>cases decide (48<=b)<;>cases decide (b<=57)<;>rfl
theorem decode_low {s:ByteArray} {i:Nat} (h:(s.get! i).toNat < 128):Utf8.decode s i=((s.get! i).toNat,1):=by
 unfold Utf8.decode;simp only [Nat.add_zero];rw [if_pos h]
theorem decode_high {s:ByteArray} {i:Nat} (h:¬ (s.get! i).toNat < 128):128<=(Utf8.decode s i).1:=by
 unfold Utf8.decode Utf8.runeError;simp only [Nat.add_zero];rw [if_neg h]
 split
 ·split
  ·simp only;omega
  ·simp only;omega
 ·split
  ·split
   ·rename_i h2;have h3:=(Bool.and_eq_true _ _).mp h2;have:=of_decide_eq_true h3.1;simp only;omega
   ·simp only;omega
  ·split
   ·split
    ·rename_i h2;have h3:=(Bool.and_eq_true _ _).mp h2;have:=of_decide_eq_true h3.1;simp only;omega
    ·simp only;omega
   ·simp only;omega
theorem odd_high {x:Nat} (h:128<=x):oddR x=true:=by
 rw [odd_ok];unfold okB;rw [decide_eq_false (show ¬ x<=122 by omega),decide_eq_false (show ¬ x<=57 by omega),Bool.and_false,Bool.and_false];rfl
theorem idx_none (s:ByteArray):∀ (f pos:Nat),s.size<=pos+f->(Lib.idxFuncFrom oddR true s f pos= -1↔∀i,pos<=i->i < s.size->okB (s.get! i).toNat=true)
 | 0,pos,h=>⟨fun _ i h1 h2=>by omega,fun _=>rfl⟩
 | f+1,pos,h=>by
   unfold Lib.idxFuncFrom;by_cases hp:pos < s.size
   ·rw [if_pos hp];by_cases hb:(s.get! pos).toNat < 128
    ·rw [decode_low hb];cases ho:okB (s.get! pos).toNat
     ·rw [odd_ok,ho,if_pos (by rfl)];exact⟨fun h2=>by omega,fun h2=>by rw [h2 pos (Nat.le_refl _) hp]at ho;cases ho⟩
     ·rw [odd_ok,ho,if_neg (by simp),idx_none s f (pos+1) (by omega)];constructor
      ·intro h2 i h3 h4;rcases Nat.lt_or_ge pos i with h5 | h5
       ·exact h2 i (by omega) h4
       ·rw [show i=pos by omega];exact ho
      ·intro h2 i h3 h4;exact h2 i (by omega) h4
    ·have hd:=decode_high hb;rw [if_pos (odd_high hd)];refine⟨fun h2=>by omega,fun h2=>?_⟩;have h3:=h2 pos (Nat.le_refl _) hp;have h4:=odd_high (x:=(s.get! pos).toNat) (by omega);rw [odd_ok,h3]at h4;cases h4
   ·rw [if_neg hp];exact⟨fun _ i h1 h2=>by omega,fun _=>rfl⟩
theorem get_at {s:ByteArray} {i:Nat} (h:i < s.size):s.get! i=s[i]:=by
 show s.data[i]! =s.data[i];exact getElem!_pos s.data i h
theorem named_iff {s:ByteArray} :namedB s=true↔1<=s.size/\s.size<=16/\∀i (h:i < s.size),okB s[i].toNat=true:=by
 have h0:=idx_none s s.size 0 (by omega);have hr:=Lib.idxFunc_range oddR true s;have he:s.toList.isEmpty=decide (s.size=0):=by
  rw [Go.ByteArray.toList_eq];cases hl:s.data.toList with
  | nil=>rw [decide_eq_true];rfl;show s.data.size=0;rw [<-Array.length_toList,hl];rfl
  | cons a b=>rw [decide_eq_false];rfl;show ¬ s.data.size=0;rw [<-Array.length_toList,hl];simp
 unfold namedB;rw [Bool.and_eq_true,Bool.and_eq_true,he,Bool.not_eq_true',Bool.not_eq_true',decide_eq_false_iff_not,decide_eq_true_eq,decide_eq_false_iff_not];have e:(¬ 0<=Lib.idxFunc oddR true s)↔∀i (h:i < s.size),okB s[i].toNat=true:=by
  constructor
  ·intro h i hi;have:=h0.1 (by show Lib.idxFunc oddR true s= -1;omega) i (Nat.zero_le _) hi;rwa [get_at hi]at this
  ·intro h;have:Lib.idxFunc oddR true s= -1:=h0.2 fun i _ hi=>by rw [get_at hi];exact h i hi
   omega
 rw [e];constructor
 ·rintro ⟨⟨h1,h2⟩,h3⟩;exact⟨by omega,h2,h3⟩
 ·rintro ⟨h1,h2,h3⟩;exact⟨⟨by omega,h2⟩,h3⟩
theorem okB_iff {b:Nat} :okB b=true↔(97<=(b:Int)/\(b:Int)<=122)\/(48<=(b:Int)/\(b:Int)<=57):=by
 unfold okB;simp;omega
theorem named_no {s:ByteArray} {k:Nat} (hk:k < s.size) (h:¬ ((97<=(s[k].toNat:Int)/\(s[k].toNat:Int)<=122)\/(48<=(s[k].toNat:Int)/\(s[k].toNat:Int)<=57))):namedB s=false:=by
 cases hn:namedB s
 ·rfl
 ·exact absurd (okB_iff.1 ((named_iff.1 hn).2.2 k hk)) h
theorem named_end {s:ByteArray} (h:∀j (hj:j < s.size),okB s[j].toNat=true):namedB s=(decide (1<=s.size) && decide (s.size<=16)):=by
 rw [Bool.eq_iff_iff,named_iff,Bool.and_eq_true,decide_eq_true_eq,decide_eq_true_eq];exact⟨fun x=>⟨x.1,x.2.1⟩,fun x=>⟨x.1,x.2,h⟩⟩
theorem refNamed_any (s:ByteArray) (w:World) (hs:s.size<=maxLen):
  Calls Tryz.prog 74 #[.string s] w fun e w'=>e= .returned (.bool (namedB s))/\w'=w:=by
 unfold maxLen at hs;go_enter Tryz.func74,Tryz.ntmps74;go_wp2;go_loop [3] (fun i=>∃k:Nat,k<=s.size/\i= .int .i64 k/\Hid (∀j (hj:j < s.size),j < k->okB s[j].toNat=true)) (fun i=>s.size - (intOf i).toNat)
 case atStart=>exact⟨0,Nat.zero_le _,rfl,ζ (fun j _ hj=>absurd hj (Nat.not_lt_zero j))⟩
 case round=>
  obtain ⟨k,hk,rfl,HJ⟩:=hrel;by_cases hlt:k < s.size
  ·have HN:=ζ (named_no (s:=s) hlt);have HY:=ζ (show((97<=(s[k].toNat:Int)/\(s[k].toNat:Int)<=122)\/(48<=(s[k].toNat:Int)/\(s[k].toNat:Int)<=57))->okB s[k].toNat=true from fun h=>okB_iff.2 h);have HR:=ζ (show ∀j (hj:j < s.size),j < k+1->okB s[k].toNat=true->okB s[j].toNat=true from fun j hj h1 h2=>by
    rcases Nat.lt_or_ge j k with h | h
    ·exact HJ.out j hj h
    ·obtain rfl:j=k:=by omega
     exact h2)
   clear HJ;by_cases h1:(s[k].toNat:Int) < 97
   ·by_cases h3:(s[k].toNat:Int) < 48
    ·have HG:=ζ (HN.out (by omega));go_wp2;go_ret;exact⟨ret_bool HG.out.symm,rfl⟩
    ·by_cases h4:57 < (s[k].toNat:Int)
     ·have HG:=ζ (HN.out (by omega));go_wp2;go_ret;exact⟨ret_bool HG.out.symm,rfl⟩
     ·have HG:=ζ (HY.out (by omega));go_wp2;go_round
      case rel=>exact⟨k+1,by omega,by go_num,ζ (fun j hj h=>HR.out j hj h HG.out)⟩
      case measure=>simp [intOf];omega
   ·have h3:¬ (s[k].toNat:Int) < 48:=(by omega);have h4:57 < (s[k].toNat:Int):=(by omega);by_cases h2:122 < (s[k].toNat:Int)
    ·have HG:=ζ (HN.out (by omega));go_wp2;go_ret;exact⟨ret_bool HG.out.symm,rfl⟩
    ·have HG:=ζ (HY.out (by omega));go_wp2;go_round
     case rel=>exact⟨k+1,by omega,by go_num,ζ (fun j hj h=>HR.out j hj h HG.out)⟩
     case measure=>simp [intOf];omega
  ·have HG:=ζ (named_end (s:=s) fun j hj=>HJ.out j hj (by omega));clear HJ;by_cases h1:1<=s.size
   ·by_cases h2:s.size<=16
    ·go_wp2;go_ret;exact⟨ret_bool (by rw [HG.out,decide_eq_true h1,decide_eq_true h2];simp;omega),rfl⟩
    ·go_wp2;go_ret;exact⟨ret_bool (by rw [HG.out,decide_eq_true h1,decide_eq_false h2];simp;omega),rfl⟩
   ·go_wp2;go_ret;exact⟨ret_bool (by rw [HG.out,decide_eq_false h1];rfl),rfl⟩
section
variable (w:World)
end
theorem in6_any (x lo hi:Int) (w:World):Calls Tryz.prog 75 #[.int .i64 x,.int .i64 lo,.int .i64 hi] w fun e w'=>e= .returned (.bool (inB x lo hi))/\w'=w:=by
 unfold inB;by_cases h1:lo<=x<;>by_cases h2:x<=hi
 all_goals
  go_enter Tryz.func75,Tryz.ntmps75;go_wp2;go_ret;exact⟨ret_bool (by simp [h1,h2]),rfl⟩
section
variable (w:World)
theorem rwidth_any (s:Sht) (z:Int) (hb:0<=s.batter/\s.batter<=500) (hz:0<=z/\z<=3000) (hB:0<=s.base/\s.base<=3000):
  Calls Tryz.prog 76 #[aS s,.int .i64 z] w (Gives (.int .i64 (widthI s z)) w):=by
 obtain ⟨p0,p1,p2,p3⟩:=width_bd hb hz;have HE:=ζ (show widthI s z=s.base - 2*(s.batter*z).tdiv 1000 from rfl);obtain ⟨V,hV⟩:∃V,aS s=V:=⟨_,rfl⟩
 have HV:=ζ (show V.cells=(cS s).toArray by rw [<-hV];rfl);rw [hV];clear hV;go_enter Tryz.func76,Tryz.ntmps76;go_wp2_with (refine wpList_bx (o:=⟨some 2,_,_,_,_,_⟩) rfl (Sy.enter w) _ _ rfl (cS s).toArray HV.out ?_;intro b V2 h2;have hC:=ζ h2;clear h2;have x1:V2.cell? ⟨b,1,none⟩=some (.int .i64 s.base):=hC.out.c 0 1;have x2:V2.cell? ⟨b,2,none⟩=some (.int .i64 s.batter):=hC.out.c 0 2)
 go_ret;exact⟨ret_int HE.out.symm,hC.out.be⟩
theorem und_RCourse:Tryz.prog.underlying 161=some (.slice 210):=Tryz.underlying161
theorem info_RCourse:(Tryz.prog.info? 210).map (fun i=>(i.zero,i.size,i.bytes))=some (some (.agg #[.int .i64 0,.int .i64 0]),2,16):=by kernel_rfl
theorem L2_snoc2 (l:List I2) (a b:Int):L2 (l++ [(a,b)])=L2 l++ [.int .i64 a,.int .i64 b]:=by rw [L2_append];rfl
theorem mP6_0 {P_:Prop} (h:P_:=by
 go_wp2_with (refine wpList_append_sy (o:=⟨some 67,_,_,_,_,_⟩) rfl (hC.out.onew W3.heap.size #[.int .i64 z,.int .i64 s.height] 210 2 1 rfl (by omega) rfl) 0 1 rfl rfl _ _ _ rfl und_RCourse info_RCourse rfl (by omega) rfl rfl (by intro u hu;simp at hu;rcases hu with rfl | rfl<;>rfl) (by omega) (by omega) ?_;intro a3 c3 V3 AB;have hJ:=ζ AB;clear AB)
 go_ret;refine⟨a3,c3,?_,?_,hJ.out.be⟩
 ·rw [AA.out,List.length_append,AC.out];rfl
 ·rw [AA.out,List.length_append,AC.out,L2_snoc2];exact hJ.out.gives 0 rfl):P_:=h
theorem rcourses_any (s:Sht) (hs:Sx 1 w s.ha s.hn s.hc (L1 s.hs)) (hn:0 < s.hn) (hh:∀h∈s.hs,1<=h/\h<=1000) (hH:1<=s.height/\s.height<=3000) (hL:1<=s.least):
  Calls Tryz.prog 77 #[aS s] w (RetRow w 210 2 (coursesL s.hs s.height s.least).length (L2 (coursesL s.hs s.height s.least))):=by
 have hlen:=hs.n1;have hcap:=hs.cap;unfold maxLen at hcap;obtain ⟨g0,o0,e0⟩:=hs.addr hn;have HS:=ζ (show Sx 1 w (some ⟨g0,o0,none⟩) s.hn s.hc (L1 s.hs)by rw [<-e0];exact hs);have HH:=ζ hh;have HL:=ζ hL;have E0:=ζ e0;obtain ⟨V,hV⟩:∃V,aS s=V:=⟨_,rfl⟩
 have HV:=ζ (show V.cells=(cS s).toArray by rw [<-hV];rfl);rw [hV];have AR:=hH.1;have AL:=hH.2;clear hV hs hh e0 hL hH;go_enter Tryz.func77,Tryz.ntmps77;go_wp2_with (refine wpList_bx (o:=⟨some 1,_,_,_,_,_⟩) rfl (Sy.enter w) _ _ rfl (cS s).toArray HV.out ?_;intro b V2 h2;have hC:=ζ h2;clear h2)
 go_loopw [3,4,5] (fun ov zv iv wr=>∃ (k j:Nat) (z:Int) (out:List I2) (a:OA) (c:Nat),ov= .slice a k c/\zv= .int .i64 z/\iv= .int .i64 j/\Hid (j=min k (s.hs.length - 1))/\Hid (Laying s.hs s.height out k z)/\Hid (Sy w wr [(b,(cS s).toArray,94)] [⟨.slice a k c,210,2,k,L2 out⟩] [])) (fun _ zv _ _=>4000 - (intOf zv).toNat)
 case atStart=>exact⟨0,0,0,[],none,0,rfl,rfl,rfl,ζ (by simp),ζ (laying_start _ (by omega)),ζ (hC.out.onil _ 2)⟩
 case round=>
  clear hC;obtain ⟨k,j,z,out,a,c,rfl,rfl,rfl,HJ,AD,hC⟩:=hrel;have hkz:=AD.out.2.1;have hzH:=AD.out.2.2.1;obtain ⟨j',hj,hje,hat⟩:=hAt_in (hs:=s.hs) (k:=k) (by omega);have hjj:j'=j:=by rw [hje,HJ.out]
  subst hjj;have hin:=HH.out s.hs[j'] (List.getElem_mem hj);have x3:wr.cell? ⟨b,3,none⟩=some (.int .i64 s.height):=hC.out.c 0 3;have x5:wr.cell? ⟨b,5,none⟩=some (.slice (some ⟨g0,o0,none⟩) s.hn s.hc):=by rw [<-E0.out];exact hC.out.c 0 5
  have y0:wr.cell? ⟨g0,o0+j',none⟩=some (.int .i64 (hAt s.hs k)):=by
   have h:=(hC.out.sx HS.out).at1 hj;rw [hat];exact h
  have AP:=ζ (show ∀W4,Sy w W4 [(b,(cS s).toArray,94)] [⟨.slice a k c,210,2,k,L2 out⟩] []->W4.cell? ⟨g0,o0+j',none⟩=some (.int .i64 (hAt s.hs k))from fun W4 h4=>by
   have h:=(h4.sx HS.out).at1 hj;rw [hat];exact h)
  have AM:=ζ (show ∀W4,Below w.heap.size w W4->W4.cell? ⟨g0,o0+j',none⟩=some (.int .i64 (hAt s.hs k))from fun W4 h4=>by
   have h:=(HS.out.below h4).at1 hj;rw [hat];exact h)
  have AG:=ζ (show(j':Int)+1 < (s.hs.length:Int)->j'+1=min (k+1) (s.hs.length - 1)from fun h=>by omega);have AH:=ζ (show ¬ (j':Int)+1 < (s.hs.length:Int)->j'=min (k+1) (s.hs.length - 1)from fun h=>by omega);have i0:(0:Int)<=(j':Int):=by omega
  have i1:(j':Int) < (s.hs.length:Int):=by omega
  have AI:=ζ (fun h1 ht=>laying_step AD.out AL h1 ht);have AJ:=ζ (fun ht=>laying_end AD.out AL ht);have hol:out.length=k:=AD.out.1;rw [<-hat]at hin;clear hje hat hj HJ;generalize hAt s.hs k=h at*;obtain ⟨hi1,hi2⟩:=hin;by_cases hT:s.height < z+h
  ·have AF:=ζ (fun l=>courses_done (least:=l) (AJ.out hT));clear AI AJ AD;have AC:=ζ hol;clear hol;go_upto_region 3 with fail
   go_quiet (fail)
   have AE:=ζ (hC.out.call (below_dN (Below.refl _ _) nq));go_upto_region 8 with fail
   refine wp_geny AE.out ?_;intro W3 hc;have hC:=ζ hc;clear hc AE;have x3:W3.cell? ⟨b,3,none⟩=some (.int .i64 s.height):=hC.out.c 0 3;have x5:W3.cell? ⟨b,5,none⟩=some (.slice (some ⟨g0,o0,none⟩) s.hn s.hc):=(by rw [<-E0.out];exact hC.out.c 0 5);have x6:W3.cell? ⟨b,6,none⟩=some (.int .i64 s.least):=hC.out.c 0 6;have ks:(k:Int)<=3000:=(by omega);by_cases hz:z=s.height
   ·have AA:=ζ (show coursesL s.hs s.height s.least=out by rw [AF.out,if_pos hz]);have hzz:s.height - z=0:=(by omega);have hl1:=HL.out;clear AF
    as_aux_lemma=>
    go_wp2;go_ret;refine⟨a,c,?_,?_,hC.out.be⟩
    ·rw [AA.out,AC.out];rfl
    ·rw [AA.out,AC.out];exact hC.out.gives 0 rfl
   ·have AA:=ζ (AF.out s.least);rw [if_neg hz]at AA;have hzz:(s.height - z==0)=false:=beq_eq_false_iff_ne.2 (by omega);clear AF;by_cases hl:s.least<=s.height - z
    ·rw [if_pos (.inl hl)]at AA
     as_aux_lemma=>
     exact mP6_0
    ·by_cases hk0:k=0
     ·rw [if_pos (.inr (List.length_eq_zero_iff.1 (by rw [AC.out];exact hk0)))]at AA;have hkb:((k:Int)==0)=true:=beq_iff_eq.2 (by omega);clear hk0
      as_aux_lemma=>
      exact mP6_0
     ·rw [if_neg (fun hh=>hh.elim hl (fun he=>hk0 (by rw [<-AC.out,he];rfl)))]at AA;have hkb:((k:Int)==0)=false:=beq_eq_false_iff_ne.2 (by omega);obtain ⟨g1,rfl,_⟩:=hC.out.oaddr 0 rfl (by omega);have hk1:1<=(k:Int):=(by omega);obtain ⟨front,last,rfl⟩:∃front last,out=front++ [last]:=by
       rcases List.eq_nil_or_concat out with h0 | ⟨f0,l0,h0⟩
       ·exact absurd (by rw [<-AC.out,h0];rfl) hk0
       ·exact⟨f0,l0,by rw [h0,List.concat_eq_append]⟩
      obtain ⟨l1,l2⟩:=last;have hfl:front.length=k - 1:=(by have h:=AC.out;rw [List.length_append]at h;simp at h;omega);have y1:W3.cell? ⟨g1,(k - 1)*2+1,none⟩=some (.int .i64 l2):=hC.out.rcell 0 rfl (by
       rw [L2_snoc2,List.getElem?_append_right (by rw [L2_len,hfl];omega),L2_len,hfl,show(k - 1)*2+1 - (k - 1)*2=1 by omega];rfl)
      have y2:=hC.out.rfree 0 rfl ((k - 1)*2+1);have hS:=ζ (hC.out.ostore 0 rfl ((k - 1)*2+1) (.int .i64 s.height));have AQ:=ζ (show(L2 (front++ [(l1,l2)])).set ((k - 1)*2+1) (.int .i64 s.height)=L2 (front++ [(l1,s.height)])by
       rw [L2_snoc2,L2_snoc2,List.set_append_right _ _ (by rw [L2_len,hfl];omega),L2_len,hfl,show(k - 1)*2+1 - (k - 1)*2=1 by omega];rfl)
      rw [show(front++ [(l1,l2)]).dropLast=front by simp,show((front++ [(l1,l2)]).getLastD (0,0)).1=l1 by simp]at AA;have AN:=ζ hfl;clear hfl
      as_aux_lemma=>
      go_wp2;go_ret;refine⟨some ⟨g1,0,none⟩,c,?_,?_,hS.out.be⟩
      ·rw [AA.out,List.length_append,AN.out,show k - 1+ [(l1,s.height)].length=k by simp;omega];rfl
      ·rw [AA.out,List.length_append,AN.out,show k - 1+ [(l1,s.height)].length=k by simp;omega];have h:=hS.out.gives 0 rfl;rw [AQ.out]at h;exact h
  ·have AO:=ζ (AI.out hi1 hT);clear AI AJ AD;go_upto_region 3 with fail
   go_quiet (fail)
   have AE:=ζ (hC.out.call (below_dN (Below.refl _ _) nq));go_upto_region 4 with fail
   refine wp_geny AE.out ?_;intro W3 hc;have hC:=ζ hc;clear hc AE;have x3:W3.cell? ⟨b,3,none⟩=some (.int .i64 s.height):=hC.out.c 0 3;have x5:W3.cell? ⟨b,5,none⟩=some (.slice (some ⟨g0,o0,none⟩) s.hn s.hc):=(by rw [<-E0.out];exact hC.out.c 0 5);have y0:W3.cell? ⟨g0,o0+j',none⟩=some (.int .i64 h):=AP.out _ hC.out;by_cases hj2:(j':Int)+1 < (s.hs.length:Int)
   ·have AK:=ζ (AG.out hj2);clear AG AH;go_wp2_with (refine wpList_append_sy (o:=⟨some 28,_,_,_,_,_⟩) rfl (hC.out.onew W3.heap.size #[.int .i64 z,.int .i64 (z+h)] 210 2 1 rfl (by omega) rfl) 0 1 rfl rfl _ _ _ rfl und_RCourse info_RCourse rfl (by omega) rfl rfl (by intro u hu;simp at hu;rcases hu with rfl | rfl<;>rfl) (by omega) (by omega) ?_;intro a3 c3 V3 AB;have hJ:=ζ (AB.thin (List.Sublist.refl _) (List.Sublist.cons_cons _ (List.nil_sublist _)));clear AB;have z3:V3.cell? ⟨b,3,none⟩=some (.int .i64 s.height):=hJ.out.c 0 3;have z5:V3.cell? ⟨b,5,none⟩=some (.slice (some ⟨g0,o0,none⟩) s.hn s.hc):=by { rw [<-E0.out];exact hJ.out.c 0 5 };have z0:=AM.out _ hJ.out.be)
    go_roundw
    case rel=>exact⟨k+1,j'+1,z+h,out++ [(z,z+h)],a3,c3,rfl,rfl,by go_num,AK,AO,by rw [L2_snoc2];exact hJ⟩
    case measure=>simp [intOf];omega
   ·have AK:=ζ (AH.out hj2);clear AG AH;go_wp2_with (refine wpList_append_sy (o:=⟨some 28,_,_,_,_,_⟩) rfl (hC.out.onew W3.heap.size #[.int .i64 z,.int .i64 (z+h)] 210 2 1 rfl (by omega) rfl) 0 1 rfl rfl _ _ _ rfl und_RCourse info_RCourse rfl (by omega) rfl rfl (by intro u hu;simp at hu;rcases hu with rfl | rfl<;>rfl) (by omega) (by omega) ?_;intro a3 c3 V3 AB;have hJ:=ζ (AB.thin (List.Sublist.refl _) (List.Sublist.cons_cons _ (List.nil_sublist _)));clear AB;have z3:V3.cell? ⟨b,3,none⟩=some (.int .i64 s.height):=hJ.out.c 0 3;have z5:V3.cell? ⟨b,5,none⟩=some (.slice (some ⟨g0,o0,none⟩) s.hn s.hc):=by { rw [<-E0.out];exact hJ.out.c 0 5 };have z0:=AM.out _ hJ.out.be)
    go_roundw
    case rel=>exact⟨k+1,j',z+h,out++ [(z,z+h)],a3,c3,rfl,rfl,rfl,AK,AO,by rw [L2_snoc2];exact hJ⟩
    case measure=>simp [intOf];omega
end
section
variable (w:World)
theorem info_RSheet:(Tryz.prog.info? 94).map (·.size)=some 20:=by kernel_rfl
theorem heights_no {s:Sht} {i:Nat} (hi:i < s.hs.length) (h:inB s.hs[i] 1 1000=false):heightsB s=false:=by
 cases e:heightsB s
 ·rfl
 ·have:=List.all_eq_true.1 e _ (List.getElem_mem hi);rw [h]at this;cases this
theorem heights_yes {s:Sht} (h:∀i (hi:i < s.hs.length),inB s.hs[i] 1 1000=true):heightsB s=true:=List.all_eq_true.2 fun x hx=>by
 obtain ⟨i,hi,rfl⟩:=List.getElem_of_mem hx;exact h i hi
theorem nums_yes {s:Sht} (a0:inB s.base 1 3000=true) (a1:inB s.batter 0 500=true) (a2:inB s.height 1 3000=true) (a3:inB s.skin 1 1500=true) (a4:inB (s.hn:Int) 1 12=true) (a5:inB s.least 1 1000=true) (a6:inB s.lap 0 500=true) (a7:inB s.run 1 20=true)
  (a8:inB s.footing 0 1000=true) (a9:inB s.spread 0 1000=true) (a10:inB s.low 0 s.high=true) (a11:inB s.high 0 2000=true) (a12:inB s.rood 1 100000=true):numsB s=true:=by
 simp [numsB,shtNums,limB,a0,a1,a2,a3,a4,a5,a6,a7,a8,a9,a10,a11,a12]
theorem through_no {s:Sht} (h1:(s.every==0)=false\/(s.at_==0)=false) (h:inB s.every 1 100000=false\/inB s.at_ 0 3000=false):throughB s=false:=by
 unfold throughB;rcases h1 with h1 | h1<;>rcases h with h | h<;>simp [h1,h,limB]
theorem through_yes {s:Sht} (h1:inB s.every 1 100000=true) (h2:inB s.at_ 0 3000=true):throughB s=true:=by
 unfold throughB;simp [h1,h2,limB]
theorem through_yes0 {s:Sht} (h1:(s.every==0)=true) (h2:(s.at_==0)=true):throughB s=true:=by
 unfold throughB;simp [h1,h2]
theorem coped_0 {s:Sht} (h0:s.cope=0):copedB s=(decide (s.tall=0) && decide (s.short=0) && decide (s.thick=0)):=by unfold copedB;rw [if_pos h0]
theorem coped_12 {s:Sht} (h0:¬ s.cope=0) (h:s.cope=1\/s.cope=2):copedB s= [(s.tall,1,1000),(s.short,0,0),(s.thick,1,1000)].all limB:=by unfold copedB;rw [if_neg h0,if_pos h]
theorem coped_3 {s:Sht} (h:s.cope=3):copedB s= [(s.tall,1,1000),(s.short,1,1000),(s.thick,1,1000)].all limB:=by unfold copedB;rw [if_neg (by omega),if_neg (by omega),if_pos h]
theorem coped_x {s:Sht} (h:3 < s.cope):copedB s=false:=by unfold copedB;rw [if_neg (by omega),if_neg (by omega),if_neg (by omega)]
theorem coped_0no {s:Sht} (h0:s.cope=0) (h:(s.tall !=0)=true\/(s.short !=0)=true\/(s.thick !=0)=true):copedB s=false:=by
 rw [coped_0 h0];rcases h with h | h | h
 ·have h:¬ s.tall=0:=by simpa using h
  rw [decide_eq_false h];rfl
 ·have h:¬ s.short=0:=by simpa using h
  rw [decide_eq_false h,Bool.and_false];rfl
 ·have h:¬ s.thick=0:=by simpa using h
  rw [decide_eq_false h,Bool.and_false]
theorem coped_0yes {s:Sht} (h0:s.cope=0) (h1:(s.tall !=0)=false) (h2:(s.short !=0)=false) (h3:(s.thick !=0)=false):copedB s=true:=by
 rw [coped_0 h0];have h1:s.tall=0:=by simpa using h1
 have h2:s.short=0:=by simpa using h2
 have h3:s.thick=0:=by simpa using h3
 rw [decide_eq_true h1,decide_eq_true h2,decide_eq_true h3];rfl
theorem lim3_yes {a b c:I3} (h1:limB a=true) (h2:limB b=true) (h3:limB c=true): [a,b,c].all limB=true:=by simp [h1,h2,h3]
theorem lim_00 {x:Int} (h:¬ x=0):limB (x,0,0)=false:=by
 cases e:limB (x,0,0)
 ·rfl
 ·have:=lim_iff.1 e;dsimp only at this;omega
theorem lim_01 {x:Int} (h:x=0):limB (x,0,0)=true:=lim_iff.2 (by dsimp only;omega)
theorem mP7_0 {P_:Prop} (h:P_:=by
 obtain ⟨n0,n1⟩:=inB_iff.1 H0.out;obtain ⟨n2,n3⟩:=inB_iff.1 H1.out;obtain ⟨n4,n5⟩:=inB_iff.1 H2.out;obtain ⟨n8,n9⟩:=inB_iff.1 H5.out;have AD:=ζ (nums_yes H0.out H1.out H2.out H3.out H4.out H5.out H6.out H7.out H8.out H9.out H10.out H11.out H12.out);have AF:=ζ (show ¬ 1<=widthI s s.height->sheetB s=false from fun h=>AA.out (.inr (.inr (.inr (.inr (.inr (.inl (by omega))))))));have AG:=ζ (fun h1 h7=>AC.out A0.out AN.out AD.out AI.out AJ.out h1 h7);clear AA AE AC
 as_aux_lemma=>
  go_upto_region 20 with fail
  go_wp2_with (refine wpList_ld (o:=⟨some 176,_,_,_,_,_⟩) rfl _ _ rfl _ _ rfl (cS s) _ (hC.out.range 0 rfl) Tryz.underlying94 rfl info_RSheet V AH.out ?_)
  refine(AO.out _ _ ⟨n2,n3⟩ ⟨by omega,n5⟩ ⟨by omega,n1⟩).mono ?_;rintro e w7 ⟨rfl,hb⟩;have hR:=ζ (hC.out.call hb);clear hb hC x0 x1 x2 x3 x4 x5 x6 x7 x8 x9 AQ AR AS AT AU AV AW AX AY AZ;generalize widthI s s.height=wi at*;by_cases hw1:1<=wi;rotate_left
  ·have HB:=ζ (AF.out (by omega));go_wp2;go_ret;exact⟨ret_bool HB.out.symm,hR.out.be⟩
  have AK:=ζ (AG.out hw1);have dw:decide (1<=wi)=true:=decide_eq_true hw1;clear AG AF;go_wp2_with (refine wpList_ldg (o:=⟨some 182,_,_,_,_,_⟩) rfl _ _ rfl _ _ rfl (cS s) _ (hR.out.range 0 rfl) Tryz.underlying94 rfl info_RSheet V AH.out ?_)
  refine(AP.out _ (hR.out.sx HS.out) (by omega) (heights_get AI.out) ⟨n4,n5⟩ n8).mono ?_;rintro e w8 ⟨a8,c8,rfl,hr8,hb⟩;have hT:=ζ (hR.out.call hb);clear hb hR hr8;have AL:=ζ (show ¬ (coursesL s.hs s.height s.least).length<=100->sheetB s=false from fun h=>sheetB_no (.inr (.inr (.inr (.inr (.inr (.inr h)))))));generalize (coursesL s.hs s.height s.least).length=N at*;by_cases AM:(N:Int)<=100
  ·have HB:=ζ (AK.out (by omega));go_wp2;go_ret;exact⟨ret_bool HB.out.symm,hT.out.be⟩
  ·have HB:=ζ (AL.out (by omega));have dN:decide ((N:Int)<=100)=false:=decide_eq_false AM;go_wp2;go_ret;exact⟨ret_bool HB.out.symm,hT.out.be⟩):P_:=h
theorem mP7_1 {P_:Prop} (h:P_:=by
 clear hk
 as_aux_lemma=>
  go_wp2;go_ret;exact⟨ret_bool HB.out.symm,hC.out.be⟩):P_:=h
theorem mP7_2 {P_:Prop} (h:P_:=by
 have AB:=ζ (coped_0no c0);have A1:=ζ (coped_0yes c0);have b0:(s.cope==0)=true:=beq_iff_eq.2 c0;have b1:(s.cope==3)=false:=beq_eq_false_iff_ne.2 (by omega);have b2:(s.cope !=0)=false:=by simp [c0]
 have b3:(s.cope !=3)=true:=by simp [c0]
 clear c0;cases d1:(s.tall !=0);rotate_left
 ·have HB:=ζ (AA.out (.inr (.inr (.inr (.inr (.inl (AB.out (.inl d1))))))))
  as_aux_lemma=>
   go_wp2;go_ret;exact⟨ret_bool HB.out.symm,hC.out.be⟩
 cases d2:(s.short !=0);rotate_left
 ·have HB:=ζ (AA.out (.inr (.inr (.inr (.inr (.inl (AB.out (.inr (.inl d2)))))))))
  as_aux_lemma=>
   go_wp2;go_ret;exact⟨ret_bool HB.out.symm,hC.out.be⟩
 cases d3:(s.thick !=0);rotate_left
 ·have HB:=ζ (AA.out (.inr (.inr (.inr (.inr (.inl (AB.out (.inr (.inr d3)))))))))
  as_aux_lemma=>
   go_wp2;go_ret;exact⟨ret_bool HB.out.symm,hC.out.be⟩
 have A2:=ζ (A1.out d1 d2 d3);clear AB A1;have AJ:=ζ (show copedB s=true from A2.out);exact mP7_0):P_:=h
theorem mP7_6 {P_:Prop} (h:P_:=by
 have HB:=ζ (AA.out (.inr (.inr (.inr (.inr (.inl (by rw [AB.out];exact all_no (x:=(s.thick,1,1000)) (by simp) hk)))))));exact mP7_1):P_:=h
theorem mP7_3 {P_:Prop} (h:P_:=by
 cases hk:inB s.thick 1 1000
 ·exact mP7_6
 have T2:=ζ hk;clear hk;cases d2:(s.short !=0);rotate_left
 ·have HB:=ζ (AA.out (.inr (.inr (.inr (.inr (.inl (by rw [AB.out];exact all_no (x:=(s.short,0,0)) (by simp) (lim_00 (by simpa using d2)))))))))
  as_aux_lemma=>
   go_wp2;go_ret;exact⟨ret_bool HB.out.symm,hC.out.be⟩
 have U2:=ζ (lim_01 (show s.short=0 by simpa using d2));have AJ:=ζ (show copedB s=true by rw [AB.out];exact lim3_yes T1.out U2.out T2.out);exact mP7_0):P_:=h
theorem mP7_4 {P_:Prop} (h:P_:=by
 have HB:=ζ (AA.out (.inr (.inr (.inr (.inr (.inl (by rw [AB.out];exact all_no (x:=(s.tall,1,1000)) (by simp) hk)))))));exact mP7_1):P_:=h
theorem mP7_5 {P_:Prop} (h:P_:=by
 cases hk:inB s.short 1 1000
 ·have HB:=ζ (AA.out (.inr (.inr (.inr (.inr (.inl (by rw [AB.out];exact all_no (x:=(s.short,1,1000)) (by simp) hk)))))));exact mP7_1
 have T3:=ζ hk;clear hk;have AJ:=ζ (show copedB s=true by rw [AB.out];exact lim3_yes T1.out T3.out T2.out);exact mP7_0):P_:=h
theorem validSheet_any (s:Sht) (hs:Sx 1 w s.ha s.hn s.hc (L1 s.hs)) (hm:s.name.size<=maxLen) (hcp:0<=s.cope):Calls Tryz.prog 24 #[aS s] w (Gives (.bool (sheetB s)) w):=by
 have hlen:=hs.n1;have hcap:=hs.cap;unfold maxLen at hcap;have HS:=ζ hs;have HM:=ζ hm;obtain ⟨V,hV⟩:∃V,aS s=V:=⟨_,rfl⟩
 have HV:=ζ (show V.cells=(cS s).toArray by rw [<-hV];rfl);have AH:=ζ (show Value.agg (cS s).toArray=V by rw [<-hV];rfl);have AO:=ζ (fun W z a b c=>(show Calls Tryz.prog 76 #[V,.int .i64 z] W (Gives (.int .i64 (widthI s z)) W)by rw [<-hV];exact rwidth_any W s z a b c));have AP:=ζ (fun W h a b c d=>(show Calls Tryz.prog 77 #[V] W (RetRow W 210 2 (coursesL s.hs s.height s.least).length (L2 (coursesL s.hs s.height s.least)))by rw [<-hV];exact rcourses_any W s h a b c d));have AA:=ζ (fun h=>sheetB_no (s:=s) h);have AE:=ζ (fun x hx h=>sheetB_no (s:=s) (.inr (.inr (.inl (all_no (x:=x) hx h)))));have AC:=ζ (fun a b c d e f g=>sheetB_yes (s:=s) a b c d e f g);rw [hV];clear hV hs hm;go_enter Tryz.func24,Tryz.ntmps24;go_upto_region 1 with (refine wpList_bx (o:=⟨some 1,_,_,_,_,_⟩) rfl (Sy.enter w) _ _ rfl (cS s).toArray HV.out ?_;intro b V2 h2;have hC:=ζ h2;clear h2)
 have x0:V2.cell? ⟨b,0,none⟩=some (.string s.name):=hC.out.c 0 0;have x1:V2.cell? ⟨b,1,none⟩=some (.int .i64 s.base):=hC.out.c 0 1;have x2:V2.cell? ⟨b,2,none⟩=some (.int .i64 s.batter):=hC.out.c 0 2;have x3:V2.cell? ⟨b,3,none⟩=some (.int .i64 s.height):=hC.out.c 0 3;have x4:V2.cell? ⟨b,4,none⟩=some (.int .i64 s.skin):=hC.out.c 0 4;have x5:V2.cell? ⟨b,5,none⟩=some (.slice s.ha s.hn s.hc):=hC.out.c 0 5;have x6:V2.cell? ⟨b,6,none⟩=some (.int .i64 s.least):=hC.out.c 0 6;have x7:V2.cell? ⟨b,7,none⟩=some (.int .i64 s.lap):=hC.out.c 0 7;have x8:V2.cell? ⟨b,8,none⟩=some (.int .i64 s.run):=hC.out.c 0 8;have x9:V2.cell? ⟨b,9,none⟩=some (.int .i64 s.every):=hC.out.c 0 9;have AQ:V2.cell? ⟨b,10,none⟩=some (.int .i64 s.at_):=hC.out.c 0 10;have AR:V2.cell? ⟨b,11,none⟩=some (.int .i64 s.footing):=hC.out.c 0 11;have AS:V2.cell? ⟨b,12,none⟩=some (.int .i64 s.spread):=hC.out.c 0 12;have AT:V2.cell? ⟨b,13,none⟩=some (.int .u8 s.cope):=hC.out.c 0 13;have AU:V2.cell? ⟨b,14,none⟩=some (.int .i64 s.tall):=hC.out.c 0 14;have AV:V2.cell? ⟨b,15,none⟩=some (.int .i64 s.short):=hC.out.c 0 15;have AW:V2.cell? ⟨b,16,none⟩=some (.int .i64 s.thick):=hC.out.c 0 16;have AX:V2.cell? ⟨b,17,none⟩=some (.int .i64 s.low):=hC.out.c 0 17;have AY:V2.cell? ⟨b,18,none⟩=some (.int .i64 s.high):=hC.out.c 0 18;have AZ:V2.cell? ⟨b,19,none⟩=some (.int .i64 s.rood):=hC.out.c 0 19;have hch:(s.hn:Int)=(s.hs.length:Int):=by omega
 clear hch;go_wp2_with fail
 refine(refNamed_any _ _ HM.out).mono ?_;rintro e V3 ⟨rfl,rfl⟩;cases hk:namedB s.name
 ·have HB:=ζ (AA.out (.inl hk));exact mP7_1
 have A0:=ζ hk;clear hk;go_wp2_with fail
 refine(in6_any _ _ _ _).mono ?_;rintro e V4 ⟨rfl,rfl⟩;cases hk:inB s.base 1 3000
 ·have HB:=ζ (AE.out (s.base,1,3000) (by simp [shtNums]) hk);exact mP7_1
 have H0:=ζ hk;clear hk;go_wp2_with fail
 refine(in6_any _ _ _ _).mono ?_;rintro e V5 ⟨rfl,rfl⟩;cases hk:inB s.batter 0 500
 ·have HB:=ζ (AE.out (s.batter,0,500) (by simp [shtNums]) hk);exact mP7_1
 have H1:=ζ hk;clear hk;go_wp2_with fail
 refine(in6_any _ _ _ _).mono ?_;rintro e V6 ⟨rfl,rfl⟩;cases hk:inB s.height 1 3000
 ·have HB:=ζ (AE.out (s.height,1,3000) (by simp [shtNums]) hk);exact mP7_1
 have H2:=ζ hk;clear hk;go_wp2_with fail
 refine(in6_any _ _ _ _).mono ?_;rintro e V7 ⟨rfl,rfl⟩;cases hk:inB s.skin 1 1500
 ·have HB:=ζ (AE.out (s.skin,1,1500) (by simp [shtNums]) hk);exact mP7_1
 have H3:=ζ hk;clear hk;go_wp2_with fail
 refine(in6_any _ _ _ _).mono ?_;rintro e V8 ⟨rfl,rfl⟩;cases hk:inB (s.hs.length:Int) 1 12
 ·have HB:=ζ (AE.out ((s.hn:Int),1,12) (by simp [shtNums]) (by rw [hlen];exact hk));exact mP7_1
 have H4:=ζ (show inB (s.hn:Int) 1 12=true by rw [hlen];exact hk);clear hk;have hlen0:1<=s.hs.length:=by have:=(inB_iff.1 H4.out).1;omega
 obtain ⟨g0,o0,e0⟩:=HS.out.addr (by omega);rw [e0]at x5;have A3:=ζ (show Sx 1 w (some ⟨g0,o0,none⟩) s.hn s.hc (L1 s.hs)by rw [<-e0];exact HS.out);clear e0;go_wp2;go_loop [3] (fun iv=>∃k:Nat,k<=s.hs.length/\iv= .int .i64 k/\Hid (∀i (h:i < s.hs.length),i < k->inB s.hs[i] 1 1000=true)) (fun iv=>s.hs.length - (intOf iv).toNat)
 case atStart=>exact⟨0,Nat.zero_le _,rfl,ζ (fun i _ h=>absurd h (Nat.not_lt_zero i))⟩
 case round=>
  obtain ⟨k,hk9,rfl,hI⟩:=hrel;by_cases hlt:k < s.hs.length
  ·have y0:=(hC.out.sx A3.out).at1 hlt;have A4:=ζ (fun h=>AA.out (.inr (.inr (.inr (.inl (heights_no hlt h))))));have A5:=ζ (show inB s.hs[k] 1 1000=true->∀i (h:i < s.hs.length),i < k+1->inB s.hs[i] 1 1000=true from fun hx i h hi=>by
    rcases Nat.lt_or_ge i k with h1 | h1
    ·exact hI.out i h h1
    ·have:i=k:=(by omega);subst this;exact hx)
   generalize s.hs[k]=h at*;go_wp2_with fail
   refine(in6_any _ _ _ _).mono ?_;rintro e V9 ⟨rfl,rfl⟩;cases hk:inB h 1 1000
   ·have HB:=ζ (A4.out hk);exact mP7_1
   have A6:=ζ (A5.out hk);clear hk;go_wp2;go_round
   case rel=>exact⟨k+1,by omega,by go_num,A6⟩
   case measure=>simp [intOf];omega
  ·have AI:=ζ (heights_yes (fun i h=>hI.out i h (by omega)));have hkk:¬ (k:Int) < (s.hs.length:Int):=(by omega);clear hI;go_wp2_with fail
   refine(in6_any _ _ _ _).mono ?_;rintro e V10 ⟨rfl,rfl⟩;cases hk:inB s.least 1 1000
   ·have HB:=ζ (AE.out (s.least,1,1000) (by simp [shtNums]) hk);exact mP7_1
   have H5:=ζ hk;clear hk;go_wp2_with fail
   refine(in6_any _ _ _ _).mono ?_;rintro e V11 ⟨rfl,rfl⟩;cases hk:inB s.lap 0 500
   ·have HB:=ζ (AE.out (s.lap,0,500) (by simp [shtNums]) hk);exact mP7_1
   have H6:=ζ hk;clear hk;go_wp2_with fail
   refine(in6_any _ _ _ _).mono ?_;rintro e V12 ⟨rfl,rfl⟩;cases hk:inB s.run 1 20
   ·have HB:=ζ (AE.out (s.run,1,20) (by simp [shtNums]) hk);exact mP7_1
   have H7:=ζ hk;clear hk;go_wp2_with fail
   refine(in6_any _ _ _ _).mono ?_;rintro e V13 ⟨rfl,rfl⟩;cases hk:inB s.footing 0 1000
   ·have HB:=ζ (AE.out (s.footing,0,1000) (by simp [shtNums]) hk);exact mP7_1
   have H8:=ζ hk;clear hk;go_wp2_with fail
   refine(in6_any _ _ _ _).mono ?_;rintro e V14 ⟨rfl,rfl⟩;cases hk:inB s.spread 0 1000
   ·have HB:=ζ (AE.out (s.spread,0,1000) (by simp [shtNums]) hk);exact mP7_1
   have H9:=ζ hk;clear hk;cases he:(s.every==0)
   ·have HE:=ζ he;go_wp2_with fail
    refine(in6_any _ _ _ _).mono ?_;rintro e V15 ⟨rfl,rfl⟩;cases hk:inB s.every 1 100000
    ·have HB:=ζ (AA.out (.inr (.inl (through_no (.inl HE.out) (.inl hk)))));exact mP7_1
    have E1:=ζ hk;clear hk;go_wp2_with fail
    refine(in6_any _ _ _ _).mono ?_;rintro e V16 ⟨rfl,rfl⟩;cases hk:inB s.at_ 0 3000
    ·have HB:=ζ (AA.out (.inr (.inl (through_no (.inl HE.out) (.inr hk)))));exact mP7_1
    have E2:=ζ hk;clear hk;have AN:=ζ (through_yes E1.out E2.out);go_wp2_with fail
    refine(in6_any _ _ _ _).mono ?_;rintro e V17 ⟨rfl,rfl⟩;cases hk:inB s.high 0 2000
    ·have HB:=ζ (AE.out (s.high,0,2000) (by simp [shtNums]) hk);exact mP7_1
    have H11:=ζ hk;clear hk;go_wp2_with fail
    refine(in6_any _ _ _ _).mono ?_;rintro e V18 ⟨rfl,rfl⟩;cases hk:inB s.low 0 s.high
    ·have HB:=ζ (AE.out (s.low,0,s.high) (by simp [shtNums]) hk);exact mP7_1
    have H10:=ζ hk;clear hk;go_wp2_with fail
    refine(in6_any _ _ _ _).mono ?_;rintro e V19 ⟨rfl,rfl⟩;cases hk:inB s.rood 1 100000
    ·have HB:=ζ (AE.out (s.rood,1,100000) (by simp [shtNums]) hk);exact mP7_1
    have H12:=ζ hk;clear hk;by_cases c4:3 < s.cope
    ·have HB:=ζ (AA.out (.inr (.inr (.inr (.inr (.inl (coped_x c4)))))))
     as_aux_lemma=>
      go_wp2;go_ret;exact⟨ret_bool HB.out.symm,hC.out.be⟩
    by_cases c0:s.cope=0
    ·exact mP7_2
    by_cases c3:s.cope=3
    ·have AB:=ζ (coped_3 c3);have b0:(s.cope==0)=false:=beq_eq_false_iff_ne.2 c0;have b1:(s.cope==3)=true:=beq_iff_eq.2 c3;have b2:(s.cope !=0)=true:=(by simp [c0]);have b3:(s.cope !=3)=false:=(by simp [c3]);clear c0 c3;go_wp2_with fail
     refine(in6_any _ _ _ _).mono ?_;rintro e V20 ⟨rfl,rfl⟩;cases hk:inB s.tall 1 1000
     ·exact mP7_4
     have T1:=ζ hk;clear hk;go_wp2_with fail
     refine(in6_any _ _ _ _).mono ?_;rintro e V21 ⟨rfl,rfl⟩;cases hk:inB s.thick 1 1000
     ·exact mP7_6
     have T2:=ζ hk;clear hk;go_wp2_with fail
     refine(in6_any _ _ _ _).mono ?_;rintro e V22 ⟨rfl,rfl⟩;exact mP7_5
    have c12:s.cope=1\/s.cope=2:=(by omega);have AB:=ζ (coped_12 c0 c12);have b0:(s.cope==0)=false:=beq_eq_false_iff_ne.2 c0;have b1:(s.cope==3)=false:=beq_eq_false_iff_ne.2 c3;have b2:(s.cope !=0)=true:=(by simp [c0]);have b3:(s.cope !=3)=true:=(by simp [c3]);clear c0 c3 c12;go_wp2_with fail
    refine(in6_any _ _ _ _).mono ?_;rintro e V23 ⟨rfl,rfl⟩;cases hk:inB s.tall 1 1000
    ·exact mP7_4
    have T1:=ζ hk;clear hk;go_wp2_with fail
    refine(in6_any _ _ _ _).mono ?_;rintro e V24 ⟨rfl,rfl⟩;exact mP7_3
   ·have HE:=ζ he;cases ha:(s.at_==0)
    ·have HB:=ζ (AA.out (.inr (.inl (through_no (.inr ha) (.inl (show inB s.every 1 100000=false by rw [beq_iff_eq.1 HE.out];rfl))))));have hk:inB s.every 1 100000=false:=(by rw [beq_iff_eq.1 HE.out];rfl);go_wp2_with fail
     refine(in6_any _ _ _ _).mono ?_;rintro e V25 ⟨rfl,rfl⟩;rw [hk];go_wp2;go_ret;exact⟨ret_bool HB.out.symm,hC.out.be⟩
    ·have AN:=ζ (through_yes0 HE.out ha);go_wp2_with fail
     refine(in6_any _ _ _ _).mono ?_;rintro e V26 ⟨rfl,rfl⟩;cases hk:inB s.high 0 2000
     ·have HB:=ζ (AE.out (s.high,0,2000) (by simp [shtNums]) hk);exact mP7_1
     have H11:=ζ hk;clear hk;go_wp2_with fail
     refine(in6_any _ _ _ _).mono ?_;rintro e V27 ⟨rfl,rfl⟩;cases hk:inB s.low 0 s.high
     ·have HB:=ζ (AE.out (s.low,0,s.high) (by simp [shtNums]) hk);exact mP7_1
     have H10:=ζ hk;clear hk;go_wp2_with fail
     refine(in6_any _ _ _ _).mono ?_;rintro e V28 ⟨rfl,rfl⟩;cases hk:inB s.rood 1 100000
     ·have HB:=ζ (AE.out (s.rood,1,100000) (by simp [shtNums]) hk);exact mP7_1
     have H12:=ζ hk;clear hk;by_cases c4:3 < s.cope
     ·have HB:=ζ (AA.out (.inr (.inr (.inr (.inr (.inl (coped_x c4)))))))
      as_aux_lemma=>
       go_wp2;go_ret;exact⟨ret_bool HB.out.symm,hC.out.be⟩
     by_cases c0:s.cope=0
     ·exact mP7_2
     by_cases c3:s.cope=3
     ·have AB:=ζ (coped_3 c3);have b0:(s.cope==0)=false:=beq_eq_false_iff_ne.2 c0;have b1:(s.cope==3)=true:=beq_iff_eq.2 c3;have b2:(s.cope !=0)=true:=(by simp [c0]);have b3:(s.cope !=3)=false:=(by simp [c3]);clear c0 c3;go_wp2_with fail
      refine(in6_any _ _ _ _).mono ?_;rintro e V29 ⟨rfl,rfl⟩;cases hk:inB s.tall 1 1000
      ·exact mP7_4
      have T1:=ζ hk;clear hk;go_wp2_with fail
      refine(in6_any _ _ _ _).mono ?_;rintro e V30 ⟨rfl,rfl⟩;cases hk:inB s.thick 1 1000
      ·exact mP7_6
      have T2:=ζ hk;clear hk;go_wp2_with fail
      refine(in6_any _ _ _ _).mono ?_;rintro e V31 ⟨rfl,rfl⟩;exact mP7_5
     have c12:s.cope=1\/s.cope=2:=(by omega);have AB:=ζ (coped_12 c0 c12);have b0:(s.cope==0)=false:=beq_eq_false_iff_ne.2 c0;have b1:(s.cope==3)=false:=beq_eq_false_iff_ne.2 c3;have b2:(s.cope !=0)=true:=(by simp [c0]);have b3:(s.cope !=3)=true:=(by simp [c3]);clear c0 c3 c12;go_wp2_with fail
     refine(in6_any _ _ _ _).mono ?_;rintro e V32 ⟨rfl,rfl⟩;cases hk:inB s.tall 1 1000
     ·exact mP7_4
     have T1:=ζ hk;clear hk;go_wp2_with fail
     refine(in6_any _ _ _ _).mono ?_;rintro e V33 ⟨rfl,rfl⟩;exact mP7_3
end
section
variable (w:World)
theorem mP17_0 {P_:Prop} (h:P_:=by
 rw [he]at HN HY;clear he;generalize l[k].name=t at*;cases ht:(t.toList==nm.toList)
 ·have HF:=ζ (HN.out ht);clear HN HY;go_wp2;go_round
  case rel=>exact⟨k+1,by omega,by go_num,HF⟩
  case measure=>simp [intOf];omega
 ·have HF:=ζ (HY.out ht);clear HN HY;go_wp2;go_ret;exact⟨ret_int HF.out.symm,hC.out.be⟩):P_:=h
theorem mP17_1 {P_:Prop} (h:P_:=by
 have hkk:¬ (k:Int) < (l.length:Int):=by omega
 have HF:=ζ (idxB_none (fun i h=>hI.out i h (by omega)));go_wp2;go_ret;exact⟨ret_int HF.out.symm,hC.out.be⟩):P_:=h
theorem refFindSheet_any (a:OA) (n c:Nat) (l:List Sht) (ot:Value) (nm:ByteArray) (hs:Sx 20 w a n c (LS l)):Calls Tryz.prog 25 #[.agg #[.slice a n c,ot],.string nm] w (Gives (.int .i64 (idxB (isS nm) l)) w):=by
 obtain rfl:=hs.nS;have hcap:=hs.cap;unfold maxLen at hcap;have HS:=ζ hs;clear hs;have hC:=ζ ((Sy.enter w).al w.heap.size #[.slice a l.length c,ot] 25 rfl);have x0:(w.alloc (.cells #[.slice a l.length c,ot] 25)).cell? ⟨w.heap.size,0,none⟩=some (.slice a l.length c):=hC.out.c 0 0;go_enter Tryz.func25,Tryz.ntmps25;go_upto_region 1 with fail
 generalize (w.alloc (.cells #[.slice a l.length c,ot] 25))=W1 at*;go_wp2;go_loop [5] (fun iv=>∃k:Nat,k<=l.length/\iv= .int .i64 k/\Hid (∀i (h:i < l.length),i < k->isS nm l[i]=false)) (fun iv=>l.length - (intOf iv).toNat)
 case atStart=>exact⟨0,Nat.zero_le _,rfl,ζ (fun i _ h=>absurd h (Nat.not_lt_zero i))⟩
 case round=>
  obtain ⟨k,hk,rfl,hI⟩:=hrel;by_cases hlt:k < l.length
  ·obtain ⟨g0,o0,rfl⟩:=HS.out.addr (by omega);obtain ⟨y0,-⟩:=(HS.out.below hC.out.be).atS hlt;have HN:=ζ (show isS nm l[k]=false->∀i (h:i < l.length),i < k+1->isS nm l[i]=false from fun hx i h hi=>by
    rcases Nat.lt_or_ge i k with h1 | h1
    ·exact hI.out i h h1
    ·have:i=k:=(by omega);subst this;exact hx)
   have HY:=ζ (show isS nm l[k]=true->idxB (isS nm) l=k from fun hx=>idxB_some hlt hx (fun i h hi=>hI.out i h hi));have i0:(0:Int)<=(k:Int):=(by omega);have i1:(k:Int) < (l.length:Int):=(by omega);clear hI;have he:isS nm l[k]=(l[k].name.toList==nm.toList):=rfl;exact mP17_0
  ·exact mP17_1
theorem refFindWall_any (a:OA) (n c:Nat) (l:List Wal) (ot:Value) (nm:ByteArray) (hs:Sx 4 w a n c (LWa l)):Calls Tryz.prog 5 #[.agg #[ot,.slice a n c],.string nm] w (Gives (.int .i64 (idxB (isW nm) l)) w):=by
 obtain rfl:=hs.nWa;have hcap:=hs.cap;unfold maxLen at hcap;have HS:=ζ hs;clear hs;have hC:=ζ ((Sy.enter w).al w.heap.size #[ot,.slice a l.length c] 25 rfl);have x0:(w.alloc (.cells #[ot,.slice a l.length c] 25)).cell? ⟨w.heap.size,1,none⟩=some (.slice a l.length c):=hC.out.c 0 1;go_enter Tryz.func5,Tryz.ntmps5;go_upto_region 1 with fail
 generalize (w.alloc (.cells #[ot,.slice a l.length c] 25))=W1 at*;go_wp2;go_loop [5] (fun iv=>∃k:Nat,k<=l.length/\iv= .int .i64 k/\Hid (∀i (h:i < l.length),i < k->isW nm l[i]=false)) (fun iv=>l.length - (intOf iv).toNat)
 case atStart=>exact⟨0,Nat.zero_le _,rfl,ζ (fun i _ h=>absurd h (Nat.not_lt_zero i))⟩
 case round=>
  obtain ⟨k,hk,rfl,hI⟩:=hrel;by_cases hlt:k < l.length
  ·obtain ⟨g0,o0,rfl⟩:=HS.out.addr (by omega);obtain ⟨y0,-⟩:=(HS.out.below hC.out.be).atWa hlt;have HN:=ζ (show isW nm l[k]=false->∀i (h:i < l.length),i < k+1->isW nm l[i]=false from fun hx i h hi=>by
    rcases Nat.lt_or_ge i k with h1 | h1
    ·exact hI.out i h h1
    ·have:i=k:=(by omega);subst this;exact hx)
   have HY:=ζ (show isW nm l[k]=true->idxB (isW nm) l=k from fun hx=>idxB_some hlt hx (fun i h hi=>hI.out i h hi));have i0:(0:Int)<=(k:Int):=(by omega);have i1:(k:Int) < (l.length:Int):=(by omega);clear hI;have he:isW nm l[k]=(l[k].name.toList==nm.toList):=rfl;exact mP17_0
  ·exact mP17_1
end
theorem fits_no {o:Opn} {len H:Int} (h:inB o.kind 1 4=false\/inB o.at_ 0 len=false\/inB o.wide 1 len=false\/len < o.at_+o.wide\/inB o.fro 0 H=false\/inB o.high 1 H=false\/H < o.fro+o.high\/(3<=o.kind/\¬ o.fro+o.high=H)\/(o.kind=4/\¬ o.fro=0)):fitsB o len H=false:=by
 cases e:fitsB o len H
 ·rfl
 ·exfalso;unfold fitsB at e;simp only [Bool.and_eq_true]at e;obtain ⟨⟨e1,e2⟩,e3⟩:=e;have hh:=List.all_eq_true.1 e1;have a0:=lim_iff.1 (hh _ (by simp [openNums]:(o.kind,1,4)∈openNums o len H));have a1:=lim_iff.1 (hh _ (by simp [openNums]:(o.wide,1,len)∈openNums o len H));have a2:=lim_iff.1 (hh _ (by simp [openNums]:(o.at_,0,len - o.wide)∈openNums o len H));have a3:=lim_iff.1 (hh _ (by simp [openNums]:(o.high,1,H)∈openNums o len H));have a4:=lim_iff.1 (hh _ (by simp [openNums]:(o.fro,0,H - o.high)∈openNums o len H));dsimp only at a0 a1 a2 a3 a4;have f:∀ {x lo hi:Int},inB x lo hi=false->¬ (lo<=x/\x<=hi):=fun hx hc=>by rw [inB_iff.2 hc]at hx;cases hx
  simp only [Bool.or_eq_true,Bool.not_eq_true',beq_eq_false_iff_ne,beq_iff_eq,Bool.and_eq_true]at e2 e3;rcases h with h | h | h | h | h | h | h | h | h
  ·exact f h a0
  ·exact f h (by omega)
  ·exact f h a1
  ·omega
  ·exact f h (by omega)
  ·exact f h a3
  ·omega
  ·rcases e2 with e2 | e2<;>rcases e3 with e3 | e3<;>omega
  ·rcases e3 with e3 | e3<;>omega
theorem fits_yes {o:Opn} {len H:Int} (h0:1<=len/\len<=100000) (h1:inB o.kind 1 4=true) (h3:inB o.at_ 0 len=true) (h4:inB o.wide 1 len=true) (h5:¬ len < o.at_+o.wide) (h6:inB o.fro 0 H=true) (h7:inB o.high 1 H=true) (h8:¬ H < o.fro+o.high)
  (h9:¬ (3<=o.kind/\¬ o.fro+o.high=H)) (h10:¬ (o.kind=4/\¬ o.fro=0)):fitsB o len H=true:=by
 rw [inB_iff]at h1 h3 h4 h6 h7;unfold fitsB openNums;simp only [Bool.and_eq_true,List.all_cons,List.all_nil,lim_iff,Bool.or_eq_true,Bool.not_eq_true',beq_eq_false_iff_ne,beq_iff_eq];refine⟨⟨⟨?_,?_,?_,?_,?_,?_,trivial⟩,?_⟩,?_⟩<;>omega
section
variable (w:World)
theorem mP18_1 {P_:Prop} (h:P_:=by
 go_wp2;go_roundw
 case rel=>exact⟨m+1,by omega,by go_num,ζ (AB.out HG.out),ζ (hE.out.thin (List.Sublist.cons_cons _ (List.Sublist.cons_cons _ (List.Sublist.cons_cons _ (List.nil_sublist _)))) (List.Sublist.refl _))⟩
 case measure=>simp [intOf];omega):P_:=h
theorem mP18_0 {P_:Prop} (h:P_:=by
 have AI:=ζ (fun h=>AD.out AH.out (AF.out h));clear AD AF AE HF
 as_aux_lemma=>
  go_wp2;go_loopw [7] (fun mv wr=>∃m:Nat,m<=k/\mv= .int .i64 m/\Hid (∀j (hj:j < ops.length),j < m->meetsO o ops[j]=false)/\Hid (Sy w wr [(bx,(cWa ⟨nm,sh,len,some ⟨g0,o0,none⟩,ops.length,oc,ops⟩).toArray,93),(bs,(cS s).toArray,94),(bo,#[.int .u8 o.kind,.int .i64 o.at_,.int .i64 o.wide,.int .i64 o.fro,.int .i64 o.high],163)] [] [])) (fun mv _=>k - (intOf mv).toNat)
  case atStart=>exact⟨0,Nat.zero_le _,rfl,ζ (fun j _ h=>absurd h (Nat.not_lt_zero j)),hD⟩
  case round=>
   clear hD x0 x1 x2 x3 x4 u2 u3 z3;obtain ⟨m,hm,rfl,HJ,hD⟩:=hrel;have x0:wr.cell? ⟨bo,0,none⟩=some (.int .u8 o.kind):=hD.out.c 2 0;have x1:wr.cell? ⟨bo,1,none⟩=some (.int .i64 o.at_):=hD.out.c 2 1;have x2:wr.cell? ⟨bo,2,none⟩=some (.int .i64 o.wide):=hD.out.c 2 2;have x3:wr.cell? ⟨bo,3,none⟩=some (.int .i64 o.fro):=hD.out.c 2 3;have x4:wr.cell? ⟨bo,4,none⟩=some (.int .i64 o.high):=hD.out.c 2 4;have u2:wr.cell? ⟨bx,2,none⟩=some (.int .i64 len):=hD.out.c 0 2;have u3:wr.cell? ⟨bx,3,none⟩=some (.slice (some ⟨g0,o0,none⟩) ops.length oc):=hD.out.c 0 3;have z3:wr.cell? ⟨bs,3,none⟩=some (.int .i64 s.height):=hD.out.c 1 3;by_cases hmk:m < k
   ·have hmo:m < ops.length:=(by omega);obtain ⟨y0,y1,y2,y3,y4⟩:=(HS.out.below hD.out.be).atO hmo;obtain ⟨⟨s0,s1⟩,⟨s2,s3⟩,⟨s4,s5⟩,s6,s7⟩:=AL.out m hmo hmk;have HT:=ζ (AM.out m hmo hmk);have AB:=ζ (show meetsO o ops[m]=false->∀j (hj:j < ops.length),j < m+1->meetsO o ops[j]=false from fun hx j hj hjm=>by
     rcases Nat.lt_or_ge j m with h | h
     ·exact HJ.out j hj h
     ·have:j=m:=(by omega);subst this;exact hx)
    have AA:=ζ (show meetsO o ops[m]=(decide (o.at_ < ops[m].at_+ops[m].wide) && decide (ops[m].at_ < o.at_+o.wide) && decide (o.fro < ops[m].fro+ops[m].high) && decide (ops[m].fro < o.fro+o.high))from rfl);have j0:(0:Int)<=(m:Int):=(by omega);have j1:(m:Int) < (ops.length:Int):=(by omega);have j2:(m:Int) < (k:Int):=(by omega);clear HJ;generalize meetsO o ops[m]=mo at*;generalize ops[m]=q at*;go_upto_region 15 with fail
    have AC:=ζ (hD.out.al wr.heap.size #[.int .u8 q.kind,.int .i64 q.at_,.int .i64 q.wide,.int .i64 q.fro,.int .i64 q.high] 163 rfl);obtain ⟨bq,hbq⟩:∃bq,wr.heap.size=bq:=⟨_,rfl⟩
    rw [hbq]at AC⊢;refine wp_geny AC.out ?_;intro W8 hc;have hE:=ζ hc;clear hc AC hbq hD y0 y1 y2 y3 y4 u2 u3 z3 x0 x1 x2 x3 x4;have x1:W8.cell? ⟨bo,1,none⟩=some (.int .i64 o.at_):=hE.out.c 2 1;have y1:W8.cell? ⟨bq,1,none⟩=some (.int .i64 q.at_):=hE.out.c 3 1;have x2:W8.cell? ⟨bo,2,none⟩=some (.int .i64 o.wide):=hE.out.c 2 2;have y2:W8.cell? ⟨bq,2,none⟩=some (.int .i64 q.wide):=hE.out.c 3 2;have x3:W8.cell? ⟨bo,3,none⟩=some (.int .i64 o.fro):=hE.out.c 2 3;have y3:W8.cell? ⟨bq,3,none⟩=some (.int .i64 q.fro):=hE.out.c 3 3;have x4:W8.cell? ⟨bo,4,none⟩=some (.int .i64 o.high):=hE.out.c 2 4;have y4:W8.cell? ⟨bq,4,none⟩=some (.int .i64 q.high):=hE.out.c 3 4;by_cases a0:o.at_+o.wide<=q.at_
    ·have HG:=ζ (show mo=false by rw [AA.out];rw [decide_eq_false (show ¬ q.at_ < o.at_+o.wide by omega)];simp);exact mP18_1
    have D0:=ζ (show decide (q.at_ < o.at_+o.wide)=true from decide_eq_true (by omega));have e0:decide (o.at_+o.wide<=q.at_)=false:=decide_eq_false a0;by_cases a1:q.at_+q.wide<=o.at_
    ·have HG:=ζ (show mo=false by rw [AA.out];rw [decide_eq_false (show ¬ o.at_ < q.at_+q.wide by omega)];simp);exact mP18_1
    have D1:=ζ (show decide (o.at_ < q.at_+q.wide)=true from decide_eq_true (by omega));have e1:decide (q.at_+q.wide<=o.at_)=false:=decide_eq_false a1;by_cases a2:o.fro+o.high<=q.fro
    ·have HG:=ζ (show mo=false by rw [AA.out];rw [decide_eq_false (show ¬ q.fro < o.fro+o.high by omega)];simp);exact mP18_1
    have D2:=ζ (show decide (q.fro < o.fro+o.high)=true from decide_eq_true (by omega));have e2:decide (o.fro+o.high<=q.fro)=false:=decide_eq_false a2;by_cases a3:q.fro+q.high<=o.fro
    ·have HG:=ζ (show mo=false by rw [AA.out];rw [decide_eq_false (show ¬ o.fro < q.fro+q.high by omega)];simp);exact mP18_1
    have D3:=ζ (show decide (o.fro < q.fro+q.high)=true from decide_eq_true (by omega));have e3:decide (q.fro+q.high<=o.fro)=false:=decide_eq_false a3;have HB:=ζ (HT.out (by rw [AA.out,D1.out,D0.out,D3.out,D2.out];rfl));go_wp2;go_ret;exact⟨ret_bool HB.out.symm,hE.out.be⟩
   ·have hmm:¬ (m:Int) < (k:Int):=(by omega);have HB:=ζ (AI.out (fun j hj h=>HJ.out j hj (by omega)));go_wp2;go_roundw
    case rel=>exact⟨k+1,by omega,by go_num,HB,ζ (hD.out.thin (List.Sublist.cons_cons _ (List.Sublist.cons_cons _ (List.nil_sublist _))) (List.Sublist.refl _))⟩
    case measure=>simp [intOf];omega):P_:=h
theorem refValidWall_any (x:Wal) (s:Sht) (hs:Sx 5 w x.oa x.on x.oc (LO x.ops)) (hm:x.name.size<=maxLen) (hk:∀o∈x.ops,0<=o.kind/\o.kind<=255) (hH:1<=s.height/\s.height<=3000):
  Calls Tryz.prog 26 #[aW x,aS s] w (Gives (.bool (wallB x s)) w):=by
 obtain ⟨nm,sh,len,oa,on,oc,ops⟩:=x;dsimp only at hs hm hk;obtain rfl:=hs.nO;have hcap:=hs.cap;unfold maxLen at hcap;have HS:=ζ hs;have HM:=ζ hm;have HK:=ζ hk;obtain ⟨V,hV⟩:∃V,aS s=V:=⟨_,rfl⟩
 have HV:=ζ (show V.cells=(cS s).toArray by rw [<-hV];rfl);obtain ⟨U,hU⟩:∃U,aW ⟨nm,sh,len,oa,ops.length,oc,ops⟩=U:=⟨_,rfl⟩
 have HU:=ζ (show U.cells=(cWa ⟨nm,sh,len,oa,ops.length,oc,ops⟩).toArray by rw [<-hU];rfl);have AJ:=ζ (fun h=>wallB_no (x:=⟨nm,sh,len,oa,ops.length,oc,ops⟩) (s:=s) h);have AK:=ζ (fun y hy h=>wallB_no (x:=⟨nm,sh,len,oa,ops.length,oc,ops⟩) (s:=s) (.inr (.inl (all_no (x:=y) hy h))));have AG:=ζ (fun a b c=>wallB_yes (x:=⟨nm,sh,len,oa,ops.length,oc,ops⟩) (s:=s) a b c);rw [hV,hU];obtain ⟨AS,AT⟩:=hH;clear hV hU hs hm hk;generalize wallB ⟨nm,sh,len,oa,ops.length,oc,ops⟩ s=R at*;go_enter Tryz.func26,Tryz.ntmps26;go_upto_region 1 with (first | (refine wpList_bx (o:=⟨some 2,_,_,_,_,_⟩) rfl (Sy.enter w) _ _ rfl (cWa ⟨nm,sh,len,oa,ops.length,oc,ops⟩).toArray HU.out ?_;intro bx V1 h1;have AO:=ζ h1;clear h1) | (refine wpList_bx (o:=⟨some 3,_,_,_,_,_⟩) rfl AO.out _ _ rfl (cS s).toArray HV.out ?_;intro bs V2 h2;have hC:=ζ h2;clear h2 AO) | fail)
 have x0:V2.cell? ⟨bx,0,none⟩=some (.string nm):=hC.out.c 0 0;have x2:V2.cell? ⟨bx,2,none⟩=some (.int .i64 len):=hC.out.c 0 2;have x3:V2.cell? ⟨bx,3,none⟩=some (.slice oa ops.length oc):=hC.out.c 0 3;go_wp2_with fail
 refine(refNamed_any _ _ HM.out).mono ?_;rintro e V3 ⟨rfl,rfl⟩;cases hna:namedB nm
 ·have HB:=ζ (AJ.out (.inl hna));clear hna
  as_aux_lemma=>
   go_wp2;go_ret;exact⟨ret_bool HB.out.symm,hC.out.be⟩
 have AQ:=ζ hna;clear hna;go_wp2_with fail
 refine(in6_any _ _ _ _).mono ?_;rintro e V4 ⟨rfl,rfl⟩;cases hl:inB len 1 100000
 ·have HB:=ζ (AK.out (len,1,100000) (by simp) hl);clear hl
  as_aux_lemma=>
   go_wp2;go_ret;exact⟨ret_bool HB.out.symm,hC.out.be⟩
 have AR:=ζ hl;obtain ⟨hl1,hl2⟩:=inB_iff.1 hl;clear hl;by_cases h20:(ops.length:Int) > 20
 ·have HB:=ζ (AK.out ((ops.length:Int),0,20) (by simp) (by
   cases e:limB ((ops.length:Int),0,20)
   ·rfl
   ·have:=lim_iff.1 e;dsimp only at this;omega))
  as_aux_lemma=>
   go_wp2;go_ret;exact⟨ret_bool HB.out.symm,hC.out.be⟩
 have d20:decide ((ops.length:Int) > 20)=false:=decide_eq_false h20;have HY:=ζ (fun c=>AG.out AQ.out (by
  refine List.all_eq_true.2 fun y hy=>?_;simp only [List.mem_cons,List.not_mem_nil,or_false]at hy;rcases hy with rfl | rfl
  ·exact AR.out
  ·exact lim_iff.2 (by dsimp only;omega)) c)
 clear AG AK;go_wp2;go_loopw [5] (fun iv wr=>∃k:Nat,k<=ops.length/\iv= .int .i64 k/\Hid (∀i (hi:i < ops.length),i < k->fitsB ops[i] len s.height=true/\(ops.take i).any (meetsO ops[i])=false)/\Hid (Sy w wr [(bx,(cWa ⟨nm,sh,len,oa,ops.length,oc,ops⟩).toArray,93),(bs,(cS s).toArray,94)] [] [])) (fun iv _=>ops.length - (intOf iv).toNat)
 case atStart=>exact⟨0,Nat.zero_le _,rfl,ζ (fun i _ h=>absurd h (Nat.not_lt_zero i)),hC⟩
 case round=>
  clear hC x0 x2 x3;obtain ⟨k,hk,rfl,HI,hC⟩:=hrel;have x3:wr.cell? ⟨bx,3,none⟩=some (.slice oa ops.length oc):=hC.out.c 0 3;by_cases hlt:k < ops.length
  ·obtain ⟨g0,o0,rfl⟩:=HS.out.addr (by omega);have HN:=ζ (fun h=>AJ.out (.inr (.inr (opens_no hlt h))));have AD:=ζ (show fitsB ops[k] len s.height=true->(ops.take k).any (meetsO ops[k])=false->∀i (hi:i < ops.length),i < k+1->fitsB ops[i] len s.height=true/\(ops.take i).any (meetsO ops[i])=false from fun h1 h2 i hi hik=>by
    rcases Nat.lt_or_ge i k with h | h
    ·exact HI.out i hi h
    ·have:i=k:=(by omega);subst this;exact⟨h1,h2⟩)
   have AL:=ζ (show ∀j (hj:j < ops.length),j < k->smallO ops[j]from fun j hj hjk=>fits_small (HI.out j hj hjk).1 hl2 (by omega));have AP:=HK.out ops[k] (List.getElem_mem hlt);obtain ⟨y0,y1,y2,y3,y4⟩:=(HS.out.below hC.out.be).atO hlt;clear HI AJ;obtain ⟨o,ho⟩:∃o,ops[k]=o:=⟨_,rfl⟩
   rw [ho]at HN AD AP y0 y1 y2 y3 y4;clear ho;obtain ⟨k0,k1⟩:=AP;have HF:=ζ (fun h=>HN.out (.inl (fits_no (o:=o) (len:=len) (H:=s.height) h)));have AE:=ζ (fun a b c d e f g h i=>fits_yes (o:=o) (len:=len) (H:=s.height) ⟨hl1,hl2⟩ a b c d e f g h i);have AM:=ζ (show ∀j (hj:j < ops.length),j < k->meetsO o ops[j]=true->R=false from fun j hj hjk h=>HN.out (.inr (List.any_eq_true.2 ⟨ops[j],List.mem_take_iff_getElem.2 ⟨j,by omega,rfl⟩,h⟩)));have AF:=ζ (show(∀j (hj:j < ops.length),j < k->meetsO o ops[j]=false)->(ops.take k).any (meetsO o)=false from fun h=>List.any_eq_false.2 fun q hq=>by
    obtain ⟨j,hj,rfl⟩:=List.mem_take_iff_getElem.1 hq;rw [h j (by omega) (by omega)];simp)
   have i0:(0:Int)<=(k:Int):=(by omega);have i1:(k:Int) < (ops.length:Int):=(by omega);clear HN;go_upto_region 7 with fail
   have AN:=ζ (hC.out.al wr.heap.size #[.int .u8 o.kind,.int .i64 o.at_,.int .i64 o.wide,.int .i64 o.fro,.int .i64 o.high] 163 rfl);obtain ⟨bo,hbo⟩:∃bo,wr.heap.size=bo:=⟨_,rfl⟩
   rw [hbo]at AN⊢;refine wp_geny AN.out ?_;intro W6 hc;have hD:Hid (Sy w W6 [(bx,(cWa ⟨nm,sh,len,some ⟨g0,o0,none⟩,ops.length,oc,ops⟩).toArray,93),(bs,(cS s).toArray,94),(bo,#[.int .u8 o.kind,.int .i64 o.at_,.int .i64 o.wide,.int .i64 o.fro,.int .i64 o.high],163)] [] []):=ζ hc;clear hc AN hbo hC x3 y0 y1 y2 y3 y4;have x0:W6.cell? ⟨bo,0,none⟩=some (.int .u8 o.kind):=hD.out.c 2 0;have x1:W6.cell? ⟨bo,1,none⟩=some (.int .i64 o.at_):=hD.out.c 2 1;have x2:W6.cell? ⟨bo,2,none⟩=some (.int .i64 o.wide):=hD.out.c 2 2;have x3:W6.cell? ⟨bo,3,none⟩=some (.int .i64 o.fro):=hD.out.c 2 3;have x4:W6.cell? ⟨bo,4,none⟩=some (.int .i64 o.high):=hD.out.c 2 4;have u2:W6.cell? ⟨bx,2,none⟩=some (.int .i64 len):=hD.out.c 0 2;have u3:W6.cell? ⟨bx,3,none⟩=some (.slice (some ⟨g0,o0,none⟩) ops.length oc):=hD.out.c 0 3;have z3:W6.cell? ⟨bs,3,none⟩=some (.int .i64 s.height):=hD.out.c 1 3;go_wp2_with fail
   refine(in6_any _ _ _ _).mono ?_;rintro e V11 ⟨rfl,rfl⟩;cases hk:inB o.kind 1 4
   ·have HB:=ζ (HF.out (.inl hk))
    as_aux_lemma=>
     go_wp2;go_ret;exact⟨ret_bool HB.out.symm,hD.out.be⟩
   have F0:=ζ hk;clear hk;go_wp2_with fail
   refine(in6_any _ _ _ _).mono ?_;rintro e V12 ⟨rfl,rfl⟩;cases hk:inB o.at_ 0 len
   ·have HB:=ζ (HF.out (.inr (.inl hk)))
    as_aux_lemma=>
     go_wp2;go_ret;exact⟨ret_bool HB.out.symm,hD.out.be⟩
   have F1:=ζ hk;clear hk;go_wp2_with fail
   refine(in6_any _ _ _ _).mono ?_;rintro e V13 ⟨rfl,rfl⟩;cases hk:inB o.wide 1 len
   ·have HB:=ζ (HF.out (.inr (.inr (.inl hk))))
    as_aux_lemma=>
     go_wp2;go_ret;exact⟨ret_bool HB.out.symm,hD.out.be⟩
   have F2:=ζ hk;clear hk;obtain ⟨q0,q1⟩:=inB_iff.1 F1.out;obtain ⟨q2,q3⟩:=inB_iff.1 F2.out;by_cases hk:o.at_+o.wide > len
   ·have HB:=ζ (HF.out (.inr (.inr (.inr (.inl hk)))))
    as_aux_lemma=>
     go_wp2;go_ret;exact⟨ret_bool HB.out.symm,hD.out.be⟩
   have F3:=ζ (show ¬ len < o.at_+o.wide from hk);have dF3:decide (o.at_+o.wide > len)=false:=decide_eq_false hk;clear hk;go_wp2_with fail
   refine(in6_any _ _ _ _).mono ?_;rintro e V14 ⟨rfl,rfl⟩;cases hk:inB o.fro 0 s.height
   ·have HB:=ζ (HF.out (.inr (.inr (.inr (.inr (.inl hk))))))
    as_aux_lemma=>
     go_wp2;go_ret;exact⟨ret_bool HB.out.symm,hD.out.be⟩
   have F4:=ζ hk;clear hk;go_wp2_with fail
   refine(in6_any _ _ _ _).mono ?_;rintro e V15 ⟨rfl,rfl⟩;cases hk:inB o.high 1 s.height
   ·have HB:=ζ (HF.out (.inr (.inr (.inr (.inr (.inr (.inl hk)))))))
    as_aux_lemma=>
     go_wp2;go_ret;exact⟨ret_bool HB.out.symm,hD.out.be⟩
   have F5:=ζ hk;clear hk;obtain ⟨q4,q5⟩:=inB_iff.1 F4.out;obtain ⟨q6,q7⟩:=inB_iff.1 F5.out;by_cases hk:o.fro+o.high > s.height
   ·have HB:=ζ (HF.out (.inr (.inr (.inr (.inr (.inr (.inr (.inl hk))))))))
    as_aux_lemma=>
     go_wp2;go_ret;exact⟨ret_bool HB.out.symm,hD.out.be⟩
   have F6:=ζ (show ¬ s.height < o.fro+o.high from hk);have dF6:decide (o.fro+o.high > s.height)=false:=decide_eq_false hk;clear hk;by_cases k3:3<=o.kind;rotate_left
   ·have dk:decide (o.kind≥3)=false:=decide_eq_false k3;have b4:(o.kind==4)=false:=beq_eq_false_iff_ne.2 (by omega);have K3:=ζ k3;clear k3;have AH:=ζ (AE.out F0.out F1.out F2.out (by have:=F3.out;omega) F4.out F5.out (by have:=F6.out;omega) (fun h=>K3.out h.1) (fun h=>K3.out (by omega)));exact mP18_0
   have dk:decide (o.kind≥3)=true:=decide_eq_true k3;cases ct:(o.fro+o.high !=s.height);rotate_left
   ·have HB:=ζ (HF.out (.inr (.inr (.inr (.inr (.inr (.inr (.inr (.inl ⟨k3,by simpa using ct⟩)))))))))
    as_aux_lemma=>
     go_wp2;go_ret;exact⟨ret_bool HB.out.symm,hD.out.be⟩
   have CT:=ζ (show o.fro+o.high=s.height by simpa using ct);cases b4:(o.kind==4)
   ·have K4:=ζ (show ¬ o.kind=4 from beq_eq_false_iff_ne.1 b4);have AH:=ζ (AE.out F0.out F1.out F2.out (by have:=F3.out;omega) F4.out F5.out (by have:=F6.out;omega) (fun h=>h.2 CT.out) (fun h=>K4.out h.1));exact mP18_0
   ·cases cf:(o.fro !=0);rotate_left
    ·have HB:=ζ (HF.out (.inr (.inr (.inr (.inr (.inr (.inr (.inr (.inr (⟨beq_iff_eq.1 b4,by simpa using cf⟩))))))))))
     as_aux_lemma=>
      go_wp2;go_ret;exact⟨ret_bool HB.out.symm,hD.out.be⟩
    have CF:=ζ (show o.fro=0 by simpa using cf);have AH:=ζ (AE.out F0.out F1.out F2.out (by have:=F3.out;omega) F4.out F5.out (by have:=F6.out;omega) (fun h=>h.2 CT.out) (fun h=>h.2 CF.out));exact mP18_0
  ·have hkk:¬ (k:Int) < (ops.length:Int):=(by omega);have HB:=ζ (HY.out (opens_yes (fun i hi=>HI.out i hi (by omega))));go_wp2;go_ret;exact⟨ret_bool HB.out.symm,hC.out.be⟩
end
structure Shts (W:World) (a:Option Addr) (n c:Nat) (l:List Sht):Prop where
 row:Sx 20 W a n c (LS l)
 hts:∀s∈l,Sx 1 W s.ha s.hn s.hc (L1 s.hs)
 nam:∀s∈l,s.name.size<=maxLen
 cop:∀s∈l,0<=s.cope
structure Wals (W:World) (a:Option Addr) (n c:Nat) (l:List Wal):Prop where
 row:Sx 4 W a n c (LWa l)
 opn:∀x∈l,Sx 5 W x.oa x.on x.oc (LO x.ops)
 nam:∀x∈l,x.name.size<=maxLen/\x.sheet.size<=maxLen
 knd:∀x∈l,∀o∈x.ops,0<=o.kind/\o.kind<=255
theorem Shts.below {W V:World} {a:Option Addr} {n c:Nat} {l:List Sht} (h:Shts W a n c l) (hb:Below W.heap.size W V):Shts V a n c l:=⟨h.row.below hb,fun s hs=>(h.hts s hs).below hb,h.nam,h.cop⟩
theorem Wals.below {W V:World} {a:Option Addr} {n c:Nat} {l:List Wal} (h:Wals W a n c l) (hb:Below W.heap.size W V):Wals V a n c l:=⟨h.row.below hb,fun s hs=>(h.opn s hs).below hb,h.nam,h.knd⟩
def okSheet (S:List Sht) (i:Nat):Bool:=match S[i]? with
 | some s=> !(S.take i).any (isS s.name) && sheetB s
 | none=>true
def okWall (S:List Sht) (L:List Wal) (i:Nat):Bool:=match L[i]? with
 | some x=>(match S.find? (isS x.sheet)with
   | some s=> !decide (idxB (isW x.name) L < (i:Int)) && wallB x s
   | none=>false)
 | none=>true
def planB (S:List Sht) (L:List Wal):Bool:=decide (S.length<=20) && decide (L.length<=50) && (List.range S.length).all (okSheet S) && (List.range L.length).all (okWall S L)
theorem okSheet_at {S:List Sht} {i:Nat} (h:i < S.length):okSheet S i=(!(S.take i).any (isS S[i].name) && sheetB S[i]):=by unfold okSheet;rw [List.getElem?_eq_getElem h]
theorem okWall_at {S:List Sht} {L:List Wal} {i:Nat} (h:i < L.length):okWall S L i=(match S.find? (isS L[i].sheet)with
  | some s=> !decide (idxB (isW L[i].name) L < (i:Int)) && wallB L[i] s
  | none=>false):=by unfold okWall;rw [List.getElem?_eq_getElem h]
theorem planB_len {S:List Sht} {L:List Wal} (h:¬ S.length<=20\/¬ L.length<=50):planB S L=false:=by
 unfold planB;rcases h with h | h
 ·rw [decide_eq_false h];rfl
 ·rw [decide_eq_false h];simp
theorem planB_s {S:List Sht} {L:List Wal} {i:Nat} (hi:i < S.length) (h:okSheet S i=false):planB S L=false:=by
 have:(List.range S.length).all (okSheet S)=false:=by
  cases e:(List.range S.length).all (okSheet S)
  ·rfl
  ·rw [List.all_eq_true.1 e i (List.mem_range.2 hi)]at h;cases h
 unfold planB;rw [this];simp
theorem planB_w {S:List Sht} {L:List Wal} {i:Nat} (hi:i < L.length) (h:okWall S L i=false):planB S L=false:=by
 have:(List.range L.length).all (okWall S L)=false:=by
  cases e:(List.range L.length).all (okWall S L)
  ·rfl
  ·rw [List.all_eq_true.1 e i (List.mem_range.2 hi)]at h;cases h
 unfold planB;rw [this];simp
theorem planB_yes {S:List Sht} {L:List Wal} (h1:S.length<=20) (h2:L.length<=50) (h3:∀i,i < S.length->okSheet S i=true) (h4:∀i,i < L.length->okWall S L i=true):planB S L=true:=by
 unfold planB;rw [decide_eq_true h1,decide_eq_true h2,List.all_eq_true.2 fun i hi=>h3 i (List.mem_range.1 hi),List.all_eq_true.2 fun i hi=>h4 i (List.mem_range.1 hi)];rfl
theorem planB_iff {S:List Sht} {L:List Wal} :planB S L=true↔S.length<=20/\L.length<=50/\(∀i,i < S.length->okSheet S i=true)/\∀i,i < L.length->okWall S L i=true:=by
 constructor
 ·intro h;unfold planB at h;simp only [Bool.and_eq_true,decide_eq_true_eq,List.all_eq_true,List.mem_range]at h;exact⟨h.1.1.1,h.1.1.2,h.1.2,h.2⟩
 ·rintro ⟨a,b,c,d⟩;exact planB_yes a b c d
theorem theS_2 (nm:ByteArray) (l:List Sht):(theS nm l).2=l.any (isS nm):=by
 unfold theS;cases h:l.find? (isS nm)with
 | none=>
   rw [List.find?_eq_none]at h;exact(List.any_eq_false.2 h).symm
 | some s=>exact(List.any_eq_true.2 ⟨s,List.mem_of_find?_eq_some h,List.find?_some h⟩).symm
theorem theS_len (nm:ByteArray) (l:List Sht):(theS nm l).1.length=20:=by
 unfold theS;cases l.find? (isS nm)<;>rfl
theorem theS_one (nm:ByteArray) (l:List Sht):(theS nm l).1.toArray.all (·.oneCell')=true:=by
 unfold theS;cases l.find? (isS nm)
 ·exact zC_one
 ·exact cS_one _
theorem theS_some {nm:ByteArray} {l:List Sht} {s:Sht} (h:l.find? (isS nm)=some s):theS nm l=(cS s,true):=by unfold theS;rw [h]
theorem theS_none {nm:ByteArray} {l:List Sht} (h:l.find? (isS nm)=none):theS nm l=(zC,false):=by unfold theS;rw [h]
section
variable (w:World)
theorem mP12_0 {P_:Prop} (h:P_:=by
 intro A1 AJ AR;clear AB Kq AI AN;try simp only [zP]
 refine wpAnyH_done (by kernel_rfl) ?_ _;clear AF AP AU AV;have hE:=ζ (AJ.out.thin (bs':=[(bp,#[.slice (some ⟨g0,o0,none⟩) S.length sc,.slice wa L.length wc],32),(b4,(cS s).toArray,39)]) (List.Sublist.cons_cons _ (List.Sublist.cons_cons _ (List.nil_sublist _))) (List.Sublist.refl _));clear AJ;cases tw;rotate_left
 ·have HB:=ζ (AO.out (by rw [AK.out];rfl));go_wp2;go_ret;exact⟨ret_int HB.out.symm,hE.out.be⟩
 go_upto_region 7 with fail
 go_wp2_with (refine wpList_ldg (o:=⟨some 42,_,_,_,_,_⟩) rfl _ _ rfl _ _ rfl (cS s) _ (hE.out.range 1 rfl) Tryz.underlying39 rfl info_Sheet V HV.out ?_)
 refine(AX.out _ hE.out.be).mono ?_;rintro e w7 ⟨rfl,hb⟩;have hF:=ζ (hE.out.call hb);clear hb hE;cases hsb:sheetB s
 ·have HB:=ζ (AO.out (by rw [AK.out,hsb];rfl));rw [show errB false=2 from rfl];go_wp2;go_ret;exact⟨ret_int HB.out.symm,hF.out.be⟩
 have HB:=ζ (AQ.out (by rw [AK.out,hsb];rfl));rw [show errB true=0 from rfl];go_wp2;go_roundw
 case rel=>exact⟨k+1,by omega,by go_num,HB,ζ (hF.out.thin (List.Sublist.cons_cons _ (List.nil_sublist _)) (List.Sublist.refl _))⟩
 case measure=>simp [intOf];omega):P_:=h
theorem pcheck_any (sa wa:OA) (sn sc wn wc:Nat) (S:List Sht) (L:List Wal) (hS:Shts w sa sn sc S) (hL:Wals w wa wn wc L):
  Calls Tryz.prog 80 #[.agg #[.slice sa sn sc,.slice wa wn wc]] w (Gives (.int .i64 (errB (planB S L))) w):=by
 obtain rfl:=hS.row.nS;obtain rfl:=hL.row.nWa;have hcs:=hS.row.cap;have hcw:=hL.row.cap;unfold maxLen at hcs hcw;have HS:=ζ hS;have HL:=ζ hL;clear hS hL;by_cases hlen:S.length<=20/\L.length<=50;rotate_left
 ·have HB:=ζ (errB_no (planB_len (S:=S) (L:=L) (by omega)));have hC:=ζ ((Sy.enter w).al w.heap.size #[.slice sa S.length sc,.slice wa L.length wc] 32 rfl);by_cases h1:(S.length:Int) > 20
  ·clear hlen;go_enter Tryz.func80,Tryz.ntmps80;go_wp2;go_ret;exact⟨ret_int HB.out.symm,hC.out.be⟩
  ·have h2:(L.length:Int) > 50:=(by omega);have d1:decide ((S.length:Int) > 20)=false:=decide_eq_false h1;clear hlen;go_enter Tryz.func80,Tryz.ntmps80;go_wp2;go_ret;exact⟨ret_int HB.out.symm,hC.out.be⟩
 obtain ⟨hl1,hl2⟩:=hlen;have A5:=ζ ((Sy.enter w).al w.heap.size #[.slice sa S.length sc,.slice wa L.length wc] 32 rfl);have d1:¬ (S.length:Int) > 20:=by omega
 have d2:¬ (L.length:Int) > 50:=by omega
 have A6:=ζ (fun i hi h=>errB_no (planB_s (S:=S) (L:=L) (i:=i) hi h));have Ag:=ζ (fun i hi h=>errB_no (planB_w (S:=S) (L:=L) (i:=i) hi h));have Aj:=ζ (fun h3 h4=>errB_yes (planB_yes (S:=S) (L:=L) hl1 hl2 h3 h4));generalize errB (planB S L)=R at*;obtain ⟨bp,hbp⟩:∃bp,w.heap.size=bp:=⟨_,rfl⟩
 have A7:Hid (Sy w (w.alloc (.cells #[.slice sa S.length sc,.slice wa L.length wc] 32)) [(bp,#[.slice sa S.length sc,.slice wa L.length wc],32)] [] []):=ζ (by rw [<-hbp];exact A5.out);clear A5;go_enter Tryz.func80,Tryz.ntmps80;go_upto_region 3 with fail
 clear hbp;refine wp_geny A7.out ?_;intro W1 hc;have hC:=ζ hc;clear hc A7;have x0:W1.cell? ⟨bp,0,none⟩=some (.slice sa S.length sc):=hC.out.c 0 0;go_wp2;go_loopw [24] (fun iv wr=>∃k:Nat,k<=S.length/\iv= .int .i64 k/\Hid (∀i,i < k->okSheet S i=true)/\Hid (Sy w wr [(bp,#[.slice sa S.length sc,.slice wa L.length wc],32)] [] [])) (fun iv _=>S.length - (intOf iv).toNat)
 case atStart=>exact⟨0,Nat.zero_le _,rfl,ζ (fun i h=>absurd h (Nat.not_lt_zero i)),hC⟩
 case round=>
  clear hC x0;obtain ⟨k,hk,rfl,HI,hC⟩:=hrel;by_cases hlt:k < S.length
  ·obtain ⟨g0,o0,rfl⟩:=HS.out.row.addr (by omega);have AK:=ζ (okSheet_at hlt);have HR:=ζ (fun W (hW:Below w.heap.size w W)=>(HS.out.row.below hW).range (f:=cS) (fun _=>rfl) hlt);have AX:=ζ (fun W (hW:Below w.heap.size w W)=>checkSheet_any W S[k] ((HS.out.hts _ (List.getElem_mem hlt)).below hW) (HS.out.nam _ (List.getElem_mem hlt)));have A8:=ζ (fun W (hW:Below w.heap.size w W)=>(show Sx 20 W (some ⟨g0,o0,none⟩) k sc (LS (S.take k))by
    have h:=(HS.out.row.below hW).take (show k<=S.length by omega);rwa [LS_take]at h))
   have AO:=ζ (A6.out k hlt);have AQ:=ζ (show okSheet S k=true->∀i,i < k+1->okSheet S i=true from fun h i hi=>by
    rcases Nat.lt_or_ge i k with h1 | h1
    ·exact HI.out i h1
    ·have:i=k:=(by omega);subst this;exact h)
   have hrow:=HR.out wr hC.out.be;have i0:(0:Int)<=(k:Int):=(by omega);have i1:(k:Int) < (S.length:Int):=(by omega);have i2:k<=sc:=(by omega);clear HI;generalize okSheet S k=ok at*;generalize S[k]=s at*;have AF:=ζ (fun W hW=>psheet_any W (some ⟨g0,o0,none⟩) k sc (S.take k) (.slice none 0 0) s.name (A8.out W hW));unfold RetTheS at AF;rw [theS_2]at AF;obtain ⟨X,hX⟩:∃X,(theS s.name (S.take k)).1=X:=⟨_,rfl⟩
   have AP:=ζ (show X.toArray.size=20 by rw [<-hX];exact theS_len _ _);have AU:=ζ (show X.toArray.all (·.oneCell')=true by rw [<-hX];exact theS_one _ _);rw [hX]at AF;clear hX A8;obtain ⟨XV,hXV⟩:∃XV,Value.agg X.toArray=XV:=⟨_,rfl⟩
   have AV:=ζ hXV;rw [hXV]at AF;clear hXV;generalize (S.take k).any (isS s.name)=tw at*;obtain ⟨V,hV⟩:∃V,Value.agg (cS s).toArray=V:=⟨_,rfl⟩
   have HV:=ζ hV;rw [show aS s=V from hV]at AX;clear hV;have A9:=ζ hrow;clear hrow HR;go_upto_region 6 with (first | (refine wpList_ld (o:=⟨some 28,_,_,_,_,_⟩) rfl _ _ rfl _ _ rfl (cS s) _ A9.out Tryz.underlying39 rfl info_Sheet V HV.out ?_) | (refine wpList_al (o:=⟨some 4,_,_,_,_,_⟩) rfl hC.out _ rfl zShe zero_Sheet ?_;intro b4 V2 h2;have Ab:=ζ h2;clear h2) | (refine wpList_st (o:=⟨none,_,_,_,_,_⟩) rfl Ab.out 1 rfl _ _ _ rfl rfl (cS s).toArray HV.out.symm info_Sheet rfl (cS_one s) ?_;intro V3 h3;have Ac:=ζ h3;clear h3 Ab) | fail)
   refine wp_geny Ac.out ?_;intro W6 hc;have hD:=ζ hc;clear hc Ac hC A9;refine wp_region_held_drew (S:=(fun w'=>w'.cell? ⟨bp,0,none⟩=some (.slice (some ⟨g0,o0,none⟩) S.length sc)/\w'.cell? ⟨bp,1,none⟩=some (.slice wa L.length wc)/\w'.cell? ⟨b4,0,none⟩=some (.string s.name)/\True)) (by kernel_rfl) ⟨hD.out.drew.c 0 0,hD.out.drew.c 0 1,hD.out.drew.c 1 0,trivial⟩ (fun hH=>?_);refine wpAnyH_geny (show Sy w _ [(bp,#[.slice (some ⟨g0,o0,none⟩) S.length sc,.slice wa L.length wc],32),(b4,(cS s).toArray,39)] [] []from hD.out.drew) hH ?_;intro Ak hc AA;have AG:=ζ hc;clear hc hH hD;refine tkA 0 rfl AA ?_;(try simp only [zP]);refine tkA 1 rfl AA ?_;(try simp only [zP]);refine tkA 2 rfl AA ?_;(try simp only [zP]);refine tkA 3 rfl AA ?_;(try simp only [zP]);refine tkA 4 rfl AA ?_;(try simp only [zP]);refine tkA 5 rfl AA ?_;(try simp only [zP]);refine tkA 6 rfl AA ?_;(try simp only [zP]);refine rdyL [7,11] ?_;refine arc rfl (fun Kq AB=>?_) ?_
   ·go_simp;go_at_call 82;refine(AF.out _ AG.out.be).mono ?_;rintro e wT ⟨rfl,hb⟩;(try go_wp2_with fail);refine stepZ AB (show Sy w _ [(bp,#[.slice (some ⟨g0,o0,none⟩) S.length sc,.slice wa L.length wc],32),(b4,(cS s).toArray,39)] [] []from(AG.out.call hb)) (fun _ hX=>⟨hX.c 0 0,hX.c 0 1,hX.c 1 0,trivial⟩) ?_;intro AY AC AD;clear AB Kq AG hb AA;(try simp only [zP]);refine tkA 8 rfl AD ?_;(try simp only [zP]);refine tkA 9 rfl AD ?_;(try simp only [zP]);refine tkA 10 rfl AD ?_;(try simp only [zP]);refine rdy1 11 rfl (fun Kq AB=>?_);rw [if_pos (by rfl)];refine op_al AC.out _ rfl (zShe) zero_Sheet (fun AM _ hc=>?_);refine stepZ AB (show Sy w _ [(bp,#[.slice (some ⟨g0,o0,none⟩) S.length sc,.slice wa L.length wc],32),(b4,(cS s).toArray,39),(AM,(zShe).cells,39)] [] []from hc) (fun _ hX=>⟨hX.c 0 0,hX.c 0 1,hX.c 1 0,trivial⟩) ?_;intro AZ AH AE;clear AB Kq AC hc AD;(try simp only [zP]);refine rdy1 12 rfl (fun Kq AB=>?_);rw [if_pos (by rfl)];refine op_st AH.out 2 rfl _ _ _ rfl rfl (X.toArray) (AV.out.symm) (show(Tryz.prog.info? 39).map (·.size)=some X.toArray.size by rw [AP.out];exact info_Sheet) (by rw [AP.out];rfl) (AU.out) (fun _ hc=>?_);refine stepZ AB (show Sy w _ [(bp,#[.slice (some ⟨g0,o0,none⟩) S.length sc,.slice wa L.length wc],32),(b4,(cS s).toArray,39),(AM,X.toArray,39)] [] []from hc) (fun _ hX=>⟨hX.c 0 0,hX.c 0 1,hX.c 1 0,trivial⟩) ?_;intro A0 AI AN;clear AB Kq AH hc AE;(try simp only [Act.put]);refine rdy1 13 rfl (fun Kq AB=>?_);go_simp;refine stepZ AB (show Sy w _ [(bp,#[.slice (some ⟨g0,o0,none⟩) S.length sc,.slice wa L.length wc],32),(b4,(cS s).toArray,39),(AM,X.toArray,39)] [] []from AI.out) (fun _ hX=>⟨hX.c 0 0,hX.c 0 1,hX.c 1 0,trivial⟩) ?_;exact mP12_0
   refine arc rfl (fun Kq AB=>?_) ?_
   ·rw [if_pos (by rfl)];refine op_al AG.out _ rfl (zShe) zero_Sheet (fun AL _ hc=>?_);refine stepZ AB (show Sy w _ [(bp,#[.slice (some ⟨g0,o0,none⟩) S.length sc,.slice wa L.length wc],32),(b4,(cS s).toArray,39),(AL,(zShe).cells,39)] [] []from hc) (fun _ hX=>⟨hX.c 0 0,hX.c 0 1,hX.c 1 0,trivial⟩) ?_;intro AY AC AD;clear AB Kq AG hc AA;(try simp only [zP]);refine rdy1 7 rfl (fun Kq AB=>?_);go_simp;go_at_call 82;refine(AF.out _ AC.out.be).mono ?_;rintro e wT ⟨rfl,hb⟩;(try go_wp2_with fail);refine stepZ AB (show Sy w _ [(bp,#[.slice (some ⟨g0,o0,none⟩) S.length sc,.slice wa L.length wc],32),(b4,(cS s).toArray,39),(AL,(zShe).cells,39)] [] []from(AC.out.call hb)) (fun _ hX=>⟨hX.c 0 0,hX.c 0 1,hX.c 1 0,trivial⟩) ?_;intro AZ AH AE;clear AB Kq AC hb AD;(try simp only [zP]);refine tkA 8 rfl AE ?_;(try simp only [zP]);refine tkA 9 rfl AE ?_;(try simp only [zP]);refine tkA 10 rfl AE ?_;(try simp only [zP]);refine rdy1 12 rfl (fun Kq AB=>?_);rw [if_pos (by rfl)];refine op_st AH.out 2 rfl _ _ _ rfl rfl (X.toArray) (AV.out.symm) (show(Tryz.prog.info? 39).map (·.size)=some X.toArray.size by rw [AP.out];exact info_Sheet) (by rw [AP.out];rfl) (AU.out) (fun _ hc=>?_);refine stepZ AB (show Sy w _ [(bp,#[.slice (some ⟨g0,o0,none⟩) S.length sc,.slice wa L.length wc],32),(b4,(cS s).toArray,39),(AL,X.toArray,39)] [] []from hc) (fun _ hX=>⟨hX.c 0 0,hX.c 0 1,hX.c 1 0,trivial⟩) ?_;intro A0 AI AN;clear AB Kq AH hc AE;(try simp only [Act.put]);refine rdy1 13 rfl (fun Kq AB=>?_);go_simp;refine stepZ AB (show Sy w _ [(bp,#[.slice (some ⟨g0,o0,none⟩) S.length sc,.slice wa L.length wc],32),(b4,(cS s).toArray,39),(AL,X.toArray,39)] [] []from AI.out) (fun _ hX=>⟨hX.c 0 0,hX.c 0 1,hX.c 1 0,trivial⟩) ?_;exact mP12_0
   exact AllReadyH.nil
  ·have hkk:¬ (k:Int) < (S.length:Int):=(by omega);have Ad:=ζ (show ∀i,i < S.length->okSheet S i=true from fun i hi=>HI.out i (by omega));clear HI A6;have x1:wr.cell? ⟨bp,1,none⟩=some (.slice wa L.length wc):=hC.out.c 0 1;go_wp2;go_loopw [50] (fun iv wr=>∃k:Nat,k<=L.length/\iv= .int .i64 k/\Hid (∀i,i < k->okWall S L i=true)/\Hid (Sy w wr [(bp,#[.slice sa S.length sc,.slice wa L.length wc],32)] [] [])) (fun iv _=>L.length - (intOf iv).toNat)
   case atStart=>exact⟨0,Nat.zero_le _,rfl,ζ (fun i h=>absurd h (Nat.not_lt_zero i)),hC⟩
   case round=>
    clear hC x1 hkk hlt;obtain ⟨m,hm,rfl,HI,hC⟩:=hrel;by_cases hlt:m < L.length
    ·obtain ⟨g1,o1,rfl⟩:=HL.out.row.addr (by omega);have AK:=ζ (okWall_at (S:=S) hlt);obtain ⟨y0,y1,y2,y3⟩:=(HL.out.row.below hC.out.be).atWa hlt;have AO:=ζ (Ag.out m hlt);have AQ:=ζ (show okWall S L m=true->∀i,i < m+1->okWall S L i=true from fun h i hi=>by
      rcases Nat.lt_or_ge i m with h1 | h1
      ·exact HI.out i h1
      ·have:i=m:=(by omega);subst this;exact h)
     have A2:=ζ (fun W (hW:Below w.heap.size w W) s hH=>wvalid_any W L[m] s ((HL.out.opn _ (List.getElem_mem hlt)).below hW) (HL.out.nam _ (List.getElem_mem hlt)).1 (HL.out.knd _ (List.getElem_mem hlt)) hH);have A3:=ζ (fun W (hW:Below w.heap.size w W)=>pwall_any W (.slice sa S.length sc) (some ⟨g1,o1,none⟩) L.length wc L L[m].name (HL.out.row.below hW));have AF:=ζ (fun W (hW:Below w.heap.size w W)=>psheet_any W sa S.length sc S (.slice (some ⟨g1,o1,none⟩) L.length wc) L[m].sheet (HS.out.row.below hW));unfold RetTheS at AF;have i0:(0:Int)<=(m:Int):=(by omega);have i1:(m:Int) < (L.length:Int):=(by omega);clear HI;generalize okWall S L m=ok at*;generalize L[m]=x at*;go_upto_region 13 with fail
     have A4:=ζ (hC.out.al wr.heap.size #[.string x.name,.string x.sheet,.int .i64 x.len,.slice x.oa x.on x.oc] 36 rfl);obtain ⟨b8,hb8⟩:∃b8,wr.heap.size=b8:=⟨_,rfl⟩
     rw [hb8]at A4⊢;refine wp_geny A4.out ?_;intro W7 hc;have hD:=ζ hc;clear hc A4 hb8 hC y0 y1 y2 y3;have x0:W7.cell? ⟨bp,0,none⟩=some (.slice sa S.length sc):=hD.out.c 0 0;have x1:W7.cell? ⟨bp,1,none⟩=some (.slice (some ⟨g1,o1,none⟩) L.length wc):=hD.out.c 0 1;have y1:W7.cell? ⟨b8,1,none⟩=some (.string x.sheet):=hD.out.c 1 1;cases hf:S.find? (isS x.sheet)with
     | none=>
       rw [hf]at AK;have HB:=ζ (AO.out AK.out);rw [theS_none hf]at AF;clear hf AQ A2 A3 AO AK;go_wp2_with fail
       refine(AF.out _ hD.out.be).mono ?_;rintro e w8 ⟨rfl,hb⟩;have AW:=ζ (hD.out.call hb);clear hb hD x0 x1 y1;go_upto_region 14 with (first | (refine wpList_al (o:=⟨some 9,_,_,_,_,_⟩) rfl AW.out _ rfl zShe zero_Sheet ?_;intro b9 V2 h2;have AS:=ζ h2;clear h2) | (refine wpList_st (o:=⟨none,_,_,_,_,_⟩) rfl AS.out 2 rfl _ _ _ rfl rfl zC.toArray rfl info_Sheet rfl zC_one ?_;intro V3 h3;have hE:=ζ h3;clear h3 AS) | fail)
       go_wp2;go_ret;exact⟨ret_int HB.out.symm,hE.out.be⟩
     | some s=>
       rw [hf]at AK;dsimp only at AK;have hsm:s∈S:=List.mem_of_find?_eq_some hf;have hsb:sheetB s=true:=by
        obtain ⟨i,hi,e⟩:=List.getElem_of_mem hsm;have h:=Ad.out i hi;rw [okSheet_at hi,Bool.and_eq_true,e]at h;exact h.2
       have Al:=ζ (show 1<=s.height/\s.height<=3000 by
        unfold sheetB at hsb;simp only [Bool.and_eq_true]at hsb;exact(nums_get hsb.1.1.1.1.2).2.2.1)
       rw [theS_some hf]at AF;clear hf hsm hsb;obtain ⟨V,hV⟩:∃V,Value.agg (cS s).toArray=V:=⟨_,rfl⟩
       have HV:=ζ hV;have Af:=ζ (fun W h=>A2.out W h s Al.out);rw [show aS s=V from hV]at Af;dsimp only at AF;rw [hV]at AF;clear hV A2;go_wp2_with fail
       refine(AF.out _ hD.out.be).mono ?_;rintro e w8 ⟨rfl,hb⟩;have AW:=ζ (hD.out.call hb);clear hb hD x0 x1 y1 AF;go_upto_region 14 with (first | (refine wpList_al (o:=⟨some 9,_,_,_,_,_⟩) rfl AW.out _ rfl zShe zero_Sheet ?_;intro b9 V2 h2;have AS:=ζ h2;clear h2) | (refine wpList_st (o:=⟨none,_,_,_,_,_⟩) rfl AS.out 2 rfl _ _ _ rfl rfl (cS s).toArray HV.out.symm info_Sheet rfl (cS_one s) ?_;intro V3 h3;have hE:=ζ h3;clear h3 AS AW) | fail)
       have x0:V3.cell? ⟨bp,0,none⟩=some (.slice sa S.length sc):=hE.out.c 0 0;have x1:V3.cell? ⟨bp,1,none⟩=some (.slice (some ⟨g1,o1,none⟩) L.length wc):=hE.out.c 0 1;have y0:V3.cell? ⟨b8,0,none⟩=some (.string x.name):=hE.out.c 1 0;generalize idxB (isW x.name) L=r at*;go_wp2_with fail
       refine(A3.out _ hE.out.be).mono ?_;rintro e w9 ⟨rfl,hb⟩;have hF:=ζ (hE.out.call hb);clear hb hE x0 x1 y0 A3;by_cases hr:r < (m:Int)
       ·have HB:=ζ (AO.out (by rw [AK.out,decide_eq_true hr];rfl));clear AK;go_wp2;go_ret;exact⟨ret_int HB.out.symm,hF.out.be⟩
       have AT:=ζ (show ok=wallB x s by rw [AK.out,decide_eq_false hr];rfl);have dr:decide (r < (m:Int))=false:=decide_eq_false hr;clear AK hr;have y0:w9.cell? ⟨b8,0,none⟩=some (.string x.name):=hF.out.c 1 0;have y1:w9.cell? ⟨b8,1,none⟩=some (.string x.sheet):=hF.out.c 1 1;have y2:w9.cell? ⟨b8,2,none⟩=some (.int .i64 x.len):=hF.out.c 1 2;have y3:w9.cell? ⟨b8,3,none⟩=some (.slice x.oa x.on x.oc):=hF.out.c 1 3;go_wp2_with (refine wpList_ldg (o:=⟨some 74,_,_,_,_,_⟩) rfl _ _ rfl _ _ rfl (cS s) _ (hF.out.range 2 rfl) Tryz.underlying39 rfl info_Sheet V HV.out ?_)
       refine(Af.out _ hF.out.be).mono ?_;rintro e w10 ⟨rfl,hb⟩;have hG:=ζ (hF.out.call hb);clear hb hF y0 y1 y2 y3;cases hwb:wallB x s
       ·have HB:=ζ (AO.out (by rw [AT.out,hwb]));go_wp2;go_ret;exact⟨ret_int HB.out.symm,hG.out.be⟩
       ·have HB:=ζ (AQ.out (by rw [AT.out,hwb]));go_wp2;go_roundw
        case rel=>exact⟨m+1,by omega,by go_num,HB,ζ (hG.out.thin (List.Sublist.cons_cons _ (List.nil_sublist _)) (List.Sublist.refl _))⟩
        case measure=>simp [intOf];omega
    ·have hkk:¬ (m:Int) < (L.length:Int):=(by omega);have HB:=ζ (Aj.out Ad.out (fun i hi=>HI.out i (by omega)));go_wp2;go_ret;exact⟨ret_int HB.out.symm,hC.out.be⟩
end
end Go.Proofs.YtjpojeapdgjbhaaGreatDoor

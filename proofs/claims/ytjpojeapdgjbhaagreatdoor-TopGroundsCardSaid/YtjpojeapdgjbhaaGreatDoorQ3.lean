/- part -/
import Derived.Test.YtjpojeapdgjbhaaGreatDoorQ2
set_option maxRecDepth 100000
set_option maxHeartbeats 4000000
namespace Go.Proofs.YtjpojeapdgjbhaaGreatDoor
open Dig
def Bd (n:Nat) (z:Int):Prop:=z.natAbs < 2 ^ n
theorem Bd.mono {n m:Nat} {z:Int} (h:Bd n z) (hn:n<=m):Bd m z:=Nat.lt_of_lt_of_le h (Nat.pow_le_pow_right (by omega) hn)
theorem Bd.len_le {n k:Nat} {z:Int} (h:Bd n z) (hn:n<=24*k):(dg 16777216 z.natAbs).length<=k:=by
 refine dg_len_le (by omega) ?_;refine Nat.lt_of_lt_of_le (h.mono hn) ?_;rw [show(16777216:Nat)=2 ^ 24 from rfl,<-Nat.pow_mul];exact Nat.le_refl _
theorem Bd.len {n:Nat} {z:Int} (h:Bd n z) (hn:n<=1000000):(dg 16777216 z.natAbs).length<=50000:=h.len_le (by omega)
theorem Bd.mul {n m:Nat} {x y:Int} (h:Bd n x) (k:Bd m y):Bd (n+m) (x*y):=by
 unfold Bd at*;rw [Int.natAbs_mul,Nat.pow_add];exact Nat.mul_lt_mul'' h k
theorem Bd.add {n m:Nat} {x y:Int} (h:Bd n x) (k:Bd m y):Bd (n+m+1) (x+y):=by
 have h1:x.natAbs < 2 ^ (n+m):=h.mono (by omega);have h2:y.natAbs < 2 ^ (n+m):=k.mono (by omega);unfold Bd;rw [Nat.pow_succ];have:=Int.natAbs_add_le x y;omega
theorem Bd.neg {n:Nat} {x:Int} (h:Bd n x):Bd n (-x):=by unfold Bd at*;rw [Int.natAbs_neg];exact h
theorem Bd.abs {n:Nat} {x:Int} (h:Bd n x):Bd n (x.natAbs:Int):=by unfold Bd at*;rw [Int.natAbs_natCast];exact h
theorem Bd.sub {n m:Nat} {x y:Int} (h:Bd n x) (k:Bd m y):Bd (n+m+1) (x - y):=by rw [Int.sub_eq_add_neg];exact h.add k.neg
theorem Bd.zero {n:Nat} :Bd n 0:=by unfold Bd;rw [Int.natAbs_zero];exact Nat.pow_pos (by omega)
theorem Bd.gcd {n m:Nat} {x y:Int} (h:Bd n x) (k:Bd m y):Bd (n+m) (Int.gcd x y:Int):=by
 unfold Bd;rw [Int.natAbs_natCast];by_cases hx:x=0
 ·subst hx;rw [Int.gcd_zero_left];exact k.mono (by omega)
 ·exact Nat.lt_of_le_of_lt (Nat.gcd_le_left _ (by omega)) (h.mono (by omega))
theorem Bd.div {n:Nat} {x:Int} (h:Bd n x) (y:Int):Bd n (x / y):=Nat.lt_of_le_of_lt (Int.natAbs_ediv_le_natAbs x y) h
theorem Bd.i64 {k:Int} (h: -9223372036854775808<=k/\k < 9223372036854775808):Bd 64 k:=by
 unfold Bd;have:(2:Nat) ^ 64=18446744073709551616:=rfl;omega
structure Bq (n:Nat) (q:Rat):Prop where
 num:Bd n q.num
 den:Bd n (q.den:Int)
theorem Bq.mono {n m:Nat} {q:Rat} (h:Bq n q) (hn:n<=m):Bq m q:=⟨h.num.mono hn,h.den.mono hn⟩
theorem Bd.of_le {n:Nat} {x y:Int} (h:Bd n x) (hl:y.natAbs<=x.natAbs):Bd n y:=Nat.lt_of_le_of_lt hl h
theorem divInt_num_le (x y:Int):(Rat.divInt x y).num.natAbs<=x.natAbs:=by
 rw [Rat.num_divInt];refine Nat.le_trans (Int.natAbs_ediv_le_natAbs _ _) ?_;rw [Int.natAbs_mul];have:y.sign.natAbs<=1:=by
  rcases Int.lt_trichotomy y 0 with h | h | h
  ·rw [Int.sign_eq_neg_one_of_neg h];decide
  ·subst h;decide
  ·rw [Int.sign_eq_one_of_pos h];decide
 have:=Nat.mul_le_mul_right x.natAbs this;omega
theorem divInt_den_le (x:Int) {y:Int} (hy:y≠0):(Rat.divInt x y).den<=y.natAbs:=by
 rw [Rat.den_divInt,if_neg hy];exact Nat.div_le_self _ _
theorem Bq.ofInt {n m k:Nat} {x y:Int} (h:Bd n x) (g:Bd m y) (hy:y≠0) (h1:n<=k) (h2:m<=k):Bq k (Rat.divInt x y):=
 ⟨(h.of_le (divInt_num_le x y)).mono h1,(g.of_le (by rw [Int.natAbs_natCast];exact divInt_den_le x hy)).mono h2⟩
theorem den_ne (q:Rat):(q.den:Int)≠0:=by have:=q.den_nz;omega
theorem add_eq (a b:Rat):a+b=Rat.divInt (a.num*b.den+b.num*a.den) (a.den*b.den):=by
 conv=>lhs;rw [<-Rat.num_divInt_den a,<-Rat.num_divInt_den b]
 rw [Rat.divInt_add_divInt _ _ (den_ne a) (den_ne b)]
theorem mul_eq (a b:Rat):a*b=Rat.divInt (a.num*b.num) (a.den*b.den):=by
 conv=>lhs;rw [<-Rat.num_divInt_den a,<-Rat.num_divInt_den b]
 rw [Rat.divInt_mul_divInt]
theorem div_eq (a b:Rat):a / b=Rat.divInt (a.num*b.den) (a.den*b.num):=by
 rw [Rat.div_def]
 conv=>lhs;rw [<-Rat.num_divInt_den a,<-Rat.num_divInt_den b]
 rw [Rat.inv_divInt,Rat.divInt_mul_divInt]
theorem Bq.add {n m:Nat} {a b:Rat} (h:Bq n a) (k:Bq m b):Bq (2*n+2*m+1) (a+b):=by
 rw [add_eq];exact Bq.ofInt ((h.num.mul k.den).add (k.num.mul h.den)) (h.den.mul k.den) (Int.mul_ne_zero (den_ne a) (den_ne b)) (by omega) (by omega)
theorem Bq.mul {n m:Nat} {a b:Rat} (h:Bq n a) (k:Bq m b):Bq (n+m) (a*b):=by
 rw [mul_eq];exact Bq.ofInt (h.num.mul k.num) (h.den.mul k.den) (Int.mul_ne_zero (den_ne a) (den_ne b)) (by omega) (by omega)
theorem Bq.neg {n:Nat} {a:Rat} (h:Bq n a):Bq n (-a):=⟨by rw [Rat.neg_num];exact h.num.neg,by rw [Rat.neg_den];exact h.den⟩
theorem Bq.sub {n m:Nat} {a b:Rat} (h:Bq n a) (k:Bq m b):Bq (2*n+2*m+1) (a - b):=by rw [Rat.sub_eq_add_neg];exact h.add k.neg
theorem Bq.div {n m:Nat} {a b:Rat} (h:Bq n a) (k:Bq m b) (hb:b≠0):Bq (n+m) (a / b):=by
 rw [div_eq];exact Bq.ofInt (h.num.mul k.den) (h.den.mul k.num) (Int.mul_ne_zero (den_ne a) (fun e=>hb (Rat.num_eq_zero.1 e))) (by omega) (by omega)
theorem Bq.int {n:Nat} {z:Int} (h:Bd n z):Bq (n+1) (z:Rat):=⟨by rw [Rat.num_intCast];exact h.mono (by omega),by
 rw [Rat.den_intCast];unfold Bd;rw [Nat.pow_succ];have:0 < 2 ^ n:=Nat.pow_pos (by omega);simp;omega⟩
theorem Bq.zero {n:Nat} :Bq (n+1) 0:=by
 have:=Bq.int (n:=n) (z:=0) Bd.zero;exact this
def sgnQ (q:Rat):Int:=if q=0 then 0 else if q < 0 then -1 else 1
def cmpQ (a b:Rat):Int:=if a=b then 0 else if a < b then -1 else 1
section
abbrev Pt:=Int×Int
abbrev Pt.x (p:Pt):Int:=p.1
abbrev Pt.z (p:Pt):Int:=p.2
def hX (l:List Pt) (i:Nat):Int:=(l.getD i (0,0)).x
def hZ (l:List Pt) (i:Nat):Int:=(l.getD i (0,0)).z
theorem hX_at {l:List Pt} {i:Nat} (h:i < l.length):hX l i=l[i].x:=by unfold hX;rw [List.getD_eq_getElem?_getD,List.getElem?_eq_getElem h];rfl
theorem hZ_at {l:List Pt} {i:Nat} (h:i < l.length):hZ l i=l[i].z:=by unfold hZ;rw [List.getD_eq_getElem?_getD,List.getElem?_eq_getElem h];rfl
structure Prof (l:List Pt):Prop where
 two:2<=l.length
 forty:l.length<=40
 far:∀p∈l,(-100000<=p.x/\p.x<=100000)/\ -100000<=p.z/\p.z<=100000
 up:∀i,i+1 < l.length->hX l i < hX l (i+1)
section
variable {l:List Pt}
theorem Prof.lt (h:Prof l) {i j:Nat} (hij:i < j) (hj:j < l.length):hX l i < hX l j:=by
 induction j with
 | zero=>omega
 | succ j ih=>
   rcases Nat.lt_or_ge i j with h1 | h1
   ·have:=ih h1 (by omega);have:=h.up j hj;omega
   ·have:i=j:=(by omega);subst this;exact h.up i hj
theorem Prof.le (h:Prof l) {i j:Nat} (hij:i<=j) (hj:j < l.length):hX l i<=hX l j:=by
 rcases Nat.lt_or_ge i j with h1 | h1
 ·exact Int.le_of_lt (h.lt h1 hj)
 ·rw [show i=j by omega];exact Int.le_refl _
theorem Prof.bx (h:Prof l) {i:Nat} (hi:i < l.length): -100000<=hX l i/\hX l i<=100000:=by rw [hX_at hi];exact(h.far _ (List.getElem_mem hi)).1
theorem Prof.bz (h:Prof l) {i:Nat} (hi:i < l.length): -100000<=hZ l i/\hZ l i<=100000:=by rw [hZ_at hi];exact(h.far _ (List.getElem_mem hi)).2
def sg (l:List Pt) (x:Int):Nat:=(List.range (l.length - 2)).countP (fun i=> !decide (x<=hX l (i+1)))
theorem countP_cut {n:Nat} {p:Nat->Bool} (k:Nat) (hk:k<=n) (h1:∀i,i < k->p i=true) (h2:∀i,k<=i->i < n->p i=false):(List.range n).countP p=k:=by
 induction n with
 | zero=>simp;omega
 | succ n ih=>
   rw [List.range_succ,List.countP_append];rcases Nat.lt_or_ge k (n+1)with h | h
   ·rw [ih (by omega) (fun i hi hn=>h2 i hi (by omega))];simp [h2 n (by omega) (by omega)]
   ·obtain rfl:k=n+1:=by omega
    have:(List.range n).countP p=n:=by
     have:=List.countP_eq_length (p:=p) (l:=List.range n);rw [List.length_range]at this;exact this.2 fun i hi=>h1 i (by have:=List.mem_range.1 hi;omega)
    rw [this];simp [h1 n (by omega)]
theorem cut_ex {n:Nat} {p:Nat->Bool} (hm:∀a b,a<=b->b < n->p a=true->p b=true):∃k,k<=n/\(∀i,i < k->p i=false)/\∀i,k<=i->i < n->p i=true:=by
 induction n with
 | zero=>exact⟨0,Nat.le_refl _,fun i h=>absurd h (Nat.not_lt_zero i),fun i _ h=>absurd h (Nat.not_lt_zero i)⟩
 | succ n ih=>
   obtain ⟨k,hk,h1,h2⟩:=ih (fun a b hab hb=>hm a b hab (by omega));rcases Nat.lt_or_ge k n with h | h
   ·refine⟨k,by omega,h1,fun i hi hn=>?_⟩;rcases Nat.lt_or_ge i n with h3 | h3
    ·exact h2 i hi h3
    ·exact hm k i hi hn (h2 k (Nat.le_refl _) h)
   ·obtain rfl:k=n:=by omega
    cases hp:p k
    ·exact⟨k+1,Nat.le_refl _,fun i hi=>by
      rcases Nat.lt_or_ge i k with h3 | h3
      ·exact h1 i h3
      ·rw [show i=k by omega];exact hp,fun i hi hn=>by omega⟩
    ·exact⟨k,by omega,h1,fun i hi hn=>by rw [show i=k by omega];exact hp⟩
theorem cut_count {n:Nat} {p:Nat->Bool} (hm:∀a b,a<=b->b < n->p a=true->p b=true):(List.range n).countP (fun i=> !p i)<=n/\(∀i,i < (List.range n).countP (fun i=> !p i)->p i=false)/\∀i,(List.range n).countP (fun i=> !p i)<=i->i < n->p i=true:=by
 obtain ⟨k,hk,h1,h2⟩:=cut_ex hm;rw [countP_cut (p:=fun i=> !p i) k hk (fun i hi=>by simp [h1 i hi]) (fun i hi hn=>by simp [h2 i hi hn])];exact⟨hk,h1,h2⟩
theorem Prof.mono (h:Prof l) (x:Int):∀a b,a<=b->b < l.length - 2->decide (x<=hX l (a+1))=true->decide (x<=hX l (b+1))=true:=by
 intro a b hab hb ha;have:=h.le (i:=a+1) (j:=b+1) (by omega) (by omega);simp only [decide_eq_true_eq]at*;omega
theorem Prof.sg (h:Prof l) (x:Int):sg l x<=l.length - 2/\(∀i,i < sg l x->hX l (i+1) < x)/\∀i,sg l x<=i->i < l.length - 2->x<=hX l (i+1):=by
 obtain ⟨h1,h2,h3⟩:=cut_count (h.mono x);refine⟨h1,fun i hi=>?_,fun i hi hn=>?_⟩
 ·have:=h2 i hi;simp only [decide_eq_false_iff_not]at this;omega
 ·have:=h3 i hi hn;simpa using this
def grdI (l:List Pt) (i:Nat) (x:Int):Rat:=((hZ l i:Int):Rat)+((hZ l (i+1) - hZ l i:Int):Rat)*((x - hX l i:Int):Rat) / ((hX l (i+1) - hX l i:Int):Rat)
def grd (l:List Pt) (x:Int):Rat:=grdI l (sg l x) x
theorem cast_ne {a:Int} (h:a≠0):(a:Rat)≠0:=fun e=>h (Rat.intCast_eq_zero_iff.1 e)
theorem grdI_left (l:List Pt) (i:Nat):grdI l i (hX l i)=hZ l i:=by
 unfold grdI;rw [Int.sub_self,show((0:Int):Rat)=0 from rfl];grind
theorem grdI_right (l:List Pt) (i:Nat) (h:hX l i < hX l (i+1)):grdI l i (hX l (i+1))=hZ l (i+1):=by
 unfold grdI;have h1:=cast_ne (a:=hX l (i+1) - hX l i) (by omega);rw [Rat.intCast_sub,Rat.intCast_sub]at*;grind
theorem Prof.grd_at (h:Prof l) {i:Nat} {x:Int} (hi:i+1 < l.length) (h1:hX l i<=x) (h2:x<=hX l (i+1)):grd l x=grdI l i x:=by
 obtain ⟨a,b,c⟩:=h.sg x;unfold grd;generalize Proofs.YtjpojeapdgjbhaaGreatDoor.sg l x=s at*;rcases Nat.lt_trichotomy s i with h3 | h3 | h3
 ·have h4:=c s (Nat.le_refl _) (by omega);have h5:=h.le (i:=s+1) (j:=i) (by omega) (by omega);have h6:hX l i=x:=by omega
  have h7:hX l (s+1)=x:=by omega
  have h8:s+1=i:=by
   rcases Nat.lt_or_ge (s+1) i with h9 | h9
   ·have:=h.lt h9 (by omega);omega
   ·omega
  subst h8;subst h7;rw [grdI_left,grdI_right l s (h.up s (by omega))]
 ·rw [h3]
 ·have:=b i h3;omega
theorem Prof.sg_in (h:Prof l) {x:Int} (h1:hX l 0<=x) (h2:x<=hX l (l.length - 1)):Proofs.YtjpojeapdgjbhaaGreatDoor.sg l x+1 < l.length/\hX l (Proofs.YtjpojeapdgjbhaaGreatDoor.sg l x)<=x/\x<=hX l (Proofs.YtjpojeapdgjbhaaGreatDoor.sg l x+1):=by
 obtain ⟨a,b,c⟩:=h.sg x;have:=h.two;generalize Proofs.YtjpojeapdgjbhaaGreatDoor.sg l x=s at*;refine⟨by omega,?_,?_⟩
 ·cases s with
  | zero=>exact h1
  | succ s=>exact Int.le_of_lt (b s (by omega))
 ·rcases Nat.lt_or_ge s (l.length - 2)with h3 | h3
  ·exact c s (Nat.le_refl _) h3
  ·rw [show s+1=l.length - 1 by omega];exact h2
def stp (b:Int):Int->List Int->List (Int×Int)
 | _,[]=>[]
 | x,p::r=>if x < min p b then(x,min p b)::stp b (min p b) r else stp b x r
def pcs (l:List Pt) (a b:Int):List (Int×Int):=stp b a (l.map (·.x))
def nbr:List Int->List (Int×Int)
 | x::y::r=>(x,y)::nbr (y::r)
 | _=>[]
def ins (l:List Pt) (a b:Int):List Int:=(l.map (·.x)).filter (fun x=>decide (a < x) && decide (x < b))
theorem stp_end {b:Int} :∀r:List Int,stp b b r= []
 | []=>rfl
 | p::r=>by
   unfold stp;rw [if_neg (by omega),stp_end r]
theorem stp_nbr {b:Int} :∀ (xs:List Int) (a:Int),xs.Pairwise (· < ·)->a < b->(∃x∈xs,b<=x)->stp b a xs=nbr (a::(xs.filter (fun x=>decide (a < x) && decide (x < b))++ [b]))
 | [],_,_,_,h=>by obtain ⟨x,hx,_⟩:=h;cases hx
 | p::r,a,hp,hab,h=>by
   have hpr:=List.pairwise_cons.1 hp;unfold stp;by_cases h1:p<=a
   ·rw [if_neg (by omega),List.filter_cons_of_neg (by simp;omega)];refine stp_nbr r a hpr.2 hab ?_;obtain ⟨x,hx,hb⟩:=h;rcases List.mem_cons.1 hx with rfl | hx
    ·omega
    ·exact⟨x,hx,hb⟩
   ·by_cases h2:p < b
    ·rw [if_pos (by omega),show min p b=p by omega,List.filter_cons_of_pos (by simp;omega),List.cons_append,nbr];have h3:r.filter (fun x=>decide (a < x) && decide (x < b))=r.filter (fun x=>decide (p < x) && decide (x < b)):=by
      refine List.filter_congr fun x hx=>?_;have:=hpr.1 x hx;rw [decide_eq_true (by omega:a < x),decide_eq_true this]
     rw [h3,stp_nbr r p hpr.2 h2];obtain ⟨x,hx,hb⟩:=h;rcases List.mem_cons.1 hx with rfl | hx
     ·omega
     ·exact⟨x,hx,hb⟩
    ·rw [if_pos (by omega),show min p b=b by omega,stp_end];have h3:(p::r).filter (fun x=>decide (a < x) && decide (x < b))= []:=by
      refine List.filter_eq_nil_iff.2 fun x hx=>?_;have:p<=x:=by
       rcases List.mem_cons.1 hx with rfl | hx
       ·exact Int.le_refl _
       ·exact Int.le_of_lt (hpr.1 x hx)
      simp;omega
     rw [h3];rfl
theorem Prof.pw (h:Prof l):(l.map (·.x)).Pairwise (· < ·):=by
 rw [List.pairwise_iff_getElem];intro i j hi hj hij;simp only [List.length_map]at hi hj;have:=h.lt hij hj;rw [hX_at hi,hX_at hj]at this;simpa using this
theorem Prof.pcs (h:Prof l) {a b:Int} (hab:a < b) (hb:b<=hX l (l.length - 1)):pcs l a b=nbr (a::(ins l a b++ [b])):=by
 have:=h.two;refine stp_nbr _ a h.pw hab ⟨hX l (l.length - 1),?_,hb⟩;rw [hX_at (by omega)];exact List.mem_map.2 ⟨_,List.getElem_mem _,rfl⟩
end
end
section
open Go.RowKit
section
variable (w:World)
theorem search_any (g:Nat) (cb:Array Value) (n:Nat) (p:Nat->Bool) (eg:EG g) (hsz:n<=1000000000)
  (hf:∀W,Below w.heap.size w W->∀i,i < n->Calls Tryz.prog g (#[.int .i64 i]++cb) W (Gives (.bool (p i)) W)) (hmono:∀a b,a<=b->b < n->p a=true->p b=true):
  Calls Tryz.prog 96 #[.int .i64 n,.func (.func g) #[] cb] w (Gives (.int .i64 ((List.range n).countP (fun i=> !p i):Nat)) w):=by
 have HF:=ζ hf;have M:=ζ hmono;have HN:=ζ (cut_count hmono);generalize hcnt:(List.range n).countP (fun i=> !p i)=cnt at*;clear hf hmono hcnt;go_enter Tryz.func96,Tryz.ntmps96;go_wp2;go_loopw [5,6] (fun s5 s6 wr=>∃lo hi:Nat,s5= .int .i64 lo/\s6= .int .i64 hi/\lo<=hi/\hi<=n/\Hid ((∀t,t < lo->p t=false)/\(∀t,hi<=t->t < n->p t=true))/\Hid (Below w.heap.size w wr)) (fun s5 s6 _=>(intOf s6).toNat - (intOf s5).toNat)
 case atStart=>exact⟨0,n,rfl,rfl,Nat.zero_le _,Nat.le_refl _,ζ ⟨fun t ht=>absurd ht (Nat.not_lt_zero _),fun t h1 h2=>by omega⟩,ζ (Below.refl _ _)⟩
 case round=>
  obtain ⟨lo,hi,rfl,rfl,hlh,hin,I,hB⟩:=hrel;by_cases hlt:lo < hi
  ·have hc:=HF.out wr hB.out ((lo+hi) / 2) (by omega);rw [show(((lo+hi) / 2:Nat):Int)=((lo:Int)+(hi:Int)) / 2 by omega]at hc;cases hp:p ((lo+hi) / 2)
   ·rw [hp]at hc;have HP:=ζ hp;have HC:=ζ hc;clear hp hc HF;go_wp2_with fail
    refine HC.out.mono ?_;rintro e w' ⟨rfl,hb⟩;have AA:=ζ (hB.out.trans (hb.mono hB.out.size));clear hb;go_wp2;go_roundw
    case rel=>
     refine⟨(lo+hi) / 2+1,hi,by rw [show((lo:Int)+(hi:Int)) / 2+1=(((lo+hi) / 2+1:Nat):Int)by omega],rfl,by omega,hin,ζ ⟨fun t ht=>?_,I.out.2⟩,AA⟩;cases h:p t with
     | false=>rfl
     | true=>have:=M.out t ((lo+hi) / 2) (by omega) (by omega) h;rw [HP.out]at this;cases this
    case measure=>simp [intOf];omega
   ·rw [hp]at hc;have HP:=ζ hp;have HC:=ζ hc;clear hp hc HF;go_wp2_with fail
    refine HC.out.mono ?_;rintro e w' ⟨rfl,hb⟩;have AA:=ζ (hB.out.trans (hb.mono hB.out.size));clear hb;go_wp2;go_roundw
    case rel=>
     exact⟨lo,(lo+hi) / 2,rfl,by rw [show((lo:Int)+(hi:Int)) / 2=(((lo+hi) / 2:Nat):Int)by omega],by omega,by omega,ζ ⟨I.out.1,fun t ht htn=>M.out ((lo+hi) / 2) t ht htn HP.out⟩,AA⟩
    case measure=>simp [intOf];omega
  ·obtain rfl:hi=lo:=by omega
   have ecnt:cnt=hi:=by
    obtain ⟨h1,h2,h3⟩:=HN.out;rcases Nat.lt_trichotomy cnt hi with h | h | h
    ·have e1:=I.out.1 cnt h;have e2:=h3 cnt (Nat.le_refl _) (by omega);rw [e1]at e2;cases e2
    ·exact h
    ·have e1:=I.out.2 hi (Nat.le_refl _) (by omega);have e2:=h2 hi h;rw [e1]at e2;cases e2
   subst ecnt;go_wp2;go_ret;exact⟨rfl,hB.out⟩
end
section
variable (w:World)
end
end
end Go.Proofs.YtjpojeapdgjbhaaGreatDoor

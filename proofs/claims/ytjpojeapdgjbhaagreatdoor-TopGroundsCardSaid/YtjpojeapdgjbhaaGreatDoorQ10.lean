/- part -/
import Ieee.Arith
set_option maxRecDepth 100000
set_option maxHeartbeats 1000000
namespace Go.Proofs.YtjpojeapdgjbhaaGreatDoor.Flt
open Ieee
def Up (m:Nat) (p K:Int):Prop:=m=0\/p+m.log2<=K
def Lo (m:Nat) (p:Int):Prop:=m≠0/\0<=p+m.log2
theorem infD:double.infRung=2047*4503599627370496:=by decide
theorem binD:double.binade=4503599627370496:=by decide
theorem sgnD:double.signWeight=9223372036854775808:=by decide
theorem leaD:double.leastPlace= -1074:=by decide
theorem fraD:double.fractionBits=52:=rfl
theorem log2_mul_le {a b:Nat} (ha:a≠0) (hb:b≠0):(a*b).log2<=a.log2+b.log2+1:=by
 have h1:a*b < 2 ^ (a.log2+1)*2 ^ (b.log2+1):=Nat.mul_lt_mul'' Nat.lt_log2_self Nat.lt_log2_self;rw [<-Nat.pow_add]at h1;have:=(Nat.log2_lt (Nat.mul_ne_zero ha hb)).2 h1;omega
theorem log2_shl {m:Nat} (hm:m≠0) (k:Nat):(m <<< k).log2=m.log2+k:=by
 have hne:m <<< k≠0:=by rw [Nat.shiftLeft_eq];exact Nat.mul_ne_zero hm (Nat.ne_of_gt (Nat.two_pow_pos k))
 apply Nat.le_antisymm
 ·have h1:m <<< k < 2 ^ (m.log2+k+1):=by
   rw [Nat.shiftLeft_eq,show m.log2+k+1=(m.log2+1)+k by omega,Nat.pow_add];exact Nat.mul_lt_mul_of_pos_right Nat.lt_log2_self (Nat.two_pow_pos k)
  have:=(Nat.log2_lt hne).2 h1;omega
 ·rw [Nat.le_log2 hne,Nat.shiftLeft_eq,Nat.pow_add];exact Nat.mul_le_mul_right _ (Nat.log2_self_le hm)
theorem cut_le (n drop B:Nat) (h:n / 2 ^ drop < B\/(n.log2+2 < drop/\0 < B)) (_:n≠0):Toward.even.cut false n drop<=B:=by
 unfold Toward.cut;simp only [Nat.shiftLeft_eq,Nat.one_mul];have hb:∀b:Bool,b.toNat<=1:=fun b=>by cases b<;>decide
 have h1:n / 2 ^ (min drop (n.log2+2)) < B:=by
  rcases Nat.le_total drop (n.log2+2)with h' | h'
  ·rw [Nat.min_eq_left h'];rcases h with h | h
   ·exact h
   ·omega
  ·rw [Nat.min_eq_right h'];have:n / 2 ^ (n.log2+2)=0:=Nat.div_eq_of_lt (Nat.lt_of_lt_of_le (Nat.lt_log2_self (n:=n)) (Nat.pow_le_pow_right (by omega) (by omega)));rw [this];rcases h with h | h
   ·exact Nat.lt_of_le_of_lt (Nat.zero_le _) h
   ·exact h.2
 have h2:=hb (decide (2 ^ (min drop (n.log2+2)) < 2*(n % 2 ^ (min drop (n.log2+2)))) || ((2 ^ (min drop (n.log2+2))==2*(n % 2 ^ (min drop (n.log2+2)))) && (n / 2 ^ (min drop (n.log2+2)) % 2==1)));omega
theorem cut_ge (n drop B:Nat) (h:B<=n / 2 ^ drop) (hd:drop<=n.log2+2):B<=Toward.even.cut false n drop:=by
 unfold Toward.cut;simp only [Nat.shiftLeft_eq,Nat.one_mul,Nat.min_eq_left hd];omega
theorem near_ub (m:Nat) (p:Int) (K:Nat) (hK:K<=900) (h:Up m p K):double.nearest false m p<=(K+1024)*4503599627370496:=by
 unfold Format.nearest;by_cases hm:m=0
 ·rw [if_pos hm];unfold Format.word;simp
 rw [if_neg hm];simp only [fraD,leaD,binD,infD,Format.word,Bool.false_eq_true,if_false];have hL:p+m.log2<=K:=h.resolve_left hm;refine Nat.le_trans (Nat.min_le_left _ _) ?_;rcases Int.le_total (-1074) (p+m.log2 - (52:Nat))with hn | hn
 ·
  rw [Int.max_eq_left hn];have key:Toward.even.cut false (m <<< (p - (p+m.log2 - (52:Nat))).toNat) ((p+m.log2 - (52:Nat)) - p).toNat<=9007199254740992:=by
   have e1:(p - (p+m.log2 - (52:Nat))).toNat=52 - m.log2:=(by omega);have e2:((p+m.log2 - (52:Nat)) - p).toNat=m.log2 - 52:=(by omega);rw [e1,e2];refine cut_le _ _ _ (.inl ?_) (by rw [Nat.shiftLeft_eq];exact Nat.mul_ne_zero hm (Nat.ne_of_gt (Nat.two_pow_pos _)));rw [Nat.div_lt_iff_lt_mul (Nat.two_pow_pos _),Nat.shiftLeft_eq,show(9007199254740992:Nat)=2 ^ 53 by decide,<-Nat.pow_add];have h1:m*2 ^ (52 - m.log2) < 2 ^ (m.log2+1)*2 ^ (52 - m.log2):=Nat.mul_lt_mul_of_pos_right Nat.lt_log2_self (Nat.two_pow_pos _);rw [<-Nat.pow_add]at h1;exact Nat.lt_of_lt_of_le h1 (Nat.pow_le_pow_right (by omega) (by omega))
  have e3:((p+m.log2 - (52:Nat)) - -1074).toNat<=K+1022:=by omega
  have e4:=Nat.mul_le_mul_right 4503599627370496 e3;have e5:(K+1022)*4503599627370496+9007199254740992=(K+1024)*4503599627370496:=by omega
  rw [<-e5];exact Nat.add_le_add e4 key
 ·
  rw [Int.max_eq_right hn];have key:Toward.even.cut false (m <<< (p - -1074).toNat) (-1074 - p).toNat<=9007199254740992:=by
   refine cut_le _ _ _ (.inl ?_) (by rw [Nat.shiftLeft_eq];exact Nat.mul_ne_zero hm (Nat.ne_of_gt (Nat.two_pow_pos _)));rw [Nat.div_lt_iff_lt_mul (Nat.two_pow_pos _),Nat.shiftLeft_eq,show(9007199254740992:Nat)=2 ^ 53 by decide,<-Nat.pow_add];have h1:m*2 ^ (p - -1074).toNat < 2 ^ (m.log2+1)*2 ^ (p - -1074).toNat:=Nat.mul_lt_mul_of_pos_right Nat.lt_log2_self (Nat.two_pow_pos _);rw [<-Nat.pow_add]at h1;exact Nat.lt_of_lt_of_le h1 (Nat.pow_le_pow_right (by omega) (by omega))
  have e3:((-1074:Int) - -1074).toNat=0:=by decide
  rw [e3,Nat.zero_mul,Nat.zero_add];exact Nat.le_trans key (Nat.mul_le_mul_right 4503599627370496 (show 2<=K+1024 by omega))
theorem near_lb (m:Nat) (p:Int) (h:Lo m p) (hK:p+m.log2<=900):1023*4503599627370496<=double.nearest false m p:=by
 unfold Format.nearest;obtain ⟨hm,hL⟩:=h;rw [if_neg hm];simp only [fraD,leaD,binD,infD,Format.word,Bool.false_eq_true,if_false];rw [Int.max_eq_left (by omega)];have key:4503599627370496<=Toward.even.cut false (m <<< (p - (p+m.log2 - (52:Nat))).toNat) ((p+m.log2 - (52:Nat)) - p).toNat:=by
  have e1:(p - (p+m.log2 - (52:Nat))).toNat=52 - m.log2:=by omega
  have e2:((p+m.log2 - (52:Nat)) - p).toNat=m.log2 - 52:=by omega
  rw [e1,e2];refine cut_ge _ _ _ ?_ (by rw [log2_shl hm];omega);rw [Nat.le_div_iff_mul_le (Nat.two_pow_pos _),Nat.shiftLeft_eq,show(4503599627370496:Nat)=2 ^ 52 by decide,<-Nat.pow_add];have h1:2 ^ m.log2*2 ^ (52 - m.log2)<=m*2 ^ (52 - m.log2):=Nat.mul_le_mul_right _ (Nat.log2_self_le hm);rw [<-Nat.pow_add]at h1;exact Nat.le_trans (Nat.pow_le_pow_right (by omega) (by omega)) h1
 have e3:1022<=((p+m.log2 - (52:Nat)) - -1074).toNat:=by omega
 have e4:=Nat.mul_le_mul_right 4503599627370496 e3;apply Nat.le_min.2;constructor<;>omega
theorem read_ub (x K:Nat) (hK:K<=900) (h:x<=(K+1023)*4503599627370496):∃m p,double.read x= .number false m p/\Up m p K/\(1023*4503599627370496<=x->Lo m p):=by
 unfold Format.read;simp only [sgnD,binD,infD,leaD];have h0:(K+1023)*4503599627370496<=1923*4503599627370496:=Nat.mul_le_mul_right _ (by omega);have e1:(x / 9223372036854775808 % 2==1)=false:=by
  rw [Nat.div_eq_of_lt (by omega)];rfl
 have e2:x % 9223372036854775808=x:=Nat.mod_eq_of_lt (by omega);rw [e1,e2];by_cases hx:x < 4503599627370496
 ·rw [if_pos hx];refine⟨x,-1074,rfl,?_,fun h'=>by omega⟩;by_cases hz:x=0
  ·exact .inl hz
  ·have:x.log2 < 52:=(Nat.log2_lt hz).2 hx;exact .inr (by omega)
 ·rw [if_neg hx,if_pos (by omega)];have hmod:=Nat.mod_lt x (show 0 < 4503599627370496 by omega);have hne:4503599627370496+x % 4503599627370496≠0:=by omega
  have hlog:(4503599627370496+x % 4503599627370496).log2=52:=by
   have h1:=(Nat.log2_lt (k:=53) hne).2 (by omega);have h2:=(Nat.le_log2 (k:=52) hne).2 (by omega);omega
  have hq:x / 4503599627370496<=K+1023:=by
   have:=Nat.div_le_div_right (c:=4503599627370496) h;rwa [Nat.mul_div_cancel _ (by omega)]at this
  refine⟨_,_,rfl,.inr (by rw [hlog];omega),fun h'=>⟨hne,by rw [hlog];have:=Nat.div_le_div_right (c:=4503599627370496) h';omega⟩⟩
/-! ### the operations -/
theorem shl_ne {m:Nat} (hm:m≠0) (k:Nat):m <<< k≠0:=by rw [Nat.shiftLeft_eq];exact Nat.mul_ne_zero hm (Nat.ne_of_gt (Nat.two_pow_pos _))
theorem log2_add_le {a b k:Nat} (ha:a=0\/a.log2<=k) (hb:b=0\/b.log2<=k):a+b=0\/(a+b).log2<=k+1:=by
 by_cases h:a+b=0
 ·exact .inl h
 right;have l:∀c:Nat,(c=0\/c.log2<=k)->c < 2 ^ (k+1):=fun c hc=>by
  rcases hc with rfl | hc
  ·exact Nat.two_pow_pos _
  ·exact Nat.lt_of_lt_of_le Nat.lt_log2_self (Nat.pow_le_pow_right (by omega) (by omega))
 have h1:=l a ha;have h2:=l b hb;have:=(Nat.log2_lt (k:=k+2) h).2 (by rw [Nat.pow_succ];omega);omega
theorem log2_add_ge {a b:Nat} (ha:a≠0):a.log2<=(a+b).log2:=
 (Nat.le_log2 (by omega)).2 (Nat.le_trans (Nat.log2_self_le ha) (Nat.le_add_right _ _))
theorem sum_up {m n:Nat} {i j K:Int} (h1:Up m i K) (h2:Up n j K):∃t e,(Datum.number false m i).sum (.number false n j)=some (.number false t e)/\Up t e (K+1)/\(Lo m i->Lo t e):=by
 refine⟨(m <<< (i - min i j).toNat)+(n <<< (j - min i j).toNat),min i j,?_,?_,?_⟩
 ·simp only [Datum.sum,signed,Bool.false_eq_true,if_false,Bool.and_self];generalize m <<< (i - min i j).toNat=A;generalize n <<< (j - min i j).toNat=B;have e1:((A:Int)+(B:Int)).natAbs=A+B:=by omega
  have e2:decide ((A:Int)+(B:Int) < 0)=false:=decide_eq_false (by omega);rw [e1,e2];simp
 ·have a:m <<< (i - min i j).toNat=0\/(m <<< (i - min i j).toNat).log2<=(K - min i j).toNat:=by
   by_cases hm:m=0
   ·left;subst hm;simp
   ·right;rw [log2_shl hm];have:=h1.resolve_left hm;omega
  have b:n <<< (j - min i j).toNat=0\/(n <<< (j - min i j).toNat).log2<=(K - min i j).toNat:=by
   by_cases hn:n=0
   ·left;subst hn;simp
   ·right;rw [log2_shl hn];have:=h2.resolve_left hn;omega
  have hK:(m=0/\n=0)\/0<=K - min i j:=by
   by_cases hm:m=0
   ·by_cases hn:n=0
    ·exact .inl ⟨hm,hn⟩
    ·right;have:=h2.resolve_left hn;omega
   ·right;have:=h1.resolve_left hm;omega
  rcases hK with ⟨rfl,rfl⟩ | hK
  ·left;simp
  ·have c:=log2_add_le a b;generalize m <<< (i - min i j).toNat+n <<< (j - min i j).toNat=A at*;rcases c with c | c
   ·exact .inl c
   ·right;omega
 ·rintro ⟨hm,hl⟩;have hne:=shl_ne hm (i - min i j).toNat;have l1:=log2_shl hm (i - min i j).toNat;have l2:=log2_add_ge (b:=n <<< (j - min i j).toNat) hne;generalize m <<< (i - min i j).toNat=A at*;generalize n <<< (j - min i j).toNat=B at*;exact⟨by omega,by omega⟩
theorem prod_up {m n:Nat} {i j K L:Int} (h1:Up m i K) (h2:Up n j L):∃t e,(Datum.number false m i).product (.number false n j)=some (.number false t e)/\Up t e (K+L+1):=by
 refine⟨m*n,i+j,rfl,?_⟩;by_cases hm:m=0
 ·subst hm;left;simp
 by_cases hn:n=0
 ·subst hn;left;simp
 have a:=h1.resolve_left hm;have b:=h2.resolve_left hn;have:=log2_mul_le hm hn;right;omega
theorem quot_up {m n:Nat} {i j K:Int} (h1:Up m i K) (h2:n≠0):∃t e,(Datum.number false m i).quotient 54 (.number false n j)=some (.number false t e)/\Up t e (K - (j+n.log2)):=by
 refine⟨_,_,by simp only [Datum.quotient,h2,if_false];rfl,?_⟩;by_cases hm:m=0
 ·subst hm;left;simp
 have a:=h1.resolve_left hm;have hlt:(m <<< (54+n.log2 - m.log2)) / n < 2 ^ (m.log2+1+(54+n.log2 - m.log2) - n.log2):=by
  rw [Nat.div_lt_iff_lt_mul (by omega)];have p1:m <<< (54+n.log2 - m.log2) < 2 ^ (m.log2+1+(54+n.log2 - m.log2)):=by
   rw [Nat.shiftLeft_eq,Nat.pow_add];exact Nat.mul_lt_mul_of_pos_right Nat.lt_log2_self (Nat.two_pow_pos _)
  refine Nat.lt_of_lt_of_le p1 ?_;have p2:2 ^ (m.log2+1+(54+n.log2 - m.log2) - n.log2)*2 ^ n.log2<=2 ^ (m.log2+1+(54+n.log2 - m.log2) - n.log2)*n:=Nat.mul_le_mul_left _ (Nat.log2_self_le h2);rw [<-Nat.pow_add]at p2;exact Nat.le_trans (Nat.pow_le_pow_right (by omega) (by omega)) p2
 have hb:∀b:Bool,b.toNat<=1:=fun b=>by cases b<;>decide
 by_cases hz:2*((m <<< (54+n.log2 - m.log2)) / n)+((m <<< (54+n.log2 - m.log2)) % n !=0).toNat=0
 ·exact .inl hz
 ·right;have:=hb ((m <<< (54+n.log2 - m.log2)) % n !=0);have p3:=(Nat.log2_lt (k:=m.log2+1+(54+n.log2 - m.log2) - n.log2+1) hz).2 (by rw [Nat.pow_succ];omega);omega
theorem toInt_up {m:Nat} {i:Int} {K:Nat} (h:Up m i K):∃n:Nat,(Datum.number false m i).toInt .zero=some (n:Int)/\n < 2 ^ (K+1):=by
 refine⟨_,by simp only [Datum.toInt,Datum.integral,signed,Bool.false_eq_true,if_false,Nat.shiftLeft_zero];rfl,?_⟩;unfold Toward.cut;simp only [Nat.shiftLeft_eq,Nat.one_mul,Bool.toNat_false,Nat.add_zero];by_cases hm:m=0
 ·subst hm;simp;exact Nat.two_pow_pos _
 have a:=h.resolve_left hm;rw [Nat.div_lt_iff_lt_mul (Nat.two_pow_pos _),<-Nat.pow_add];have p1:m*2 ^ i.toNat < 2 ^ (m.log2+1+i.toNat):=by rw [Nat.pow_add];exact Nat.mul_lt_mul_of_pos_right Nat.lt_log2_self (Nat.two_pow_pos _)
 refine Nat.lt_of_lt_of_le p1 (Nat.pow_le_pow_right (by omega) ?_);have l1:=log2_shl hm i.toNat;rw [Nat.shiftLeft_eq]at l1;rw [l1];omega
end Go.Proofs.YtjpojeapdgjbhaaGreatDoor.Flt

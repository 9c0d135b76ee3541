/- part -/
import Derived.Test.YthmdhlopeponcaaGreatDoorK7
namespace Go.Proofs.YthmdhlopeponcaaGreatDoor.Dec
def dch (n:Nat):UInt8:=UInt8.ofNat (48+n % 10)
theorem dch_toNat (n:Nat):(dch n).toNat=48+n % 10:=by
 unfold dch;rw [UInt8.toNat_ofNat'];omega
theorem dch_mod (n:Nat):dch (n % 10)=dch n:=by unfold dch;rw [Nat.mod_mod]
theorem dch_zero_iff (n:Nat):dch n=48↔n % 10=0:=by
 constructor
 ·intro h;have:=dch_toNat n;rw [h]at this;simp at this;omega
 ·intro h;unfold dch;rw [h];rfl
def dec (n:Nat):List UInt8:=if _h:n < 10 then [dch n]else dec (n / 10)++ [dch n]
termination_by n
decreasing_by omega
theorem dec_lt {n:Nat} (h:n < 10):dec n= [dch n]:=by rw [dec,dif_pos h]
theorem dec_ge {n:Nat} (h:10<=n):dec n=dec (n / 10)++ [dch n]:=by rw [dec,dif_neg (by omega)]
def pad:Nat->Nat->List UInt8
 | 0,_=>[]
 | k+1,n=>pad k (n / 10)++ [dch n]
theorem pad_len:∀k n,(pad k n).length=k
 | 0,_=>rfl
 | k+1,n=>by rw [pad,List.length_append,pad_len k];rfl
theorem pad_add:∀ (b a n:Nat),pad (a+b) n=pad a (n / 10 ^ b)++pad b (n % 10 ^ b)
 | 0,a,n=>by simp [pad]
 | b+1,a,n=>by
   rw [<-Nat.add_assoc,pad,pad_add b a (n / 10),pad,<-List.append_assoc];have e1:n / 10 / 10 ^ b=n / 10 ^ (b+1):=(by rw [Nat.div_div_eq_div_mul,Nat.pow_succ,Nat.mul_comm]);have e2:n % 10 ^ (b+1) / 10=n / 10 % 10 ^ b:=(by rw [Nat.pow_succ,Nat.mul_comm,Nat.mod_mul_right_div_self]);have e3:dch (n % 10 ^ (b+1))=dch n:=by
    rw [<-dch_mod,Nat.mod_mod_of_dvd _ ⟨10 ^ b,by rw [Nat.pow_succ,Nat.mul_comm]⟩,dch_mod]
   rw [e1,e2,e3]
def drop0 (l:List UInt8):List UInt8:=l.dropWhile (· ==48)
theorem drop0_append_ne {l r:List UInt8} (h:drop0 l≠ []):drop0 (l++r)=drop0 l++r:=by
 unfold drop0 at*;induction l with
 | nil=>simp at h
 | cons x l ih=>
   rw [List.cons_append,List.dropWhile_cons,List.dropWhile_cons];by_cases hx:(x==48)=true
   ·rw [if_pos hx,if_pos hx];rw [List.dropWhile_cons,if_pos hx]at h;exact ih h
   ·rw [if_neg hx,if_neg hx];rfl
theorem drop0_append_nil {l r:List UInt8} (h:drop0 l= []):drop0 (l++r)=drop0 r:=by
 unfold drop0 at*;induction l with
 | nil=>rfl
 | cons x l ih=>
   rw [List.dropWhile_cons]at h;by_cases hx:(x==48)=true
   ·rw [if_pos hx]at h;rw [List.cons_append,List.dropWhile_cons,if_pos hx];exact ih h
   ·rw [if_neg hx]at h;simp at h
theorem dec_ne_nil (n:Nat):dec n≠ []:=by
 by_cases h:n < 10
 ·rw [dec_lt h];simp
 ·rw [dec_ge (by omega)];simp
theorem drop0_pad:∀ {k n:Nat},n < 10 ^ k->drop0 (pad k n)=if n=0 then []else dec n
 | 0,n,h=>by
   have:n=0:=(by simpa using h);subst this;rfl
 | k+1,n,h=>by
   have ih:=drop0_pad (k:=k) (n:=n / 10) (by rw [Nat.pow_succ]at h;omega);rw [pad];by_cases h0:n / 10=0
   ·rw [if_pos h0]at ih;rw [drop0_append_nil ih];by_cases hn:n=0
    ·subst hn;rfl
    ·rw [if_neg hn,dec_lt (by omega)];unfold drop0;rw [List.dropWhile_cons,if_neg];simp only [beq_iff_eq,dch_zero_iff];omega
   ·rw [if_neg h0]at ih;rw [drop0_append_ne (by rw [ih];exact dec_ne_nil _),ih,if_neg (by omega),dec_ge (n:=n) (by omega)]
def isDig (c:UInt8):Bool:=decide (48<=c.toNat) && decide (c.toNat<=57)
theorem isDig_dch (n:Nat):isDig (dch n)=true:=by
 unfold isDig;rw [dch_toNat];simp;omega
def val (l:List UInt8):Nat:=l.foldl (fun a c=>10*a+(c.toNat - 48)) 0
theorem rind {α:Type} {P:List α->Prop} (h0:P []) (hs:∀l a,P l->P (l++ [a])) (l:List α):P l:=by
 rw [<-List.reverse_reverse l];induction l.reverse with
 | nil=>exact h0
 | cons a r ih=>rw [List.reverse_cons];exact hs _ _ ih
theorem val_nil:val []=0:=rfl
theorem val_snoc (l:List UInt8) (c:UInt8):val (l++ [c])=10*val l+(c.toNat - 48):=by
 unfold val;rw [List.foldl_append];rfl
theorem val_dec (n:Nat):val (dec n)=n:=by
 induction n using Nat.strongRecOn with
 | _ n ih=>
   by_cases h:n < 10
   ·rw [dec_lt h];simp only [val,List.foldl_cons,List.foldl_nil,dch_toNat];omega
   ·rw [dec_ge (by omega),val_snoc,ih _ (by omega),dch_toNat];omega
theorem dec_len:∀ {k n:Nat},n < 10 ^ (k+1)->(dec n).length<=k+1
 | 0,n,h=>by rw [dec_lt (by simpa using h)];simp
 | k+1,n,h=>by
   by_cases h9:n < 10
   ·rw [dec_lt h9];simp
   ·rw [dec_ge (by omega),List.length_append,List.length_singleton];have:=dec_len (k:=k) (n:=n / 10) (by rw [Nat.pow_succ]at h;omega);omega
theorem dec_dig (n:Nat):∀c∈dec n,isDig c=true:=by
 induction n using Nat.strongRecOn with
 | _ n ih=>
   by_cases h:n < 10
   ·rw [dec_lt h];simp [isDig_dch]
   ·rw [dec_ge (by omega)];intro c hc;rcases List.mem_append.1 hc with hc | hc
    ·exact ih _ (by omega) c hc
    ·rcases List.mem_singleton.1 hc with rfl;exact isDig_dch _
def isDec (l:List UInt8):Bool:= !l.isEmpty && l.all isDig && (l.length==1 || !(l.head? ==some 48))
theorem dec_head (n:Nat) (h:n≠0):(dec n).head?≠some 48:=by
 induction n using Nat.strongRecOn with
 | _ n ih=>
   by_cases h9:n < 10
   ·rw [dec_lt h9];simp only [List.head?_cons,ne_eq,Option.some.injEq,dch_zero_iff];omega
   ·rw [dec_ge (by omega),List.head?_append];have:=ih (n / 10) (by omega) (by omega);cases e:(dec (n / 10)).head? with
    | none=>exact absurd (List.head?_eq_none_iff.1 e) (dec_ne_nil _)
    | some x=>rw [e]at this;simpa using this
theorem isDec_dec (n:Nat):isDec (dec n)=true:=by
 unfold isDec;have h1:(dec n).isEmpty=false:=by
  cases e:dec n with
  | nil=>exact absurd e (dec_ne_nil n)
  | cons=>rfl
 have h2:(dec n).all isDig=true:=List.all_eq_true.2 (dec_dig n);rw [h1,h2];by_cases h:n=0
 ·subst h;rw [dec_lt (by omega)];rfl
 ·have:=dec_head n h;simp [this]
theorem dig_back {c:UInt8} (h:isDig c=true):dch (c.toNat - 48)=c:=by
 unfold isDig at h;simp only [Bool.and_eq_true,decide_eq_true_eq]at h;apply UInt8.toNat_inj.1;rw [dch_toNat];omega
theorem val_pos:∀ {l:List UInt8},l≠ []->l.all isDig=true->l.head?≠some 48->0 < val l:=by
 intro l;induction l using rind with
 | h0=>intro h;exact absurd rfl h
 | hs l c ih=>
   intro _ hd hh;rw [val_snoc];rw [List.all_append,Bool.and_eq_true]at hd;cases l with
   | nil=>
     simp only [List.nil_append,List.head?_cons,ne_eq,Option.some.injEq]at hh;have h1:isDig c=true:=(by simpa using hd.2);unfold isDig at h1;simp only [Bool.and_eq_true,decide_eq_true_eq]at h1;have:c.toNat≠48:=fun e=>hh (UInt8.toNat_inj.1 e);omega
   | cons x l=>
     have:=ih (by simp) hd.1 (by simpa using hh);omega
theorem dec_val {l:List UInt8} (h:isDec l=true):dec (val l)=l:=by
 unfold isDec at h;simp only [Bool.and_eq_true,Bool.or_eq_true,Bool.not_eq_true',beq_iff_eq]at h;obtain ⟨⟨h1,h2⟩,h3⟩:=h;have key:∀l:List UInt8,l≠ []->l.all isDig=true->(l.length=1\/l.head?≠some 48)->dec (val l)=l:=by
  intro l;induction l using rind with
  | h0=>intro h;exact absurd rfl h
  | hs l c ih=>
    intro _ hd hh;have hd':=hd;rw [List.all_append,Bool.and_eq_true]at hd;have hc:isDig c=true:=(by simpa using hd.2);have hcb:=dig_back hc;have hcr:c.toNat - 48 < 10:=by
     unfold isDig at hc;simp only [Bool.and_eq_true,decide_eq_true_eq]at hc;omega
    rw [val_snoc];cases l with
    | nil=>simp only [val_nil,List.nil_append];rw [Nat.mul_zero,Nat.zero_add,dec_lt hcr,hcb]
    | cons x l=>
      have hne:(x::l).head?≠some 48:=by
       rcases hh with hh | hh
       ·simp at hh
       ·simpa using hh
      have hp:=val_pos (l:=x::l) (by simp) hd.1 hne;have ih':=ih (by simp) hd.1 (.inr hne);rw [dec_ge (by omega)];have e1:(10*val (x::l)+(c.toNat - 48)) / 10=val (x::l):=(by omega);have e2:dch (10*val (x::l)+(c.toNat - 48))=c:=by
       rw [<-dch_mod,show(10*val (x::l)+(c.toNat - 48)) % 10=c.toNat - 48 by omega,hcb]
      rw [e1,e2,ih']
 refine key l (by intro e;subst e;simp at h1) h2 ?_;rcases h3 with h3 | h3
 ·exact .inl h3
 ·refine .inr (fun e=>?_);rw [e]at h3;simp at h3
def ztext (z:Int):List UInt8:=if z < 0 then 45::dec z.natAbs else dec z.natAbs
def zread (l:List UInt8):Option Int:=
 match l with
 | 45::r=>if isDec r then some (-(val r:Int))else none
 | l=>if isDec l then some (val l)else none
theorem dec_head_ne (n:Nat) (r:List UInt8):dec n≠45::r:=by
 intro e;have:=dec_dig n 45 (by rw [e];simp);exact absurd this (by decide)
theorem zread_ztext (z:Int):zread (ztext z)=some z:=by
 unfold ztext;by_cases h:z < 0
 ·rw [if_pos h];simp only [zread,isDec_dec,if_true,val_dec];congr 1;omega
 ·rw [if_neg h];unfold zread
  split
  ·rename_i r e;exact absurd e (dec_head_ne _ _)
  ·rw [if_pos (isDec_dec _),val_dec];congr 1;omega
theorem ztext_inj {a b:Int} (h:ztext a=ztext b):a=b:=by
 have h1:=zread_ztext a;rw [h,zread_ztext b]at h1;exact(Option.some.inj h1).symm
end Go.Proofs.YthmdhlopeponcaaGreatDoor.Dec
namespace Go.Proofs.YthmdhlopeponcaaGreatDoor
open Go.RowKit Dig
end Go.Proofs.YthmdhlopeponcaaGreatDoor

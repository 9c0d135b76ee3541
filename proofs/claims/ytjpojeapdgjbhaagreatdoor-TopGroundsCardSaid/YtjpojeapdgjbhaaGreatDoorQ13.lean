/- part -/
import Derived.Test.YtjpojeapdgjbhaaGreatDoorQ7
namespace Go.Proofs.YtjpojeapdgjbhaaGreatDoor.Dec
def dch (n:Nat):UInt8:=UInt8.ofNat (48+n % 10)
theorem dch_toNat (n:Nat):(dch n).toNat=48+n % 10:=by
 unfold dch;rw [UInt8.toNat_ofNat'];omega
theorem dch_mod (n:Nat):dch (n % 10)=dch n:=by unfold dch;rw [Nat.mod_mod]
theorem dch_zero_iff (n:Nat):dch n=48↔n % 10=0:=by
 constructor
 ·intro h;have:=dch_toNat n;rw [h]at this;simp at this;omega
 ·intro h;unfold dch;rw [h];rfl
def dec (n:Nat):List UInt8:=if _h:n < 10 then [dch n]else dec (n / 10)++ [dch n]
termination_by n
decreasing_by omega
theorem dec_lt {n:Nat} (h:n < 10):dec n= [dch n]:=by rw [dec,dif_pos h]
theorem dec_ge {n:Nat} (h:10<=n):dec n=dec (n / 10)++ [dch n]:=by rw [dec,dif_neg (by omega)]
def pad:Nat->Nat->List UInt8
 | 0,_=>[]
 | k+1,n=>pad k (n / 10)++ [dch n]
theorem pad_len:∀k n,(pad k n).length=k
 | 0,_=>rfl
 | k+1,n=>by rw [pad,List.length_append,pad_len k];rfl
theorem pad_add:∀ (b a n:Nat),pad (a+b) n=pad a (n / 10 ^ b)++pad b (n % 10 ^ b)
 | 0,a,n=>by simp [pad]
 | b+1,a,n=>by
   rw [<-Nat.add_assoc,pad,pad_add b a (n / 10),pad,<-List.append_assoc];have e1:n / 10 / 10 ^ b=n / 10 ^ (b+1):=(by rw [Nat.div_div_eq_div_mul,Nat.pow_succ,Nat.mul_comm]);have e2:n % 10 ^ (b+1) / 10=n / 10 % 10 ^ b:=(by rw [Nat.pow_succ,Nat.mul_comm,Nat.mod_mul_right_div_self]);have e3:dch (n % 10 ^ (b+1))=dch n:=by
    rw [<-dch_mod,Nat.mod_mod_of_dvd _ ⟨10 ^ b,by rw [Nat.pow_succ,Nat.mul_comm]⟩,dch_mod]
   rw [e1,e2,e3]
def drop0 (l:List UInt8):List UInt8:=l.dropWhile (· ==48)
theorem drop0_append_ne {l r:List UInt8} (h:drop0 l≠ []):drop0 (l++r)=drop0 l++r:=by
 unfold drop0 at*;induction l with
 | nil=>simp at h
 | cons x l ih=>
   rw [List.cons_append,List.dropWhile_cons,List.dropWhile_cons];by_cases hx:(x==48)=true
   ·rw [if_pos hx,if_pos hx];rw [List.dropWhile_cons,if_pos hx]at h;exact ih h
   ·rw [if_neg hx,if_neg hx];rfl
theorem drop0_append_nil {l r:List UInt8} (h:drop0 l= []):drop0 (l++r)=drop0 r:=by
 unfold drop0 at*;induction l with
 | nil=>rfl
 | cons x l ih=>
   rw [List.dropWhile_cons]at h;by_cases hx:(x==48)=true
   ·rw [if_pos hx]at h;rw [List.cons_append,List.dropWhile_cons,if_pos hx];exact ih h
   ·rw [if_neg hx]at h;simp at h
theorem dec_ne_nil (n:Nat):dec n≠ []:=by
 by_cases h:n < 10
 ·rw [dec_lt h];simp
 ·rw [dec_ge (by omega)];simp
theorem drop0_pad:∀ {k n:Nat},n < 10 ^ k->drop0 (pad k n)=if n=0 then []else dec n
 | 0,n,h=>by
   have:n=0:=(by simpa using h);subst this;rfl
 | k+1,n,h=>by
   have ih:=drop0_pad (k:=k) (n:=n / 10) (by rw [Nat.pow_succ]at h;omega);rw [pad];by_cases h0:n / 10=0
   ·rw [if_pos h0]at ih;rw [drop0_append_nil ih];by_cases hn:n=0
    ·subst hn;rfl
    ·rw [if_neg hn,dec_lt (by omega)];unfold drop0;rw [List.dropWhile_cons,if_neg];simp only [beq_iff_eq,dch_zero_iff];omega
   ·rw [if_neg h0]at ih;rw [drop0_append_ne (by rw [ih];exact dec_ne_nil _),ih,if_neg (by omega),dec_ge (n:=n) (by omega)]
def val (l:List UInt8):Nat:=l.foldl (fun a c=>10*a+(c.toNat - 48)) 0
theorem dec_len:∀ {k n:Nat},n < 10 ^ (k+1)->(dec n).length<=k+1
 | 0,n,h=>by rw [dec_lt (by simpa using h)];simp
 | k+1,n,h=>by
   by_cases h9:n < 10
   ·rw [dec_lt h9];simp
   ·rw [dec_ge (by omega),List.length_append,List.length_singleton];have:=dec_len (k:=k) (n:=n / 10) (by rw [Nat.pow_succ]at h;omega);omega
def ztext (z:Int):List UInt8:=if z < 0 then 45::dec z.natAbs else dec z.natAbs
end Go.Proofs.YtjpojeapdgjbhaaGreatDoor.Dec
namespace Go.Proofs.YtjpojeapdgjbhaaGreatDoor
open Go.RowKit Dig
end Go.Proofs.YtjpojeapdgjbhaaGreatDoor

/- part -/
import Derived.Test.YtjpojeapdgjbhaaGreatDoorJ18
namespace Go.Proofs.YtjpojeapdgjbhaaGreatDoor
def topQ (y z:Rat):Rat:=if y < z then z else y
def posQ (d y z:Rat):Rat:=if 0<=y/\0<=z then(y+z)*(d*(1 / 2))else if y<=0/\z<=0 then 0 else topQ y z*topQ y z*(d*(1 / 2)) / (y - z).abs
theorem Bq.plus {n m:Nat} {a b:Rat} (h:Bq n a) (k:Bq m b):Bq (n+m+1) (a+b):=by
 rw [add_eq];refine Bq.ofInt (n:=n+m+1) (m:=n+m) ?_ (h.den.mul k.den) (Int.mul_ne_zero (den_ne _) (den_ne _)) (Nat.le_refl _) (by omega);have e1:=h.num.mul k.den;have e2:=(k.num.mul h.den).mono (m:=n+m) (by omega);unfold Bd at*;rw [Nat.pow_succ];have:=Int.natAbs_add_le (a.num*b.den) (b.num*a.den);omega
theorem Bq.minus {n m:Nat} {a b:Rat} (h:Bq n a) (k:Bq m b):Bq (n+m+1) (a - b):=by rw [Rat.sub_eq_add_neg];exact h.plus k.neg
def smQ (l:List Rat):Rat:=l.foldl (· + ·) 0
def pieceA (l:List Pt) (z:Int) (t:Int×Int):Rat:=posQ ((t.2 - t.1:Int):Rat) (grd l t.1 - (z:Rat)) (grd l t.2 - (z:Rat))
def pieceB (l:List Pt) (z:Int) (t:Int×Int):Rat:=posQ ((t.2 - t.1:Int):Rat) ((z:Rat) - grd l t.1) ((z:Rat) - grd l t.2)
def above (l:List Pt) (a b z:Int):Rat:=smQ ((pcs l a b).map (pieceA l z))
def below (l:List Pt) (a b z:Int):Rat:=smQ ((pcs l a b).map (pieceB l z))
structure Gd (q:Rat):Prop where
 num:q.num.natAbs<=60000000000
 den:q.den<=200000
 lo: -100000<=q
 hi:q<=100000
section
variable {l:List Pt}
end
theorem Gd.bq {q:Rat} (h:Gd q):Bq 36 q:=⟨by have:=h.num;unfold Bd;omega,by have:=h.den;unfold Bd;omega⟩
def dif (i k:Nat):Int:=max ((i:Int) - k) ((k:Int) - i)
structure IsLow (l:Nat->Int) (s:Int) (n i:Nat) (v:Int):Prop where
 le:∀k,k < n->v<=l k+s*dif i k
 ex:∃k,k < n/\v=l k+s*dif i k
structure Strt (l:List Pt) (a b:Int):Prop where
 ok:Prof l
 lo:hX l 0<=a
 lt:a < b
 hi:b<=hX l (l.length - 1)
section
variable {l:List Pt} {a b:Int}
def cor (l:List Pt) (a b:Int):List Int:=a::(ins l a b++ [b])
theorem Strt.pcs (h:Strt l a b):pcs l a b=nbr (cor l a b):=h.ok.pcs h.lt h.hi
end
theorem Gd.neg {q:Rat} (h:Gd q):Gd (-q):=⟨by rw [Rat.neg_num,Int.natAbs_neg];exact h.num,by rw [Rat.neg_den];exact h.den,by have:=h.hi;grind,by have:=h.lo;grind⟩
end Go.Proofs.YtjpojeapdgjbhaaGreatDoor

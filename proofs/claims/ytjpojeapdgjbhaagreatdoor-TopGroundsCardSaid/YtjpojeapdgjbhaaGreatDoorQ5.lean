/- part -/
import Derived.Test.YtjpojeapdgjbhaaGreatDoorQ3
namespace Go.Proofs.YtjpojeapdgjbhaaGreatDoor
def topQ (y z:Rat):Rat:=if y < z then z else y
def posQ (d y z:Rat):Rat:=if 0<=y/\0<=z then(y+z)*(d*(1 / 2))else if y<=0/\z<=0 then 0 else topQ y z*topQ y z*(d*(1 / 2)) / (y - z).abs
theorem rat_cut (a b:Rat):a < b\/b<=a:=by grind
theorem div_le_of {a b c:Rat} (hb:0 < b) (h:a<=c*b):a / b<=c:=by
 rcases rat_cut c (a / b)with h1 | h1
 ·have:=(Rat.lt_div_iff hb).1 h1;grind
 ·exact h1
theorem le_div_of {a b c:Rat} (hb:0 < b) (h:c*b<=a):c<=a / b:=by
 rcases rat_cut (a / b) c with h1 | h1
 ·have:=(Rat.div_lt_iff hb).1 h1;grind
 ·exact h1
theorem Bq.plus {n m:Nat} {a b:Rat} (h:Bq n a) (k:Bq m b):Bq (n+m+1) (a+b):=by
 rw [add_eq];refine Bq.ofInt (n:=n+m+1) (m:=n+m) ?_ (h.den.mul k.den) (Int.mul_ne_zero (den_ne _) (den_ne _)) (Nat.le_refl _) (by omega);have e1:=h.num.mul k.den;have e2:=(k.num.mul h.den).mono (m:=n+m) (by omega);unfold Bd at*;rw [Nat.pow_succ];have:=Int.natAbs_add_le (a.num*b.den) (b.num*a.den);omega
theorem Bq.minus {n m:Nat} {a b:Rat} (h:Bq n a) (k:Bq m b):Bq (n+m+1) (a - b):=by rw [Rat.sub_eq_add_neg];exact h.plus k.neg
def smQ (l:List Rat):Rat:=l.foldl (· + ·) 0
def pieceA (l:List Pt) (z:Int) (t:Int×Int):Rat:=posQ ((t.2 - t.1:Int):Rat) (grd l t.1 - (z:Rat)) (grd l t.2 - (z:Rat))
def pieceB (l:List Pt) (z:Int) (t:Int×Int):Rat:=posQ ((t.2 - t.1:Int):Rat) ((z:Rat) - grd l t.1) ((z:Rat) - grd l t.2)
def above (l:List Pt) (a b z:Int):Rat:=smQ ((pcs l a b).map (pieceA l z))
def below (l:List Pt) (a b z:Int):Rat:=smQ ((pcs l a b).map (pieceB l z))
structure Gd (q:Rat):Prop where
 num:q.num.natAbs<=60000000000
 den:q.den<=200000
 lo: -100000<=q
 hi:q<=100000
theorem grdI_eq (l:List Pt) (i:Nat) (x:Int) (h:hX l i < hX l (i+1)):grdI l i x=Rat.divInt (hZ l i*(hX l (i+1) - hX l i)+(hZ l (i+1) - hZ l i)*(x - hX l i)) (hX l (i+1) - hX l i):=by
 unfold grdI;have h1:=cast_ne (a:=hX l (i+1) - hX l i) (by omega);rw [Rat.divInt_eq_div];simp only [Rat.intCast_add,Rat.intCast_mul];generalize ((hX l (i+1) - hX l i:Int):Rat)=D at*;grind
theorem cast_le {a b:Int} (h:a<=b):(a:Rat)<=(b:Rat):=Rat.intCast_le_intCast.2 h
theorem cast_lt {a b:Int} (h:a < b):(a:Rat) < (b:Rat):=Rat.intCast_lt_intCast.2 h
theorem abs_mul_le {a b:Int} (c d:Nat) (h1: -(c:Int)<=a) (h2:a<=c) (h3: -(d:Int)<=b) (h4:b<=d):(a*b).natAbs<=c*d:=by
 rw [Int.natAbs_mul];exact Nat.mul_le_mul (by omega) (by omega)
section
variable {l:List Pt}
theorem Prof.grdI_gd (h:Prof l) {i:Nat} {x:Int} (hi:i+1 < l.length) (h1:hX l i<=x) (h2:x<=hX l (i+1)):Gd (grdI l i x):=by
 have a1:=h.bx (i:=i) (by omega);have a2:=h.bx (i:=i+1) hi;have a3:=h.bz (i:=i) (by omega);have a4:=h.bz (i:=i+1) hi;have hu:=h.up i hi;have hD:(0:Rat) < ((hX l (i+1) - hX l i:Int):Rat):=cast_lt (a:=0) (by omega);have hx0:(0:Rat)<=((x - hX l i:Int):Rat):=cast_le (a:=0) (by omega);have hx1:((x - hX l i:Int):Rat)<=((hX l (i+1) - hX l i:Int):Rat):=cast_le (by omega);have z1:(-100000:Rat)<=((hZ l i:Int):Rat):=cast_le (a:= -100000) a3.1;have z2:((hZ l i:Int):Rat)<=100000:=cast_le (b:=100000) a3.2;have z3:(-100000:Rat)<=((hZ l (i+1):Int):Rat):=cast_le (a:= -100000) a4.1;have z4:((hZ l (i+1):Int):Rat)<=100000:=cast_le (b:=100000) a4.2;have hb: -100000<=grdI l i x/\grdI l i x<=100000:=by
  unfold grdI;rw [Rat.intCast_sub (hZ l (i+1))];generalize ((hX l (i+1) - hX l i:Int):Rat)=D at*;generalize ((x - hX l i:Int):Rat)=t at*;generalize ((hZ l i:Int):Rat)=u at*;generalize ((hZ l (i+1):Int):Rat)=v at*;have e:u+(v - u)*t / D=(u*(D - t)+v*t) / D:=by grind
  have f1:=Rat.mul_nonneg (a:=u+100000) (b:=D - t) (by grind) (by grind);have f2:=Rat.mul_nonneg (a:=v+100000) (b:=t) (by grind) (by grind);have f3:=Rat.mul_nonneg (a:=100000 - u) (b:=D - t) (by grind) (by grind);have f4:=Rat.mul_nonneg (a:=100000 - v) (b:=t) (by grind) (by grind);rw [e];exact⟨le_div_of hD (by grind),div_le_of hD (by grind)⟩
 refine⟨?_,?_,hb.1,hb.2⟩
 ·rw [grdI_eq l i x hu];refine Nat.le_trans (divInt_num_le _ _) ?_;have:=Int.natAbs_add_le (hZ l i*(hX l (i+1) - hX l i)) ((hZ l (i+1) - hZ l i)*(x - hX l i));have e1:=abs_mul_le (a:=hZ l i) (b:=hX l (i+1) - hX l i) 100000 200000 (by omega) (by omega) (by omega) (by omega);have e2:=abs_mul_le (a:=hZ l (i+1) - hZ l i) (b:=x - hX l i) 200000 200000 (by omega) (by omega) (by omega) (by omega);omega
 ·rw [grdI_eq l i x hu];have:=divInt_den_le (hZ l i*(hX l (i+1) - hX l i)+(hZ l (i+1) - hZ l i)*(x - hX l i)) (y:=hX l (i+1) - hX l i) (by omega);omega
theorem Prof.grd_gd (h:Prof l) {x:Int} (h1:hX l 0<=x) (h2:x<=hX l (l.length - 1)):Gd (grd l x):=by
 obtain ⟨a,b,c⟩:=h.sg_in h1 h2;exact h.grdI_gd a b c
end
theorem Gd.bq {q:Rat} (h:Gd q):Bq 36 q:=⟨by have:=h.num;unfold Bd;omega,by have:=h.den;unfold Bd;omega⟩
theorem sub_int (q:Rat) (z:Int):q - (z:Rat)=Rat.divInt (q.num - z*q.den) q.den:=by
 have h1:((q.den:Int):Rat)≠0:=cast_ne (by have:=q.den_nz;omega);have h2:=Rat.num_divInt_den q;rw [Rat.divInt_eq_div]at h2;rw [Rat.divInt_eq_div,Rat.intCast_sub,Rat.intCast_mul];generalize ((q.den:Int):Rat)=D at*;generalize ((q.num:Int):Rat)=N at*;grind
theorem Gd.sub {q:Rat} (h:Gd q) {z:Int} (h1: -1000000<=z) (h2:z<=1000000):Bq 38 (q - (z:Rat)):=by
 rw [sub_int];have h3:=h.num;have h4:=h.den;have:=q.den_nz;refine Bq.ofInt (n:=38) (m:=38) ?_ ?_ (by omega) (Nat.le_refl _) (Nat.le_refl _)
 ·unfold Bd;have e1:=abs_mul_le (a:=z) (b:=(q.den:Int)) 1000000 200000 (by omega) (by omega) (by omega) (by omega);have:=Int.natAbs_sub_le q.num (z*q.den);omega
 ·unfold Bd;omega
def dif (i k:Nat):Int:=max ((i:Int) - k) ((k:Int) - i)
structure IsLow (l:Nat->Int) (s:Int) (n i:Nat) (v:Int):Prop where
 le:∀k,k < n->v<=l k+s*dif i k
 ex:∃k,k < n/\v=l k+s*dif i k
def minQ (a b:Rat):Rat:=if b < a then b else a
def maxQ (a b:Rat):Rat:=if a < b then b else a
def loQ (l:List Pt) (a b:Int):Rat:=((pcs l a b).map fun t=>grd l t.2).foldl minQ (grd l a)
def hiQ (l:List Pt) (a b:Int):Rat:=((pcs l a b).map fun t=>grd l t.2).foldl maxQ (grd l a)
theorem foldl_max:∀ (qs:List Rat) (a:Rat),(a<=qs.foldl maxQ a/\∀q∈qs,q<=qs.foldl maxQ a)/\(qs.foldl maxQ a=a\/qs.foldl maxQ a∈qs)
 | [],a=>⟨⟨Rat.le_refl,fun q h=>by cases h⟩,.inl rfl⟩
 | q::qs,a=>by
   obtain ⟨⟨h1,h2⟩,h3⟩:=foldl_max qs (maxQ a q);have e1:a<=maxQ a q:=(by unfold maxQ;split<;>grind);have e2:q<=maxQ a q:=(by unfold maxQ;split<;>grind);rw [List.foldl_cons];refine⟨⟨by grind,fun x hx=>?_⟩,?_⟩
   ·rcases List.mem_cons.1 hx with rfl | hx
    ·grind
    ·exact h2 x hx
   ·rcases h3 with h3 | h3
    ·rw [h3];unfold maxQ
     split
     ·exact .inr (List.mem_cons_self ..)
     ·exact .inl rfl
    ·exact .inr (List.mem_cons_of_mem _ h3)
theorem nbr_snd:∀ (x:Int) (r:List Int),(nbr (x::r)).map (·.2)=r
 | _,[]=>rfl
 | x,y::r=>by rw [nbr,List.map_cons,nbr_snd y r]
structure Strt (l:List Pt) (a b:Int):Prop where
 ok:Prof l
 lo:hX l 0<=a
 lt:a < b
 hi:b<=hX l (l.length - 1)
section
variable {l:List Pt} {a b:Int}
def cor (l:List Pt) (a b:Int):List Int:=a::(ins l a b++ [b])
theorem Strt.pcs (h:Strt l a b):pcs l a b=nbr (cor l a b):=h.ok.pcs h.lt h.hi
theorem mem_ins {x:Int} :x∈ins l a b↔a < x/\x < b/\∃p∈l,p.x=x:=by
 unfold ins;simp only [List.mem_filter,List.mem_map,Bool.and_eq_true,decide_eq_true_eq];constructor
 ·rintro ⟨h1,h2,h3⟩;exact⟨h2,h3,h1⟩
 ·rintro ⟨h2,h3,h1⟩;exact⟨h1,h2,h3⟩
theorem mem_cor {x:Int} (h:a < b) (hx:x∈cor l a b):a<=x/\x<=b:=by
 unfold cor at hx;simp only [List.mem_cons,List.mem_append,List.not_mem_nil,or_false]at hx;rcases hx with rfl | hx | rfl
 ·omega
 ·have:=mem_ins.1 hx;omega
 ·omega
theorem Strt.gd (h:Strt l a b) {x:Int} (h1:a<=x) (h2:x<=b):Gd (grd l x):=h.ok.grd_gd (Int.le_trans h.lo h1) (Int.le_trans h2 h.hi)
theorem Strt.hi_eq (h:Strt l a b):hiQ l a b=((ins l a b++ [b]).map (grd l)).foldl maxQ (grd l a):=by
 unfold hiQ;rw [h.pcs,show(fun t:Int×Int=>grd l t.2)=grd l ∘ (fun t=>t.2)from rfl,<-List.map_map,cor,nbr_snd]
theorem Strt.hi_is (h:Strt l a b):(∀x∈cor l a b,grd l x<=hiQ l a b)/\∃x∈cor l a b,hiQ l a b=grd l x:=by
 rw [h.hi_eq];obtain ⟨⟨h1,h2⟩,h3⟩:=foldl_max ((ins l a b++ [b]).map (grd l)) (grd l a);refine⟨fun x hx=>?_,?_⟩
 ·rcases List.mem_cons.1 hx with rfl | hx
  ·exact h1
  ·exact h2 _ (List.mem_map.2 ⟨x,hx,rfl⟩)
 ·rcases h3 with h3 | h3
  ·exact⟨a,List.mem_cons_self ..,h3⟩
  ·obtain ⟨x,hx,e⟩:=List.mem_map.1 h3;exact⟨x,List.mem_cons_of_mem _ hx,e.symm⟩
theorem Strt.hi_gd (h:Strt l a b):Gd (hiQ l a b):=by
 obtain ⟨x,hx,e⟩:=h.hi_is.2;have:=mem_cor h.lt hx;rw [e];exact h.gd this.1 this.2
end
theorem cast_le_iff {a b:Int} :(a:Rat)<=(b:Rat)↔a<=b:=Rat.intCast_le_intCast
theorem Gd.floor {q:Rat} (h:Gd q): -100000<=q.floor/\q.floor<=100000:=by
 have h1:(((-100000:Int)):Rat)<=q:=h.lo;have h2:q<=((100000:Int):Rat):=h.hi;refine⟨Rat.le_floor_iff.2 h1,?_⟩;exact cast_le_iff.1 (Rat.le_trans (Rat.floor_le q) h2)
theorem Gd.ceil {q:Rat} (h:Gd q): -100000<=q.ceil/\q.ceil<=100000:=by
 have h1:(((-100000:Int)):Rat)<=q:=h.lo;have h2:q<=((100000:Int):Rat):=h.hi;exact⟨cast_le_iff.1 (Rat.le_trans h1 Rat.le_ceil),Rat.ceil_le_iff.2 h2⟩
theorem Gd.neg {q:Rat} (h:Gd q):Gd (-q):=⟨by rw [Rat.neg_num,Int.natAbs_neg];exact h.num,by rw [Rat.neg_den];exact h.den,by have:=h.hi;grind,by have:=h.lo;grind⟩
end Go.Proofs.YtjpojeapdgjbhaaGreatDoor

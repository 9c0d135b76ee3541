/- part -/
import Derived.Test.YthmdhlopeponcaaGreatDoorK3
namespace Go.Proofs.YthmdhlopeponcaaGreatDoor
def topQ (y z:Rat):Rat:=if y < z then z else y
def posQ (d y z:Rat):Rat:=if 0<=y/\0<=z then(y+z)*(d*(1 / 2))else if y<=0/\z<=0 then 0 else topQ y z*topQ y z*(d*(1 / 2)) / (y - z).abs
def refPos (d p q:Rat):Rat:=
 if sgnQ p*sgnQ q < 0 then(if sgnQ p > 0 then p*(p / (p - q))*d / 2 else q*(1 - p / (p - q))*d / 2)
 else if sgnQ p > 0\/sgnQ q > 0 then(p+q)*d / 2 else 0
theorem rat_cut (a b:Rat):a < b\/b<=a:=by grind
theorem rat_tri (a b:Rat):a < b\/a=b\/b < a:=by grind
theorem sgnQ_pos {q:Rat} :0 < sgnQ q↔0 < q:=by
 unfold sgnQ
 split
 ·rename_i h;subst h;simp
 ·split<;>simp<;>grind
theorem sgnQ_neg {q:Rat} :sgnQ q < 0↔q < 0:=by
 unfold sgnQ
 split
 ·rename_i h;subst h;simp
 ·split<;>simp<;>grind
theorem sgnQ_zero {q:Rat} :sgnQ q=0↔q=0:=by
 unfold sgnQ
 split
 ·rename_i h;simp [h]
 ·rename_i h;split<;>simp [h]
theorem sgn_mul_neg {p q:Rat} :sgnQ p*sgnQ q < 0↔(0 < p/\q < 0)\/(p < 0/\0 < q):=by
 have a:=@sgnQ_pos p;have b:=@sgnQ_neg p;have c:=@sgnQ_pos q;have d:=@sgnQ_neg q;rw [<-a,<-b,<-c,<-d];constructor
 ·intro h;rcases Int.lt_trichotomy (sgnQ p) 0 with h1 | h1 | h1
  ·right;exact⟨h1,by rcases Int.lt_or_le 0 (sgnQ q)with h2 | h2;exact h2;have:=Int.mul_nonneg_of_nonpos_of_nonpos (Int.le_of_lt h1) h2;omega⟩
  ·rw [h1]at h;simp at h
  ·left;exact⟨h1,by rcases Int.lt_or_le (sgnQ q) 0 with h2 | h2;exact h2;have:=Int.mul_nonneg (Int.le_of_lt h1) h2;omega⟩
 ·rintro (⟨h1,h2⟩ | ⟨h1,h2⟩)
  ·exact Int.mul_neg_of_pos_of_neg h1 h2
  ·exact Int.mul_neg_of_neg_of_pos h1 h2
theorem posQ_pp {d y z:Rat} (h1:0<=y) (h2:0<=z):posQ d y z=(y+z)*(d*(1 / 2)):=if_pos ⟨h1,h2⟩
theorem posQ_nn {d y z:Rat} (h1:y<=0) (h2:z<=0):posQ d y z=0:=by
 unfold posQ
 split
 ·rename_i h;rw [show y=0 by grind,show z=0 by grind];grind
 ·rw [if_pos ⟨h1,h2⟩]
theorem posQ_pn {d y z:Rat} (h1:0 < y) (h2:z < 0):posQ d y z=y*y*(d*(1 / 2)) / (y - z):=by
 unfold posQ;rw [if_neg (by grind),if_neg (by grind)];rw [show topQ y z=y by unfold topQ;rw [if_neg (by grind)],show(y - z).abs=y - z by unfold Rat.abs;rw [if_pos (by grind)]]
theorem posQ_np {d y z:Rat} (h1:y < 0) (h2:0 < z):posQ d y z=z*z*(d*(1 / 2)) / (z - y):=by
 unfold posQ;rw [if_neg (by grind),if_neg (by grind)];rw [show topQ y z=z by unfold topQ;rw [if_pos (by grind)],show(y - z).abs=z - y by unfold Rat.abs;rw [if_neg (by grind)];grind]
theorem refPos_eq (d p q:Rat):refPos d p q=posQ d p q:=by
 unfold refPos
 split
 ·rename_i h;rcases sgn_mul_neg.1 h with ⟨h1,h2⟩ | ⟨h1,h2⟩
  ·rw [if_pos (sgnQ_pos.2 h1),posQ_pn h1 h2];grind
  ·have:¬ sgnQ p > 0:=(by have:=sgnQ_neg.2 h1;omega);rw [if_neg this,posQ_np h1 h2];grind
 ·rename_i h;rw [sgn_mul_neg]at h
  split
  ·rename_i h3;rw [show(sgnQ p > 0)=(0 < p)from propext sgnQ_pos,show(sgnQ q > 0)=(0 < q)from propext sgnQ_pos]at h3;rw [posQ_pp (by grind) (by grind)];grind
  ·rename_i h3;rw [show(sgnQ p > 0)=(0 < p)from propext sgnQ_pos,show(sgnQ q > 0)=(0 < q)from propext sgnQ_pos]at h3;rw [posQ_nn (by grind) (by grind)]
theorem div_le_of {a b c:Rat} (hb:0 < b) (h:a<=c*b):a / b<=c:=by
 rcases rat_cut c (a / b)with h1 | h1
 ·have:=(Rat.lt_div_iff hb).1 h1;grind
 ·exact h1
theorem le_div_of {a b c:Rat} (hb:0 < b) (h:c*b<=a):c<=a / b:=by
 rcases rat_cut (a / b) c with h1 | h1
 ·have:=(Rat.div_lt_iff hb).1 h1;grind
 ·exact h1
theorem posQ_nonneg {d y z:Rat} (hd:0<=d):0<=posQ d y z:=by
 have hh:0<=d*(1 / 2):=by grind
 rcases rat_tri y 0 with h1 | h1 | h1<;>rcases rat_tri z 0 with h2 | h2 | h2
 ·rw [posQ_nn (by grind) (by grind)];grind
 ·rw [posQ_nn (by grind) (by grind)];grind
 ·rw [posQ_np h1 h2];exact le_div_of (by grind) (by rw [Rat.zero_mul];exact Rat.mul_nonneg (Rat.mul_nonneg (by grind) (by grind)) hh)
 ·rw [posQ_nn (by grind) (by grind)];grind
 ·rw [posQ_nn (by grind) (by grind)];grind
 ·rw [posQ_pp (by grind) (by grind)];exact Rat.mul_nonneg (by grind) hh
 ·rw [posQ_pn h1 h2];exact le_div_of (by grind) (by rw [Rat.zero_mul];exact Rat.mul_nonneg (Rat.mul_nonneg (by grind) (by grind)) hh)
 ·rw [posQ_pp (by grind) (by grind)];exact Rat.mul_nonneg (by grind) hh
 ·rw [posQ_pp (by grind) (by grind)];exact Rat.mul_nonneg (by grind) hh
theorem posQ_swap (d y z:Rat):posQ d y z=posQ d z y:=by
 rcases rat_tri y 0 with h1 | h1 | h1<;>rcases rat_tri z 0 with h2 | h2 | h2
 ·rw [posQ_nn (by grind) (by grind),posQ_nn (by grind) (by grind)]
 ·rw [posQ_nn (by grind) (by grind),posQ_nn (by grind) (by grind)]
 ·rw [posQ_np h1 h2,posQ_pn h2 h1]
 ·rw [posQ_nn (by grind) (by grind),posQ_nn (by grind) (by grind)]
 ·rw [h1,h2]
 ·rw [posQ_pp (by grind) (by grind),posQ_pp (by grind) (by grind)];grind
 ·rw [posQ_pn h1 h2,posQ_np h2 h1]
 ·rw [posQ_pp (by grind) (by grind),posQ_pp (by grind) (by grind)];grind
 ·rw [posQ_pp (by grind) (by grind),posQ_pp (by grind) (by grind)];grind
theorem posQ_mono1 {d y z y':Rat} (hd:0<=d) (h:y<=y'):posQ d y z<=posQ d y' z:=by
 have hh:0<=d*(1 / 2):=by grind
 generalize hH:d*(1 / 2)=H at*;rcases rat_cut z 0 with hz | hz
 ·rcases rat_cut 0 y with hy | hy
  ·rw [posQ_pn hy hz,posQ_pn (by grind) hz,hH];refine div_le_of (by grind) ?_;rw [show y'*y'*H / (y' - z)*(y - z)=(y'*y'*H*(y - z)) / (y' - z)by grind];refine le_div_of (by grind) ?_;have e1:0<=H*(y*y'*(y' - y)):=Rat.mul_nonneg hh (Rat.mul_nonneg (Rat.mul_nonneg (by grind) (by grind)) (by grind));have e2:0<=H*((y' - y)*(y'+y)*(-z)):=Rat.mul_nonneg hh (Rat.mul_nonneg (Rat.mul_nonneg (by grind) (by grind)) (by grind));grind
  ·rw [posQ_nn hy (by grind)];exact posQ_nonneg hd
 ·rcases rat_cut y 0 with hy | hy
  ·rcases rat_cut 0 z with hz0 | hz0
   ·rw [posQ_np hy hz0,hH];rcases rat_cut y' 0 with hy' | hy'
    ·rw [posQ_np hy' hz0,hH];refine div_le_of (by grind) ?_;rw [show z*z*H / (z - y')*(z - y)=(z*z*H*(z - y)) / (z - y')by grind];refine le_div_of (by grind) ?_;have e1:0<=H*(z*z*(y' - y)):=Rat.mul_nonneg hh (Rat.mul_nonneg (Rat.mul_nonneg (by grind) (by grind)) (by grind));grind
    ·rw [posQ_pp hy' hz,hH];refine div_le_of (by grind) ?_;have e1:0<=H*(y'*(z - y)):=Rat.mul_nonneg hh (Rat.mul_nonneg (by grind) (by grind));have e2:0<=H*(z*(-y)):=Rat.mul_nonneg hh (Rat.mul_nonneg (by grind) (by grind));grind
   ·rw [posQ_nn (by grind) hz0];exact posQ_nonneg hd
  ·rw [posQ_pp hy hz,posQ_pp (by grind) hz,hH];have e1:0<=H*(y' - y):=Rat.mul_nonneg hh (by grind);grind
theorem posQ_mono {d y z y' z':Rat} (hd:0<=d) (h:y<=y') (h2:z<=z'):posQ d y z<=posQ d y' z':=by
 refine Rat.le_trans (posQ_mono1 hd h) ?_;rw [posQ_swap d y' z,posQ_swap d y' z'];exact posQ_mono1 hd h2
theorem Bq.plus {n m:Nat} {a b:Rat} (h:Bq n a) (k:Bq m b):Bq (n+m+1) (a+b):=by
 rw [add_eq];refine Bq.ofInt (n:=n+m+1) (m:=n+m) ?_ (h.den.mul k.den) (Int.mul_ne_zero (den_ne _) (den_ne _)) (Nat.le_refl _) (by omega);have e1:=h.num.mul k.den;have e2:=(k.num.mul h.den).mono (m:=n+m) (by omega);unfold Bd at*;rw [Nat.pow_succ];have:=Int.natAbs_add_le (a.num*b.den) (b.num*a.den);omega
theorem Bq.minus {n m:Nat} {a b:Rat} (h:Bq n a) (k:Bq m b):Bq (n+m+1) (a - b):=by rw [Rat.sub_eq_add_neg];exact h.plus k.neg
def smQ (l:List Rat):Rat:=l.foldl (· + ·) 0
theorem smQ_foldl (l:List Rat) (a:Rat):l.foldl (· + ·) a=a+smQ l:=by
 induction l generalizing a with
 | nil=>simp [smQ,Rat.add_zero]
 | cons x l ih=>unfold smQ;rw [List.foldl_cons,List.foldl_cons,ih,ih (0+x),Rat.zero_add];grind
theorem smQ_nil:smQ []=0:=rfl
theorem smQ_cons (a:Rat) (l:List Rat):smQ (a::l)=a+smQ l:=by unfold smQ;rw [List.foldl_cons,smQ_foldl,Rat.zero_add];rfl
theorem smQ_app (l k:List Rat):smQ (l++k)=smQ l+smQ k:=by
 induction l with
 | nil=>rw [List.nil_append,smQ_nil,Rat.zero_add]
 | cons a l ih=>rw [List.cons_append,smQ_cons,smQ_cons,ih];grind
theorem smQ_snoc (l:List Rat) (a:Rat):smQ (l++ [a])=smQ l+a:=by rw [smQ_app,smQ_cons,smQ_nil,Rat.add_zero]
theorem smQ_mono {α:Type} {f g:α->Rat} :∀ {l:List α},(∀x∈l,f x<=g x)->smQ (l.map f)<=smQ (l.map g)
 | [],_=>by grind
 | x::l,h=>by
   have h1:=h x (List.mem_cons_self ..);have h2:=smQ_mono (l:=l) (f:=f) (g:=g) (fun y hy=>h y (List.mem_cons_of_mem _ hy));simp only [List.map_cons,smQ_cons];grind
theorem smQ_bq {N:Nat} :∀ {l:List Rat},(∀q∈l,Bq N q)->Bq (l.length*(N+1)+1) (smQ l)
 | [],_=>by rw [smQ_nil];exact Bq.zero
 | q::l,h=>by
   have h1:=h q (List.mem_cons_self ..);have h2:=smQ_bq (l:=l) (fun y hy=>h y (List.mem_cons_of_mem _ hy));rw [smQ_cons,List.length_cons,Nat.succ_mul];exact(h1.plus h2).mono (by omega)
def pieceA (l:List Pt) (z:Int) (t:Int×Int):Rat:=posQ ((t.2 - t.1:Int):Rat) (grd l t.1 - (z:Rat)) (grd l t.2 - (z:Rat))
def pieceB (l:List Pt) (z:Int) (t:Int×Int):Rat:=posQ ((t.2 - t.1:Int):Rat) ((z:Rat) - grd l t.1) ((z:Rat) - grd l t.2)
def above (l:List Pt) (a b z:Int):Rat:=smQ ((pcs l a b).map (pieceA l z))
def below (l:List Pt) (a b z:Int):Rat:=smQ ((pcs l a b).map (pieceB l z))
structure Gd (q:Rat):Prop where
 num:q.num.natAbs<=60000000000
 den:q.den<=200000
 lo: -100000<=q
 hi:q<=100000
theorem grdI_eq (l:List Pt) (i:Nat) (x:Int) (h:hX l i < hX l (i+1)):grdI l i x=Rat.divInt (hZ l i*(hX l (i+1) - hX l i)+(hZ l (i+1) - hZ l i)*(x - hX l i)) (hX l (i+1) - hX l i):=by
 unfold grdI;have h1:=cast_ne (a:=hX l (i+1) - hX l i) (by omega);rw [Rat.divInt_eq_div];simp only [Rat.intCast_add,Rat.intCast_mul];generalize ((hX l (i+1) - hX l i:Int):Rat)=D at*;grind
theorem cast_le {a b:Int} (h:a<=b):(a:Rat)<=(b:Rat):=Rat.intCast_le_intCast.2 h
theorem cast_lt {a b:Int} (h:a < b):(a:Rat) < (b:Rat):=Rat.intCast_lt_intCast.2 h
theorem abs_mul_le {a b:Int} (c d:Nat) (h1: -(c:Int)<=a) (h2:a<=c) (h3: -(d:Int)<=b) (h4:b<=d):(a*b).natAbs<=c*d:=by
 rw [Int.natAbs_mul];exact Nat.mul_le_mul (by omega) (by omega)
section
variable {l:List Pt}
theorem Prof.grdI_gd (h:Prof l) {i:Nat} {x:Int} (hi:i+1 < l.length) (h1:hX l i<=x) (h2:x<=hX l (i+1)):Gd (grdI l i x):=by
 have a1:=h.bx (i:=i) (by omega);have a2:=h.bx (i:=i+1) hi;have a3:=h.bz (i:=i) (by omega);have a4:=h.bz (i:=i+1) hi;have hu:=h.up i hi;have hD:(0:Rat) < ((hX l (i+1) - hX l i:Int):Rat):=cast_lt (a:=0) (by omega);have hx0:(0:Rat)<=((x - hX l i:Int):Rat):=cast_le (a:=0) (by omega);have hx1:((x - hX l i:Int):Rat)<=((hX l (i+1) - hX l i:Int):Rat):=cast_le (by omega);have z1:(-100000:Rat)<=((hZ l i:Int):Rat):=cast_le (a:= -100000) a3.1;have z2:((hZ l i:Int):Rat)<=100000:=cast_le (b:=100000) a3.2;have z3:(-100000:Rat)<=((hZ l (i+1):Int):Rat):=cast_le (a:= -100000) a4.1;have z4:((hZ l (i+1):Int):Rat)<=100000:=cast_le (b:=100000) a4.2;have hb: -100000<=grdI l i x/\grdI l i x<=100000:=by
  unfold grdI;rw [Rat.intCast_sub (hZ l (i+1))];generalize ((hX l (i+1) - hX l i:Int):Rat)=D at*;generalize ((x - hX l i:Int):Rat)=t at*;generalize ((hZ l i:Int):Rat)=u at*;generalize ((hZ l (i+1):Int):Rat)=v at*;have e:u+(v - u)*t / D=(u*(D - t)+v*t) / D:=by grind
  have f1:=Rat.mul_nonneg (a:=u+100000) (b:=D - t) (by grind) (by grind);have f2:=Rat.mul_nonneg (a:=v+100000) (b:=t) (by grind) (by grind);have f3:=Rat.mul_nonneg (a:=100000 - u) (b:=D - t) (by grind) (by grind);have f4:=Rat.mul_nonneg (a:=100000 - v) (b:=t) (by grind) (by grind);rw [e];exact⟨le_div_of hD (by grind),div_le_of hD (by grind)⟩
 refine⟨?_,?_,hb.1,hb.2⟩
 ·rw [grdI_eq l i x hu];refine Nat.le_trans (divInt_num_le _ _) ?_;have:=Int.natAbs_add_le (hZ l i*(hX l (i+1) - hX l i)) ((hZ l (i+1) - hZ l i)*(x - hX l i));have e1:=abs_mul_le (a:=hZ l i) (b:=hX l (i+1) - hX l i) 100000 200000 (by omega) (by omega) (by omega) (by omega);have e2:=abs_mul_le (a:=hZ l (i+1) - hZ l i) (b:=x - hX l i) 200000 200000 (by omega) (by omega) (by omega) (by omega);omega
 ·rw [grdI_eq l i x hu];have:=divInt_den_le (hZ l i*(hX l (i+1) - hX l i)+(hZ l (i+1) - hZ l i)*(x - hX l i)) (y:=hX l (i+1) - hX l i) (by omega);omega
theorem Prof.grd_gd (h:Prof l) {x:Int} (h1:hX l 0<=x) (h2:x<=hX l (l.length - 1)):Gd (grd l x):=by
 obtain ⟨a,b,c⟩:=h.sg_in h1 h2;exact h.grdI_gd a b c
end
theorem Gd.bq {q:Rat} (h:Gd q):Bq 36 q:=⟨by have:=h.num;unfold Bd;omega,by have:=h.den;unfold Bd;omega⟩
theorem sub_int (q:Rat) (z:Int):q - (z:Rat)=Rat.divInt (q.num - z*q.den) q.den:=by
 have h1:((q.den:Int):Rat)≠0:=cast_ne (by have:=q.den_nz;omega);have h2:=Rat.num_divInt_den q;rw [Rat.divInt_eq_div]at h2;rw [Rat.divInt_eq_div,Rat.intCast_sub,Rat.intCast_mul];generalize ((q.den:Int):Rat)=D at*;generalize ((q.num:Int):Rat)=N at*;grind
theorem Gd.sub {q:Rat} (h:Gd q) {z:Int} (h1: -1000000<=z) (h2:z<=1000000):Bq 38 (q - (z:Rat)):=by
 rw [sub_int];have h3:=h.num;have h4:=h.den;have:=q.den_nz;refine Bq.ofInt (n:=38) (m:=38) ?_ ?_ (by omega) (Nat.le_refl _) (Nat.le_refl _)
 ·unfold Bd;have e1:=abs_mul_le (a:=z) (b:=(q.den:Int)) 1000000 200000 (by omega) (by omega) (by omega) (by omega);have:=Int.natAbs_sub_le q.num (z*q.den);omega
 ·unfold Bd;omega
theorem Gd.sub' {q:Rat} (h:Gd q) {z:Int} (h1: -1000000<=z) (h2:z<=1000000):Bq 38 ((z:Rat) - q):=by
 rw [show(z:Rat) - q= -(q - (z:Rat))by grind];exact(h.sub h1 h2).neg
theorem half_bq:Bq 2 (1 / 2):=by
 have e:Rat.divInt 1 2=1 / 2:=Rat.divInt_eq_div 1 2;rw [<-e];exact Bq.ofInt (n:=2) (m:=2) (by unfold Bd;decide) (by unfold Bd;decide) (by decide) (by omega) (by omega)
theorem posQ_bq {d y z:Rat} (hd:Bq 19 d) (hy:Bq 38 y) (hz:Bq 38 z):Bq 174 (posQ d y z):=by
 unfold posQ
 split
 ·exact((hy.plus hz).mul (hd.mul half_bq)).mono (by omega)
 ·rename_i h1
  split
  ·exact(Bq.zero (n:=0)).mono (by omega)
  ·rename_i h2;have ht:Bq 38 (topQ y z):=(by unfold topQ;split<;>assumption);have ha:Bq 77 (y - z).abs:=by
    unfold Rat.abs
    split
    ·exact hy.minus hz
    ·exact(hy.minus hz).neg
   have hne:(y - z).abs≠0:=by
    unfold Rat.abs
    split<;>grind
   exact((ht.mul ht).mul (hd.mul half_bq)).div ha hne
def dif (i k:Nat):Int:=max ((i:Int) - k) ((k:Int) - i)
structure IsLow (l:Nat->Int) (s:Int) (n i:Nat) (v:Int):Prop where
 le:∀k,k < n->v<=l k+s*dif i k
 ex:∃k,k < n/\v=l k+s*dif i k
def minQ (a b:Rat):Rat:=if b < a then b else a
def maxQ (a b:Rat):Rat:=if a < b then b else a
def loQ (l:List Pt) (a b:Int):Rat:=((pcs l a b).map fun t=>grd l t.2).foldl minQ (grd l a)
def hiQ (l:List Pt) (a b:Int):Rat:=((pcs l a b).map fun t=>grd l t.2).foldl maxQ (grd l a)
theorem foldl_min:∀ (qs:List Rat) (a:Rat),(qs.foldl minQ a<=a/\∀q∈qs,qs.foldl minQ a<=q)/\(qs.foldl minQ a=a\/qs.foldl minQ a∈qs)
 | [],a=>⟨⟨Rat.le_refl,fun q h=>by cases h⟩,.inl rfl⟩
 | q::qs,a=>by
   obtain ⟨⟨h1,h2⟩,h3⟩:=foldl_min qs (minQ a q);have e1:minQ a q<=a:=(by unfold minQ;split<;>grind);have e2:minQ a q<=q:=(by unfold minQ;split<;>grind);rw [List.foldl_cons];refine⟨⟨by grind,fun x hx=>?_⟩,?_⟩
   ·rcases List.mem_cons.1 hx with rfl | hx
    ·grind
    ·exact h2 x hx
   ·rcases h3 with h3 | h3
    ·rw [h3];unfold minQ
     split
     ·exact .inr (List.mem_cons_self ..)
     ·exact .inl rfl
    ·exact .inr (List.mem_cons_of_mem _ h3)
theorem foldl_max:∀ (qs:List Rat) (a:Rat),(a<=qs.foldl maxQ a/\∀q∈qs,q<=qs.foldl maxQ a)/\(qs.foldl maxQ a=a\/qs.foldl maxQ a∈qs)
 | [],a=>⟨⟨Rat.le_refl,fun q h=>by cases h⟩,.inl rfl⟩
 | q::qs,a=>by
   obtain ⟨⟨h1,h2⟩,h3⟩:=foldl_max qs (maxQ a q);have e1:a<=maxQ a q:=(by unfold maxQ;split<;>grind);have e2:q<=maxQ a q:=(by unfold maxQ;split<;>grind);rw [List.foldl_cons];refine⟨⟨by grind,fun x hx=>?_⟩,?_⟩
   ·rcases List.mem_cons.1 hx with rfl | hx
    ·grind
    ·exact h2 x hx
   ·rcases h3 with h3 | h3
    ·rw [h3];unfold maxQ
     split
     ·exact .inr (List.mem_cons_self ..)
     ·exact .inl rfl
    ·exact .inr (List.mem_cons_of_mem _ h3)
theorem nbr_snd:∀ (x:Int) (r:List Int),(nbr (x::r)).map (·.2)=r
 | _,[]=>rfl
 | x,y::r=>by rw [nbr,List.map_cons,nbr_snd y r]
structure Strt (l:List Pt) (a b:Int):Prop where
 ok:Prof l
 lo:hX l 0<=a
 lt:a < b
 hi:b<=hX l (l.length - 1)
section
variable {l:List Pt} {a b:Int}
def cor (l:List Pt) (a b:Int):List Int:=a::(ins l a b++ [b])
theorem Strt.pcs (h:Strt l a b):pcs l a b=nbr (cor l a b):=h.ok.pcs h.lt h.hi
theorem mem_ins {x:Int} :x∈ins l a b↔a < x/\x < b/\∃p∈l,p.x=x:=by
 unfold ins;simp only [List.mem_filter,List.mem_map,Bool.and_eq_true,decide_eq_true_eq];constructor
 ·rintro ⟨h1,h2,h3⟩;exact⟨h2,h3,h1⟩
 ·rintro ⟨h2,h3,h1⟩;exact⟨h1,h2,h3⟩
theorem mem_cor {x:Int} (h:a < b) (hx:x∈cor l a b):a<=x/\x<=b:=by
 unfold cor at hx;simp only [List.mem_cons,List.mem_append,List.not_mem_nil,or_false]at hx;rcases hx with rfl | hx | rfl
 ·omega
 ·have:=mem_ins.1 hx;omega
 ·omega
theorem Strt.gd (h:Strt l a b) {x:Int} (h1:a<=x) (h2:x<=b):Gd (grd l x):=h.ok.grd_gd (Int.le_trans h.lo h1) (Int.le_trans h2 h.hi)
theorem Strt.lo_eq (h:Strt l a b):loQ l a b=((ins l a b++ [b]).map (grd l)).foldl minQ (grd l a):=by
 unfold loQ;rw [h.pcs,show(fun t:Int×Int=>grd l t.2)=grd l ∘ (fun t=>t.2)from rfl,<-List.map_map,cor,nbr_snd]
theorem Strt.hi_eq (h:Strt l a b):hiQ l a b=((ins l a b++ [b]).map (grd l)).foldl maxQ (grd l a):=by
 unfold hiQ;rw [h.pcs,show(fun t:Int×Int=>grd l t.2)=grd l ∘ (fun t=>t.2)from rfl,<-List.map_map,cor,nbr_snd]
theorem Strt.lo_is (h:Strt l a b):(∀x∈cor l a b,loQ l a b<=grd l x)/\∃x∈cor l a b,loQ l a b=grd l x:=by
 rw [h.lo_eq];obtain ⟨⟨h1,h2⟩,h3⟩:=foldl_min ((ins l a b++ [b]).map (grd l)) (grd l a);refine⟨fun x hx=>?_,?_⟩
 ·rcases List.mem_cons.1 hx with rfl | hx
  ·exact h1
  ·exact h2 _ (List.mem_map.2 ⟨x,hx,rfl⟩)
 ·rcases h3 with h3 | h3
  ·exact⟨a,List.mem_cons_self ..,h3⟩
  ·obtain ⟨x,hx,e⟩:=List.mem_map.1 h3;exact⟨x,List.mem_cons_of_mem _ hx,e.symm⟩
theorem Strt.hi_is (h:Strt l a b):(∀x∈cor l a b,grd l x<=hiQ l a b)/\∃x∈cor l a b,hiQ l a b=grd l x:=by
 rw [h.hi_eq];obtain ⟨⟨h1,h2⟩,h3⟩:=foldl_max ((ins l a b++ [b]).map (grd l)) (grd l a);refine⟨fun x hx=>?_,?_⟩
 ·rcases List.mem_cons.1 hx with rfl | hx
  ·exact h1
  ·exact h2 _ (List.mem_map.2 ⟨x,hx,rfl⟩)
 ·rcases h3 with h3 | h3
  ·exact⟨a,List.mem_cons_self ..,h3⟩
  ·obtain ⟨x,hx,e⟩:=List.mem_map.1 h3;exact⟨x,List.mem_cons_of_mem _ hx,e.symm⟩
theorem Strt.lo_gd (h:Strt l a b):Gd (loQ l a b):=by
 obtain ⟨x,hx,e⟩:=h.lo_is.2;have:=mem_cor h.lt hx;rw [e];exact h.gd this.1 this.2
theorem Strt.hi_gd (h:Strt l a b):Gd (hiQ l a b):=by
 obtain ⟨x,hx,e⟩:=h.hi_is.2;have:=mem_cor h.lt hx;rw [e];exact h.gd this.1 this.2
end
theorem cast_le_iff {a b:Int} :(a:Rat)<=(b:Rat)↔a<=b:=Rat.intCast_le_intCast
theorem Gd.floor {q:Rat} (h:Gd q): -100000<=q.floor/\q.floor<=100000:=by
 have h1:(((-100000:Int)):Rat)<=q:=h.lo;have h2:q<=((100000:Int):Rat):=h.hi;refine⟨Rat.le_floor_iff.2 h1,?_⟩;exact cast_le_iff.1 (Rat.le_trans (Rat.floor_le q) h2)
theorem Gd.ceil {q:Rat} (h:Gd q): -100000<=q.ceil/\q.ceil<=100000:=by
 have h1:(((-100000:Int)):Rat)<=q:=h.lo;have h2:q<=((100000:Int):Rat):=h.hi;exact⟨cast_le_iff.1 (Rat.le_trans h1 Rat.le_ceil),Rat.ceil_le_iff.2 h2⟩
theorem Gd.neg {q:Rat} (h:Gd q):Gd (-q):=⟨by rw [Rat.neg_num,Int.natAbs_neg];exact h.num,by rw [Rat.neg_den];exact h.den,by have:=h.hi;grind,by have:=h.lo;grind⟩
def footI (l:List Pt) (a b depth:Int):Int:=(loQ l a b).floor - depth
def headI (l:List Pt) (a b height:Int):Int:=(hiQ l a b).ceil+height
end Go.Proofs.YthmdhlopeponcaaGreatDoor

/- areas over neighbouring stretches; the integral step by step (plain) -/
import Derived.Test.YthmdhlopeponcaaGreatDoorJ26
namespace Go.Proofs.YthmdhlopeponcaaGreatDoor
theorem stp_cons (b x p:Int) (r:List Int):stp b x (p::r)=if x < min p b then(x,min p b)::stp b (min p b) r else stp b x r:=rfl
theorem stp_cut {F:Int×Int→Rat} {b c:Int} (hbc:b < c):∀ (xs:List Int) (x:Int),x < b→(∀t∈stp c x xs,∀m,t.1 < m→m < t.2→F t=F (t.1,m)+F (m,t.2))→
  smQ ((stp c x xs).map F)=smQ ((stp b x xs).map F)+smQ ((stp c b xs).map F)
 | [],x,_,_=>by show smQ []=smQ [] +smQ [];rw [smQ_nil];grind
 | p::r,x,hx,hF=>by
   rw [stp_cons c x]at hF
   rw [stp_cons c x,stp_cons b x,stp_cons c b]
   by_cases h1:p≤x
   ·rw [if_neg (by omega)]at hF
    rw [if_neg (by omega),if_neg (by omega),if_neg (by omega)]
    exact stp_cut hbc r x hx hF
   ·by_cases h2:p < b
    ·rw [if_pos (by omega),show min p c=p by omega]at hF
     rw [if_pos (by omega),if_pos (by omega),if_neg (by omega),show min p c=p by omega,show min p b=p by omega]
     simp only [List.map_cons,smQ_cons]
     rw [stp_cut hbc r p h2 (fun t ht=>hF t (List.mem_cons_of_mem _ ht)),Rat.add_assoc]
    ·rw [if_pos (by omega)]at hF
     by_cases h3:p=b
     ·subst h3
      rw [if_pos (by omega),if_pos (by omega),if_neg (by omega),show min p c=p by omega,show min p p=p by omega,stp_end r]
      simp only [List.map_cons,smQ_cons,List.map_nil,smQ_nil]
      grind
     ·rw [if_pos (by omega),if_pos (by omega),if_pos (by omega),show min p b=b by omega,stp_end r]
      simp only [List.map_cons,smQ_cons,List.map_nil,smQ_nil]
      rw [hF (x,min p c) List.mem_cons_self b hx (by show b < min p c;omega)]
      dsimp only
      grind
section
variable {l:List Pt} {a b c:Int}
theorem grd_line (hP:Prof l) {i:Nat} (hi:i+1 < l.length) {x m y:Int} (h1:hX l i≤x) (h2:x < m) (h3:m < y) (h4:y≤hX l (i+1)):
  grd l m*(((m - x:Int):Rat)+((y - m:Int):Rat))=grd l x*((y - m:Int):Rat)+grd l y*((m - x:Int):Rat):=by
 rw [hP.grd_at hi h1 (by omega),hP.grd_at hi (by omega:hX l i≤m) (by omega),hP.grd_at hi (by omega:hX l i≤y) h4]
 unfold grdI
 have hne:=cast_ne (a:=hX l (i+1) - hX l i) (by omega)
 simp only [Rat.intCast_sub]at*
 grind
theorem piece_cut (hP:Prof l) {i:Nat} (hi:i+1 < l.length) {x m y:Int} (h1:hX l i≤x) (h2:x < m) (h3:m < y) (h4:y≤hX l (i+1)) (z:Int):
  pieceA l z (x,y)=pieceA l z (x,m)+pieceA l z (m,y)∧pieceB l z (x,y)=pieceB l z (x,m)+pieceB l z (m,y):=by
 have hl:=grd_line hP hi h1 h2 h3 h4
 have hd:(0:Rat) < ((m - x:Int):Rat):=cast_lt (a:=0) (by omega)
 have he:(0:Rat) < ((y - m:Int):Rat):=cast_lt (a:=0) (by omega)
 have e:((y - x:Int):Rat)=((m - x:Int):Rat)+((y - m:Int):Rat):=by rw [Rat.intCast_sub,Rat.intCast_sub,Rat.intCast_sub];grind
 unfold pieceA pieceB
 dsimp only
 rw [e]
 exact⟨posQ_cut hd he (by grind),posQ_cut hd he (by grind)⟩
theorem Strt.join (h1:Strt l a b) (h2:Strt l b c):Strt l a c:=⟨h1.ok,h1.lo,by have:=h1.lt;have:=h2.lt;omega,h2.hi⟩
theorem areas_add (h1:Strt l a b) (h2:Strt l b c) (z:Int):above l a b z+above l b c z=above l a c z∧below l a b z+below l b c z=below l a c z:=by
 have hb:=h1.lt
 have hc:=h2.lt
 have key:=h1.ok.stp_line (b:=c) 0 a (by omega) (by omega) (fun h=>absurd h (Nat.lt_irrefl 0)) (fun _=>h1.lo)
 rw [List.drop_zero]at key
 have hA:∀t∈stp c a (l.map (·.x)),∀m,t.1 < m→m < t.2→pieceA l z t=pieceA l z (t.1,m)+pieceA l z (m,t.2)∧pieceB l z t=pieceB l z (t.1,m)+pieceB l z (m,t.2):=by
  intro t ht m hm1 hm2
  obtain ⟨_,_,_,i,hi,e1,e2⟩:=key t ht
  exact piece_cut h1.ok hi e1 hm1 hm2 e2 z
 unfold above below pcs
 exact⟨(stp_cut hc _ a hb (fun t ht m x y=>(hA t ht m x y).1)).symm,(stp_cut hc _ a hb (fun t ht m x y=>(hA t ht m x y).2)).symm⟩
theorem above_nonneg (h:Strt l a b) (z:Int):0≤above l a b z:=smQ_nonneg fun q hq=>by
 obtain ⟨t,ht,rfl⟩:=List.mem_map.1 hq
 exact posQ_nonneg (cast_le (a:=0) (by have:=h.in_pcs ht;omega))
theorem below_nonneg (h:Strt l a b) (z:Int):0≤below l a b z:=smQ_nonneg fun q hq=>by
 obtain ⟨t,ht,rfl⟩:=List.mem_map.1 hq
 exact posQ_nonneg (cast_le (a:=0) (by have:=h.in_pcs ht;omega))
structure MInv (l:List Pt) (a b z:Int) (k:Nat) (x:Int) (q:Rat):Prop where
 lo:a≤x
 hi:x≤b
 pass:x=b∨∀j,j < k→hX l j≤x
 sum:q+smQ ((stp b x ((l.drop k).map (·.x))).map (pieceI l z))=integ l a b z
 bq:∃qs:List Rat,q=smQ qs∧qs.length≤k∧∀y∈qs,Bq 130 y
theorem MInv.start (h:Strt l a b) (z:Int):MInv l a b z 0 a 0:=
 ⟨Int.le_refl _,by have:=h.lt;omega,.inr fun j hj=>absurd hj (Nat.not_lt_zero j),by rw [List.drop_zero];unfold integ pcs;grind,[],rfl,Nat.le_refl _,fun y hy=>by cases hy⟩
theorem MInv.skip {z:Int} {k:Nat} {x:Int} {q:Rat} (h:MInv l a b z k x q) (hk:k < l.length) (hto:(if hX l k < b then hX l k else b)≤x):MInv l a b z (k+1) x q:=by
 refine⟨h.lo,h.hi,?_,?_,?_⟩
 ·have:=h.hi
  rcases h.pass with e | e
  ·exact .inl e
  ·by_cases hx:hX l k < b
   ·rw [if_pos hx]at hto
    refine .inr fun j hj=>?_
    rcases Nat.lt_succ_iff_lt_or_eq.1 hj with h1 | rfl
    ·exact e j h1
    ·exact hto
   ·rw [if_neg hx]at hto
    exact .inl (by omega)
 ·have hs:=h.sum
  rw [List.drop_eq_getElem_cons hk,List.map_cons,stp_cons,if_neg (by rw [←hX_at hk];have:=h.hi;split at hto<;>omega)]at hs
  exact hs
 ·obtain ⟨qs,e1,e2,e3⟩:=h.bq
  exact⟨qs,e1,by omega,e3⟩
theorem MInv.next {z:Int} {k:Nat} {x tt:Int} {q:Rat} (h:MInv l a b z k x q) (hk:k < l.length) (hto:(if hX l k < b then hX l k else b)=tt) (hlt:x < tt) (hB:Bq 130 (pieceI l z (x,tt))):
  MInv l a b z (k+1) tt (q+pieceI l z (x,tt)):=by
 have e:min (hX l k) b=tt:=by split at hto<;>omega
 refine⟨by have:=h.lo;omega,by split at hto<;>omega,?_,?_,?_⟩
 ·by_cases hx:hX l k < b
  ·rw [if_pos hx]at hto
   rcases h.pass with e1 | e1
   ·omega
   ·refine .inr fun j hj=>?_
    rcases Nat.lt_succ_iff_lt_or_eq.1 hj with h1 | rfl
    ·have:=e1 j h1;omega
    ·omega
  ·rw [if_neg hx]at hto
   exact .inl hto.symm
 ·have hs:=h.sum
  rw [List.drop_eq_getElem_cons hk,List.map_cons,stp_cons,←hX_at hk,e,if_pos hlt,List.map_cons,smQ_cons]at hs
  rw [Rat.add_assoc]
  exact hs
 ·obtain ⟨qs,e1,e2,e3⟩:=h.bq
  refine⟨qs++ [pieceI l z (x,tt)],by rw [smQ_snoc,e1],by simp;omega,fun y hy=>?_⟩
  rcases List.mem_append.1 hy with hy | hy
  ·exact e3 y hy
  ·rw [List.mem_singleton.1 hy];exact hB
theorem MInv.done {z:Int} {x:Int} {q:Rat} (hT:Strt l a b) (h:MInv l a b z l.length x q):x=b∧q=integ l a b z:=by
 refine⟨?_,?_⟩
 ·rcases h.pass with e | e
  ·exact e
  ·have:=hT.ok.two;have:=e (l.length - 1) (by omega);have:=hT.hi;have:=h.hi;omega
 ·have hs:=h.sum
  rw [List.drop_length]at hs
  simp only [List.map_nil,stp,smQ_nil]at hs
  grind
theorem MInv.bqs {z:Int} {k:Nat} {x:Int} {q:Rat} (h:MInv l a b z k x q) (hk:k≤40):Bq 5300 q:=by
 obtain ⟨qs,rfl,e2,e3⟩:=h.bq
 exact(smQ_bq e3).mono (by omega)
theorem pieceI_eq (l:List Pt) (z x tt:Int):(grd l x+grd l tt - ((2*z:Int):Rat))*(((tt - x:Int):Rat) / 2)=pieceI l z (x,tt):=by
 unfold pieceI
 dsimp only
 rw [Rat.intCast_mul,show((2:Int):Rat)=2 from rfl]
 grind
theorem strB_of (h:Strt l a b):strB l a b=true:=by
 have h0:=h.lo
 have h1:=h.lt
 have h2:=h.hi
 unfold strB hasB
 rw [inB_iff.2 (show hX l 0≤a∧a≤hX l (l.length - 1)by omega),inB_iff.2 (show hX l 0≤b∧b≤hX l (l.length - 1)by omega)]
 simpa using h1
theorem has_of (h:Strt l a b) {x:Int} (h1:a≤x) (h2:x≤b):hasB l x=true:=by
 have h0:=h.lo
 have h3:=h.hi
 unfold hasB
 exact inB_iff.2 (by omega)
theorem cmpQ_of_eq {x y:Rat} (h:x=y):cmpQ x y=0:=by unfold cmpQ;rw [if_pos h]
theorem sgnQ_of_ge {q:Rat} (h:0≤q):0≤sgnQ q:=by
 rcases Int.lt_or_le (sgnQ q) 0 with h1 | h1
 ·have:=sgnQ_neg.1 h1;grind
 ·exact h1
theorem half_int {n:Int} (h: -200000≤n∧n≤200000):Bq 21 (Rat.divInt n 2):=by
 have e:Rat.divInt n 2=(n:Rat)*(1 / 2):=by rw [Rat.divInt_eq_div,show((2:Int):Rat)=2 from rfl];grind
 rw [e]
 exact(Bq.int (n:=18) (by unfold Bd;omega)).mul half_bq
end
end Go.Proofs.YthmdhlopeponcaaGreatDoor

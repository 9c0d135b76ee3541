/- the profile upside down, the profile moved (plain) -/
import Derived.Test.YthmdhlopeponcaaGreatDoorJ42
namespace Go.Proofs.YthmdhlopeponcaaGreatDoor
def downL (l:List Pt):List Pt:=l.map fun p=>(p.1,-p.2)
def moveL (x z:Int) (l:List Pt):List Pt:=l.map fun p=>(p.1+x,p.2+z)
section
variable {l:List Pt} {a b x z:Int}
theorem downL_len:(downL l).length=l.length:=List.length_map _
theorem moveL_len:(moveL x z l).length=l.length:=List.length_map _
theorem down_X (l:List Pt) (i:Nat):hX (downL l) i=hX l i:=by
 unfold hX downL
 rw [List.getD_eq_getElem?_getD,List.getD_eq_getElem?_getD,List.getElem?_map]
 cases l[i]? <;>rfl
theorem down_Z (l:List Pt) (i:Nat):hZ (downL l) i= -hZ l i:=by
 unfold hZ downL
 rw [List.getD_eq_getElem?_getD,List.getD_eq_getElem?_getD,List.getElem?_map]
 cases l[i]? <;>rfl
theorem down_sg (x:Int):sg (downL l) x=sg l x:=by
 unfold sg
 rw [downL_len]
 simp only [down_X]
theorem down_grd (x:Int):grd (downL l) x= -grd l x:=by
 unfold grd grdI
 rw [down_sg,down_X,down_X,down_Z,down_Z]
 simp only [Rat.intCast_sub,Rat.intCast_neg]
 grind
theorem down_xs:(downL l).map (·.x)=l.map (·.x):=by
 unfold downL
 rw [List.map_map];rfl
theorem down_pcs:pcs (downL l) a b=pcs l a b:=by unfold pcs;rw [down_xs]
theorem fold_neg:∀ (qs:List Rat) (q:Rat),(qs.map fun y=> -y).foldl minQ (-q)= -(qs.foldl maxQ q)
 | [],q=>rfl
 | y::qs,q=>by
   rw [List.map_cons,List.foldl_cons,List.foldl_cons,←fold_neg qs]
   congr 1
   unfold minQ maxQ
   by_cases h:q < y
   ·rw [if_pos (by grind),if_pos h]
   ·rw [if_neg (by grind),if_neg h]
theorem down_lo:loQ (downL l) a b= -hiQ l a b:=by
 unfold loQ hiQ
 rw [down_pcs,down_grd,←fold_neg,List.map_map]
 congr 1
 refine List.map_congr_left fun t _=>?_
 exact down_grd t.2
theorem down_foot (h:Int):footI (downL l) a b h= -headI l a b h:=by
 unfold footI headI
 rw [down_lo]
 have:=ceil_neg (hiQ l a b)
 omega
theorem down_prof (h:Prof l):Prof (downL l):=by
 refine⟨by rw [downL_len];exact h.two,by rw [downL_len];exact h.forty,fun p hp=>?_,fun i hi=>?_⟩
 ·obtain ⟨q,hq,rfl⟩:=List.mem_map.1 hp
  have:=h.far q hq
  have e1:q.x=q.1:=rfl
  have e2:q.z=q.2:=rfl
  show(-100000≤q.1∧q.1≤100000)∧ -100000≤ -q.2∧ -q.2≤100000
  omega
 ·rw [downL_len]at hi
  rw [down_X,down_X];exact h.up i hi
theorem down_has (x:Int):hasB (downL l) x=hasB l x:=by
 unfold hasB
 rw [down_X,down_X,downL_len]
theorem move_X {i:Nat} (h:i < l.length):hX (moveL x z l) i=hX l i+x:=by
 rw [hX_at (by rw [moveL_len];exact h),hX_at h]
 unfold moveL
 rw [List.getElem_map]
theorem move_Z {i:Nat} (h:i < l.length):hZ (moveL x z l) i=hZ l i+z:=by
 rw [hZ_at (by rw [moveL_len];exact h),hZ_at h]
 unfold moveL
 rw [List.getElem_map]
theorem move_sg (t:Int):sg (moveL x z l) (t+x)=sg l t:=by
 unfold sg
 rw [moveL_len]
 refine List.countP_congr fun i hi=>?_
 have:=List.mem_range.1 hi
 rw [move_X (by omega)]
 simp only [Bool.not_eq_true',decide_eq_false_iff_not]
 omega
theorem move_grd (hP:Prof l) {t:Int} (h1:hX l 0≤t) (h2:t≤hX l (l.length - 1)):grd (moveL x z l) (t+x)=grd l t+z:=by
 obtain ⟨h3,_,_⟩:=hP.sg_in h1 h2
 unfold grd grdI
 rw [move_sg,move_X (by omega),move_X h3,move_Z (by omega),move_Z h3]
 rw [show hX l (sg l t+1)+x - (hX l (sg l t)+x)=hX l (sg l t+1) - hX l (sg l t)by omega,show t+x - (hX l (sg l t)+x)=t - hX l (sg l t)by omega,show hZ l (sg l t+1)+z - (hZ l (sg l t)+z)=hZ l (sg l t+1) - hZ l (sg l t)by omega]
 rw [Rat.intCast_add]
 grind
theorem move_stp (b:Int):∀ (xs:List Int) (t:Int),stp (b+x) (t+x) (xs.map (· +x))=(stp b t xs).map fun p=>(p.1+x,p.2+x)
 | [],t=>rfl
 | p::r,t=>by
   rw [List.map_cons]
   unfold stp
   by_cases h:t < min p b
   ·rw [if_pos h,if_pos (by omega),List.map_cons,show min (p+x) (b+x)=min p b+x by omega,move_stp b r]
   ·rw [if_neg h,if_neg (by omega),move_stp b r]
theorem move_pcs:pcs (moveL x z l) (a+x) (b+x)=(pcs l a b).map fun p=>(p.1+x,p.2+x):=by
 unfold pcs
 rw [←move_stp]
 congr 1
 unfold moveL
 rw [List.map_map,List.map_map]
 rfl
theorem fold_min_add (c:Rat):∀ (qs:List Rat) (q:Rat),(qs.map fun y=>y+c).foldl minQ (q+c)=qs.foldl minQ q+c
 | [],q=>rfl
 | y::qs,q=>by
   rw [List.map_cons,List.foldl_cons,List.foldl_cons,←fold_min_add c qs]
   congr 1
   unfold minQ
   by_cases h:y < q
   ·rw [if_pos (by grind),if_pos h]
   ·rw [if_neg (by grind),if_neg h]
theorem move_lo (h:Strt l a b):loQ (moveL x z l) (a+x) (b+x)=loQ l a b+z:=by
 unfold loQ
 rw [move_pcs,move_grd h.ok h.lo (by have:=h.lt;have:=h.hi;omega),←fold_min_add,List.map_map,List.map_map]
 congr 1
 refine List.map_congr_left fun t ht=>?_
 have:=h.in_pcs ht
 have:=h.lo
 have:=h.hi
 exact move_grd h.ok (by omega) (by omega)
theorem floor_add (q:Rat) (z:Int):(q+(z:Rat)).floor=q.floor+z:=by
 refine Int.le_antisymm ?_ ?_
 ·have h1:=Rat.floor_le (q+(z:Rat))
  have:(((q+(z:Rat)).floor - z:Int):Rat)≤q:=by rw [Rat.intCast_sub];grind
  have:=Rat.le_floor_iff.2 this
  omega
 ·refine Rat.le_floor_iff.2 ?_
  have h1:=Rat.floor_le q
  rw [Rat.intCast_add]
  grind
theorem move_foot (h:Strt l a b) (d:Int):footI (moveL x z l) (a+x) (b+x) d=footI l a b d+z:=by
 unfold footI
 rw [move_lo h,floor_add]
 omega
theorem move_has (h0:0 < l.length) (t:Int):hasB (moveL x z l) (t+x)=hasB l t:=by
 unfold hasB
 rw [moveL_len,move_X h0,move_X (by omega)]
 unfold inB
 congr 1<;> · apply decide_eq_decide.2;omega
theorem nbr_map (f:Int→Int):∀bs:List Int,nbr (bs.map f)=(nbr bs).map fun t=>(f t.1,f t.2)
 | []=>rfl
 | [_]=>rfl
 | a::b::r=>by
   show(f a,f b)::nbr (f b::r.map f)=(f a,f b)::(nbr (b::r)).map fun t=>(f t.1,f t.2)
   rw [←nbr_map f (b::r)];rfl
end
section
variable {l:List Pt} {bs:List Int} {x z:Int}
theorem down_brk (h:brkB l bs=true):brkB (downL l) bs=true:=by
 obtain ⟨hP,_⟩:=brk_ok h
 unfold brkB at h⊢
 rw [prof_iff.2 (down_prof hP)]
 rw [prof_iff.2 hP]at h
 rw [show hasB (downL l)=hasB l from funext down_has]
 exact h
theorem down_heads (hh r:Int) {i:Nat} (hi:i < bs.length - 1):bX (folL max (-r) ((nbr bs).map fun t=>headI l t.1 t.2 hh)) i= -bX (folL min r ((nbr bs).map fun t=>footI (downL l) t.1 t.2 hh)) i:=by
 rw [folL_at (by rw [List.length_map,nbr_len];exact hi),folL_at (by rw [List.length_map,nbr_len];exact hi),List.length_map,List.length_map,bkG_max,bkG_min]
 congr 2
 funext j
 unfold bX
 rw [List.getD_eq_getElem?_getD,List.getD_eq_getElem?_getD,List.getElem?_map,List.getElem?_map]
 cases (nbr bs)[j]? with
 | none=>rfl
 | some t=>exact(down_foot hh).symm
def insideB (x z:Int) (l:List Pt):Bool:=l.all fun p=>inB (p.1+x) (-100000) 100000 && inB (p.2+z) (-100000) 100000
theorem move_in (hP:Prof l) (h:insideB x z l=true):Prof (moveL x z l):=by
 unfold insideB at h
 rw [List.all_eq_true]at h
 refine⟨by rw [moveL_len];exact hP.two,by rw [moveL_len];exact hP.forty,fun p hp=>?_,fun i hi=>?_⟩
 ·obtain ⟨q,hq,rfl⟩:=List.mem_map.1 hp
  have:=h q hq
  rw [Bool.and_eq_true,inB_iff,inB_iff]at this
  exact this
 ·rw [moveL_len]at hi
  rw [move_X (by omega),move_X hi]
  have:=hP.up i hi
  omega
theorem move_out (h:insideB x z l=false):profB (moveL x z l)=false:=by
 cases hp:profB (moveL x z l)
 ·rfl
 ·have hP:=prof_iff.1 hp
  have:insideB x z l=true:=by
   unfold insideB
   rw [List.all_eq_true]
   intro p hp
   have:=hP.far (p.1+x,p.2+z) (List.mem_map.2 ⟨p,hp,rfl⟩)
   rw [Bool.and_eq_true,inB_iff,inB_iff]
   exact this
  rw [h]at this;cases this
theorem move_brk (h:brkB l bs=true) (hin:insideB x z l=true):brkB (moveL x z l) (bs.map (· +x))=true:=by
 obtain ⟨hP,h2,hu,hh⟩:=brk_ok h
 unfold brkB
 rw [prof_iff.2 (move_in hP hin),List.length_map,inB_iff.2 (by omega)]
 rw [Bool.true_and,Bool.true_and,Bool.and_eq_true]
 refine⟨upI_iff.2 fun i hi=>?_,List.all_eq_true.2 fun y hy=>?_⟩
 ·rw [List.length_map]at hi
  have:=hu i hi
  rw [bX_at (show i < bs.length by omega),bX_at hi]at this
  rw [bX_at (show i < (bs.map (· +x)).length by rw [List.length_map];omega),bX_at (show i+1 < (bs.map (· +x)).length by rw [List.length_map];exact hi),List.getElem_map,List.getElem_map]
  omega
 ·obtain ⟨t,ht,rfl⟩:=List.mem_map.1 hy
  rw [move_has (by have:=hP.two;omega)]
  exact hh t ht
theorem move_brk_no (bs:List Int) (h:insideB x z l=false):brkB (moveL x z l) bs=false:=by unfold brkB;rw [move_out h,Bool.false_and]
theorem bkG_add (f:Nat→Int) (s c:Int) (n:Nat):∀i,bkG min (fun j=>f j+c) s n i=bkG min f s n i+c:=by
 have hf:∀i,fwG min (fun j=>f j+c) s i=fwG min f s i+c:=by
  intro i
  induction i with
  | zero=>rfl
  | succ i ih=>unfold fwG;rw [ih];omega
 intro i
 induction i with
 | zero=>exact hf _
 | succ i ih=>unfold bkG;rw [ih,hf];omega
theorem bkG_ext {f g:Nat→Int} {s:Int} {n:Nat} (h:∀i,i < n→f i=g i):∀i,i < n→bkG min f s n i=bkG min g s n i:=by
 have hf:∀i,i < n→fwG min f s i=fwG min g s i:=by
  intro i hi
  induction i with
  | zero=>exact h 0 hi
  | succ i ih=>unfold fwG;rw [ih (by omega),h _ hi]
 intro i hi
 induction i with
 | zero=>exact hf _ (by omega)
 | succ i ih=>unfold bkG;rw [ih (by omega),hf _ (by omega)]
theorem move_feet (h:brkB l bs=true) (d r:Int) {i:Nat} (hi:i < bs.length - 1):
  bX (folL min r ((nbr (bs.map (· +x))).map fun t=>footI (moveL x z l) t.1 t.2 d)) i=bX (folL min r ((nbr bs).map fun t=>footI l t.1 t.2 d)) i+z:=by
 rw [folL_at (by rw [List.length_map,nbr_len,List.length_map];exact hi),folL_at (by rw [List.length_map,nbr_len];exact hi),List.length_map,List.length_map,nbr_len,nbr_len,List.length_map,←bkG_add]
 refine bkG_ext (fun j hj=>?_) _ (by omega)
 unfold bX
 rw [nbr_map,List.map_map,List.getD_eq_getElem?_getD,List.getD_eq_getElem?_getD,List.getElem?_map,List.getElem?_map]
 have hj2:j < (nbr bs).length:=by rw [nbr_len];exact hj
 rw [List.getElem?_eq_getElem hj2]
 exact move_foot (brk_strt h (List.getElem_mem hj2)) d
end
end Go.Proofs.YthmdhlopeponcaaGreatDoor

/- part -/
import Derived.Test.YthmdhlopeponcaaGreatDoorK23
import Derived.Test.YthmdhlopeponcaaGreatDoorK41
set_option maxRecDepth 100000
set_option maxHeartbeats 8000000
namespace Go.Proofs.YthmdhlopeponcaaGreatDoor
open Go.RowKit Go.Shelf Dig
theorem i64res_is {z:Int} (h: -9223372036854775808<=z/\z<=9223372036854775807):i64resN z=(z,true):=if_pos h
section
variable (w:World)
theorem rsmall_any (s:Int) (a:OA) (n c:Nat) (z:Int) (hz:Nz w s (.slice a n c) z) (hb: -1000000<=z/\z<=1000000):
  Calls Tryz.prog 124 #[.agg #[.int .i64 s,.slice a n c]] w (Gives (.int .i64 z) w):=by
 have hC:=ζ (((Sy.enter w).al w.heap.size #[.int .i64 s,.slice a n c] 48 rfl));have HZ:=ζ (fun V (hV:Keeps w V)=>zint64N_any s a n c z V (hz.keep hV) 21 (by unfold Bd;omega) (by omega));have HI:=ζ (i64res_is (z:=z) (by omega));rw [HI.out]at HZ;clear hz HI;have HK:=ζ (Below.keeps hC.out.be);go_enter Tryz.func124,Tryz.ntmps124;have x0:=hC.out.c 0 0;have x1:=hC.out.c 0 1;go_wp2_with fail
 refine(HZ.out _ HK.out).mono ?_;rintro e W1 ⟨rfl,hb⟩;have hD:=ζ (hC.out.call hb);clear hb hC x0 x1;go_wp2;go_ret;exact⟨rfl,hD.out.be⟩
theorem rFoot_any (a:OA) (n c:Nat) (l:List Pt) (x y d:Int) (hs:Sx 2 w a n c (L2 l)) (hT:Strt l x y) (hd:0<=d/\d<=3000):
  Calls Tryz.prog 65 #[.slice a n c,.int .i64 x,.int .i64 y,.int .i64 d] w (Gives (.int .i64 (footI l x y d)) w):=by
 have AA:=ζ (fun W (hW:Below w.heap.size w W)=>rBounds_any W a n c l x y (hs.below hW) hT);have AB:=ζ (hT.lo_gd);have AC:=ζ (show footI l x y d=(loQ l x y).floor - d from rfl);rw [AC.out];clear hs hT AC;generalize loQ l x y=lo at*;generalize hiQ l x y=hi at*;have hC:=ζ (Sy.enter w);go_enter Tryz.func65,Tryz.ntmps65;go_wp2_with fail
 refine(AA.out _ hC.out.be).mono ?_;rintro e W1 ⟨s1,a1,n1,c1,t1,d1,e1,f1,s2,a2,n2,c2,t2,d2,e2,f2,rfl,hz1,hz2,hb⟩;have hD:=ζ (((hC.out.call hb).pq rfl rfl hz1).pq rfl rfl hz2);clear hb hz1 hz2 hC AA;go_upto_region 2 with fail
 have hX:=ζ (hD.out.al W1.heap.size #[.int .i64 s1,.slice a1 n1 c1,.int .i64 t1,.slice d1 e1 f1] 50 rfl|>.al (W1.heap.size+1) #[.int .i64 s2,.slice a2 n2 c2,.int .i64 t2,.slice d2 e2 f2] 50 (by simp));obtain ⟨b9,hb9⟩:∃b,W1.heap.size=b:=⟨_,rfl⟩
 have AD:=ζ hb9;refine wp_geny hX.out ?_;intro V1 hc;have hE:=ζ hc;clear hc hX hD AD hb9;have x0:=hE.out.c 0 0;have x1:=hE.out.c 0 1;have x2:=hE.out.c 0 2;have x3:=hE.out.c 0 3;go_wp2_with fail
 refine(rfloorN_b (hE.out.r 0 rfl) AB.out.bq (by omega)).mono ?_;rintro e W2 ⟨s3,a3,n3,c3,rfl,hz,hb⟩;have hF:=ζ (hE.out.call hb);clear hb hE x0 x1 x2 x3;have hfb:=AB.out.floor;obtain ⟨v,hv⟩:∃v,lo.floor=v:=⟨_,rfl⟩
 rw [hv]at hfb hz;have HV:=ζ hv;clear hv;have v1:IntKind.i64.wrap (v - d)=v - d:=IntWalk.i64_in _ (by omega);go_wp2_with fail
 refine(rsmall_any _ s3 a3 n3 c3 v hz (by omega)).mono ?_;rintro e W3 ⟨rfl,hb⟩;have hG:=ζ (hF.out.call hb);clear hb hz hF;go_wp2;go_ret;exact⟨ret_int (by rw [HV.out]),hG.out.be⟩
end
section
section
variable {l:List Pt} {a unit least depth:Int}
theorem cmp_lt {x y:Rat} (h:cmpQ x y < 0):x<=y:=by
 have:¬ 0<=cmpQ x y:=by omega
 rw [cmpQ_ge]at this;grind
theorem cmp_ge {x y:Rat} (h:¬ cmpQ x y < 0):y<=x:=cmpQ_ge.1 (by omega)
theorem best_chn {n:Nat} :∀ {mo:Nat} {c:Ct},bestC l a unit least depth n mo=some c->∃t,1<=t/\t<=mo/\Chn l a unit least depth t n c.2 c.1
 | 0,c,h=>by cases h
 | mo+1,c,h=>by
   unfold bestC takeC at h;have key:rowC l a unit least depth n (mo+1) n=some c\/bestC l a unit least depth n mo=some c:=by
    split at h
    ·exact .inr h
    ·rename_i e _;exact .inl (e.trans h)
    ·rename_i e1 e2
     split at h
     ·exact .inl (e1.trans h)
     ·exact .inr (e2.trans h)
   rcases key with h1 | h1
   ·exact⟨mo+1,by omega,Nat.le_refl _,row_chn h1⟩
   ·obtain ⟨t,h2,h3,h4⟩:=best_chn h1;exact⟨t,h2,by omega,h4⟩
theorem Chn.steps {t j:Nat} {bs:List Int} {q:Rat} (h:Chn l a unit least depth t j bs q):(∀i,i+1 < bs.length->least<=bX bs (i+1) - bX bs i)/\∀i,i < bs.length->∃k:Nat,bX bs i=atC a unit k:=by
 induction h with
 | zero=>exact⟨fun i hi=>by simp at hi,fun i hi=>⟨0,by obtain rfl:i=0:=by simpa using hi
                                                       rw [atC_zero];rfl⟩⟩
 | @step t i j bs c h hij hl ih=>
   obtain ⟨pre,rfl⟩:=h.last;have hlast:∀i,i < (pre++ [atC a unit i]).length->True:=fun _ _=>trivial;have hl1:(pre++ [atC a unit i]).length=pre.length+1:=(by simp);have hlt:∀m,m < (pre++ [atC a unit i]).length->bX (pre++ [atC a unit i]++ [atC a unit j]) m=bX (pre++ [atC a unit i]) m:=fun m hm=>by
    unfold bX;rw [List.getD_eq_getElem?_getD,List.getD_eq_getElem?_getD,List.getElem?_append_left hm]
   have hend:bX (pre++ [atC a unit i]++ [atC a unit j]) (pre.length+1)=atC a unit j:=by
    unfold bX;rw [List.getD_eq_getElem?_getD,List.getElem?_append_right (by rw [hl1];exact Nat.le_refl _),hl1,Nat.sub_self];rfl
   have hpre:bX (pre++ [atC a unit i]) pre.length=atC a unit i:=by
    unfold bX;rw [List.getD_eq_getElem?_getD,List.getElem?_append_right (Nat.le_refl _),Nat.sub_self];rfl
   have hl2:(pre++ [atC a unit i]++ [atC a unit j]).length=pre.length+2:=(by simp);refine⟨fun m hm=>?_,fun m hm=>?_⟩
   ·rw [hl2]at hm;by_cases e:m=pre.length
    ·subst e;rw [hend,hlt _ (by rw [hl1];omega),hpre];unfold atC;have:((j:Int) - (i:Int))*unit=(j:Int)*unit - (i:Int)*unit:=Int.sub_mul ..;omega
    ·rw [hlt m (by rw [hl1];omega),hlt (m+1) (by rw [hl1];omega)];exact ih.1 m (by rw [hl1];omega)
   ·rw [hl2]at hm;by_cases e:m=pre.length+1
    ·subst e;exact⟨j,hend⟩
    ·rw [hlt m (by rw [hl1];omega)];exact ih.2 m (by rw [hl1];omega)
end
section
theorem cmpI_neg (x y:Int):cmpI y x= - cmpI x y:=by
 unfold cmpI
 split<;>split<;>(try split)<;>omega
theorem cmpI_zero {x y:Int} (h:cmpI x y=0):x=y:=by
 unfold cmpI at h
 split at h
 ·omega
 ·split at h<;>omega
theorem cmpI_self (x:Int):cmpI x x=0:=by
 unfold cmpI;rw [if_neg (by omega),if_neg (by omega)]
theorem lex_neg:∀ (xs ys:List Int),lexC ys xs= - lexC xs ys
 | [],[]=>rfl
 | [],_::_=>rfl
 | _::_,[]=>rfl
 | x::xs,y::ys=>by
   unfold lexC;have h:=cmpI_neg x y;by_cases e:cmpI x y=0
   ·rw [if_pos e,if_pos (by omega),lex_neg xs ys]
   ·rw [if_neg e,if_neg (by omega),h]
theorem lex_zero:∀ {xs ys:List Int},lexC xs ys=0->xs=ys
 | [],[],_=>rfl
 | [],_::_,h=>by simp [lexC]at h
 | _::_,[],h=>by simp [lexC]at h
 | x::xs,y::ys,h=>by
   unfold lexC at h;by_cases e:cmpI x y=0
   ·rw [if_pos e]at h;rw [cmpI_zero e,lex_zero h]
   ·rw [if_neg e]at h;exact absurd h e
theorem lex_trans:∀ {xs ys zs:List Int},lexC xs ys<=0->lexC ys zs<=0->lexC xs zs<=0
 | [],_,[],_,_=>by simp [lexC]
 | [],_,_::_,_,_=>by simp [lexC]
 | _::_,[],_,h,_=>by simp [lexC]at h
 | _::_,_::_,[],_,h=>by simp [lexC]at h
 | x::xs,y::ys,z::zs,h1,h2=>by
   unfold lexC at h1 h2⊢;have a1:=@lex_trans xs ys zs;by_cases e1:cmpI x y=0
   ·obtain rfl:=cmpI_zero e1;rw [if_pos e1]at h1;by_cases e2:cmpI x z=0
    ·rw [if_pos e2]at h2⊢;exact a1 h1 h2
    ·rw [if_neg e2]at h2⊢;exact h2
   ·rw [if_neg e1]at h1;by_cases e2:cmpI y z=0
    ·obtain rfl:=cmpI_zero e2;rw [if_neg e1];exact h1
    ·rw [if_neg e2]at h2;have:cmpI x z < 0:=by
      unfold cmpI at*
      split at h1
      ·split at h2
       ·rw [if_pos (by omega)];omega
       ·split at h2<;>omega
      ·split at h1<;>omega
     rw [if_neg (by omega)];omega
theorem lex_snoc {x:Int} :∀ {xs ys:List Int},xs.length=ys.length->lexC (xs++ [x]) (ys++ [x])=lexC xs ys
 | [],[],_=>by simp [lexC,cmpI_self]
 | [],_::_,h=>by simp at h
 | _::_,[],h=>by simp at h
 | a::xs,b::ys,h=>by
   rw [List.cons_append,List.cons_append];unfold lexC;rw [lex_snoc (xs:=xs) (ys:=ys) (by simpa using h)]
def leC (d c:Ct):Prop:=d.1 < c.1\/d.1=c.1/\lexC d.2 c.2<=0
def finC (d c:Ct):Prop:=d.1 < c.1\/d.1=c.1/\(d.2.length < c.2.length\/d.2.length=c.2.length/\lexC d.2 c.2<=0)
theorem leC.trans {a b c:Ct} (h:leC a b) (k:leC b c):leC a c:=by
 rcases h with h | ⟨h,h'⟩
 ·rcases k with k | ⟨k,-⟩
  ·exact .inl (by grind)
  ·exact .inl (by grind)
 ·rcases k with k | ⟨k,k'⟩
  ·exact .inl (by grind)
  ·exact .inr ⟨h.trans k,lex_trans h' k'⟩
theorem finC.anti {a b:Ct} (h:finC a b) (k:finC b a):a=b:=by
 obtain ⟨a1,a2⟩:=a;obtain ⟨b1,b2⟩:=b;unfold finC at h k;dsimp only at h k;have he:a1=b1:=by grind
 subst he;have h':a2.length < b2.length\/a2.length=b2.length/\lexC a2 b2<=0:=by
  rcases h with h | ⟨-,h⟩
  ·grind
  ·exact h
 have k':b2.length < a2.length\/b2.length=a2.length/\lexC b2 a2<=0:=by
  rcases k with k | ⟨-,k⟩
  ·grind
  ·exact k
 have:=lex_neg a2 b2;rw [lex_zero (xs:=a2) (ys:=b2) (by omega)]
theorem finC.refl (a:Ct):finC a a:= .inr ⟨rfl,.inr ⟨rfl,by rw [show lexC a.2 a.2=0 by have:=lex_neg a.2 a.2;omega];exact Int.le_refl 0⟩⟩
theorem finC.trans {a b c:Ct} (h:finC a b) (k:finC b c):finC a c:=by
 rcases h with h | ⟨h,h'⟩
 ·rcases k with k | ⟨k,-⟩
  ·exact .inl (by grind)
  ·exact .inl (by grind)
 ·rcases k with k | ⟨k,k'⟩
  ·exact .inl (by grind)
  ·refine .inr ⟨h.trans k,?_⟩;rcases h' with h' | ⟨h',h2⟩
   ·left;rcases k' with k' | ⟨k',-⟩<;>omega
   ·rcases k' with k' | ⟨k',k2⟩
    ·left;omega
    ·exact .inr ⟨h'.trans k',lex_trans h2 k2⟩
theorem leC.fin {a b:Ct} (h:leC a b) (hl:a.2.length=b.2.length):finC a b:=by
 rcases h with h | ⟨h,h'⟩
 ·exact .inl h
 ·exact .inr ⟨h,.inr ⟨hl,h'⟩⟩
theorem cmpQ_zero2 {x y:Rat} (h:cmpQ x y=0):x=y:=by
 unfold cmpQ at h;by_cases e:x=y
 ·exact e
 ·rw [if_neg e]at h;split at h<;>omega
theorem cmpQ_neg' {x y:Rat} (h:cmpQ x y < 0):x < y:=by
 have h1:=cmp_lt h;have:x≠y:=fun e=>by subst e;simp [cmpQ]at h
 grind
theorem cmpQ_pos' {x y:Rat} (h:¬ cmpQ x y < 0) (h0:cmpQ x y≠0):y < x:=by
 have h1:=cmp_ge h;have:x≠y:=fun e=>by subst e;simp [cmpQ]at h0
 grind
theorem bet_yesC {c o:Ct} (h:betB c (some o)=true):leC c o:=by
 unfold betB at h;rw [Bool.or_eq_true,Bool.and_eq_true,decide_eq_true_iff,decide_eq_true_iff,decide_eq_true_iff]at h;rcases h with h | ⟨h,h'⟩
 ·exact .inl (cmpQ_neg' h)
 ·exact .inr ⟨cmpQ_zero2 h,by omega⟩
theorem bet_noC {c o:Ct} (h:betB c (some o)=false):leC o c:=by
 unfold betB at h;rw [Bool.or_eq_false_iff,Bool.and_eq_false_iff,decide_eq_false_iff_not,decide_eq_false_iff_not,decide_eq_false_iff_not]at h;obtain ⟨h1,h2⟩:=h;by_cases e:cmpQ c.1 o.1=0
 ·rcases h2 with h2 | h2
  ·exact absurd e h2
  ·exact .inr ⟨(cmpQ_zero2 e).symm,by have:=lex_neg c.2 o.2;omega⟩
 ·exact .inl (cmpQ_pos' h1 e)
def under? (c:Option Ct) (q:Ct):Prop:=∃d,c=some d/\leC d q
end
section
variable {l:List Pt} {a unit least depth:Int}
theorem pick_keepsC {row:Nat->Option Ct} {k i:Nat} {cur:Option Ct} {q:Ct} (h:under? cur q):under? (pickC l a unit least depth row k i cur) q:=by
 unfold pickC
 split
 ·exact h
 ·split
  ·exact h
  ·obtain ⟨d,rfl,hd⟩:=h
   split
   ·rename_i hb;exact⟨_,rfl,(bet_yesC hb).trans hd⟩
   ·exact⟨d,rfl,hd⟩
theorem leC.refl (a:Ct):leC a a:= .inr ⟨rfl,by rw [show lexC a.2 a.2=0 by have:=lex_neg a.2 a.2;omega];exact Int.le_refl 0⟩
theorem pick_takesC {row:Nat->Option Ct} {k i:Nat} {cur:Option Ct} {c:Ct} (hr:row i=some c) (hl:¬ ((k:Int) - (i:Int))*unit < least):under? (pickC l a unit least depth row k i cur) (c.1+costI l a unit depth i k,c.2++ [atC a unit k]):=by
 unfold pickC;rw [hr];dsimp only;rw [if_neg hl]
 split
 ·exact⟨_,rfl,leC.refl _⟩
 ·rename_i hb;cases cur with
  | none=>exact absurd rfl hb
  | some o=>exact⟨o,rfl,bet_noC (by simpa using hb)⟩
theorem next_takesC {row:Nat->Option Ct} {k:Nat} {i:Nat} {c:Ct} (hr:row i=some c) (hl:¬ ((k:Int) - (i:Int))*unit < least):∀m,i < m->under? (nextC l a unit least depth row k m) (c.1+costI l a unit depth i k,c.2++ [atC a unit k])
 | 0,h=>absurd h (Nat.not_lt_zero i)
 | m+1,h=>by
   unfold nextC;rcases Nat.lt_succ_iff_lt_or_eq.1 h with h1 | rfl
   ·exact pick_keepsC (next_takesC hr hl m h1)
   ·exact pick_takesC hr hl
theorem row_leastC {n:Nat} {t j:Nat} {bs:List Int} {q:Rat} (h:Chn l a unit least depth t j bs q) (hj:j<=n):under? (rowC l a unit least depth n t j) (q,bs):=by
 induction h with
 | zero=>exact⟨(0,[a]),rfl,leC.refl _⟩
 | @step t i j bs c h hij hl ih=>
   obtain ⟨d,hd,hle⟩:=ih (by omega);have hlen:d.2.length=bs.length:=(by rw [(row_chn hd).len,h.len]);unfold rowC;rw [if_pos (by omega)];obtain ⟨e,he,hle2⟩:=next_takesC hd hl j hij;refine⟨e,he,hle2.trans ?_⟩;rcases hle with hle | ⟨hle,hx⟩
   ·exact .inl (by dsimp only at hle⊢;grind)
   ·dsimp only at hle hx⊢;exact .inr ⟨by dsimp only;rw [hle],by dsimp only;rw [lex_snoc hlen];exact hx⟩
theorem best_leastC {n:Nat} {t:Nat} {bs:List Int} {q:Rat} (h:Chn l a unit least depth t n bs q) (h0:1<=t):∀mo,t<=mo->∃d,bestC l a unit least depth n mo=some d/\finC d (q,bs)
 | 0,hm=>by omega
 | mo+1,hm=>by
   unfold bestC takeC;rcases Nat.lt_succ_iff_lt_or_eq.1 (Nat.lt_succ_of_le hm)with h1 | rfl
   ·obtain ⟨b,hb,hf⟩:=best_leastC h h0 mo (by omega);rw [hb];cases hr:rowC l a unit least depth n (mo+1) n with
    | none=>exact⟨b,rfl,hf⟩
    | some c=>
      dsimp only
      split
      ·rename_i hc;refine⟨c,rfl,?_⟩;have:=cmpQ_neg' hc;rcases hf with hf | ⟨hf,-⟩
       ·exact .inl (by grind)
       ·exact .inl (by grind)
      ·exact⟨b,rfl,hf⟩
   ·obtain ⟨d,hd,hle⟩:=row_leastC h (Nat.le_refl n);rw [hd];have hlen:d.2.length=bs.length:=(by rw [(row_chn hd).len,h.len]);have hf:finC d (q,bs):=hle.fin hlen;cases hb:bestC l a unit least depth n mo with
    | none=>exact⟨d,rfl,hf⟩
    | some b=>
      dsimp only
      split
      ·exact⟨d,rfl,hf⟩
      ·rename_i hc;obtain ⟨t',h1,h2,h3⟩:=best_chn hb;refine⟨b,rfl,finC.trans ?_ hf⟩;have h4:=cmp_ge hc;have hl3:=h3.len;have hl4:=h.len;by_cases e:b.1=d.1
       ·exact .inr ⟨e,.inl (by rw [hlen];omega)⟩
       ·exact .inl (by grind)
end
def allF (b unit least:Int):Nat->Nat->Int->List (List Int)
 | 0,_,_=>[]
 | f+1,d,most=>if d=0 then [[b]]else(List.range d).flatMap fun(k:Nat)=>if ((k:Int)+1)*unit < least\/¬ 0 < most then []else(allF b unit least f (d - (k+1)) (most - 1)).map ((b - (d:Int)*unit):: ·)
section
variable {b unit least:Int}
theorem allF_fuel:∀ {f f' d:Nat} {most:Int},d < f->d < f'->allF b unit least f d most=allF b unit least f' d most
 | 0,_,_,_,h,_=>by omega
 | _+1,0,_,_,_,h=>by omega
 | f+1,f'+1,d,most,h,h'=>by
   unfold allF
   split
   ·rfl
   ·have:∀k∈List.range d,(if ((k:Int)+1)*unit < least\/¬ 0 < most then []else(allF b unit least f (d - (k+1)) (most - 1)).map ((b - (d:Int)*unit):: ·))=(if ((k:Int)+1)*unit < least\/¬ 0 < most then []else(allF b unit least f' (d - (k+1)) (most - 1)).map ((b - (d:Int)*unit):: ·)):=fun k hk=>by
     rw [allF_fuel (f:=f) (f':=f') (d:=d - (k+1)) (by omega) (by omega)]
    rw [List.flatMap_def,List.flatMap_def,List.map_congr_left this]
theorem allF_head:∀ {f d:Nat} {most:Int} {x:List Int},x∈allF b unit least f d most->∃r,x=(b - (d:Int)*unit)::r
 | 0,_,_,_,h=>by simp [allF]at h
 | f+1,d,most,x,h=>by
   unfold allF at h
   split at h
   ·rename_i e;subst e;rw [List.mem_singleton.1 h];exact⟨[],by simp⟩
   ·obtain ⟨k,-,h⟩:=List.mem_flatMap.1 h
    split at h
    ·simp at h
    ·obtain ⟨r,-,rfl⟩:=List.mem_map.1 h;exact⟨r,rfl⟩
end
section
variable {l:List Pt} {a unit least depth:Int}
theorem atC_back {n i:Nat} (h:i<=n):atC a unit n - ((n - i:Nat):Int)*unit=atC a unit i:=by
 unfold atC;have:((n - i:Nat):Int)*unit=(n:Int)*unit - (i:Int)*unit:=by rw [<-Int.sub_mul];congr 1;omega
 omega
theorem all_chn {n:Nat} :∀ {f i t:Nat} {most:Int} {pre x:List Int} {q:Rat},i<=n->0<=most->Chn l a unit least depth t i pre q->x∈allF (atC a unit n) unit least f (n - i) most->∃ (t':Nat) (q':Rat),t<=t'/\(t':Int)<=t+most/\Chn l a unit least depth t' n (pre++x.tail) q'
 | 0,_,_,_,_,_,_,_,_,_,h=>by simp [allF]at h
 | f+1,i,t,most,pre,x,q,hi,hm,hc,h=>by
   unfold allF at h
   split at h
   ·obtain rfl:i=n:=by omega
    rw [List.mem_singleton.1 h];exact⟨t,q,Nat.le_refl t,by omega,by simpa using hc⟩
   ·obtain ⟨k,hk,h⟩:=List.mem_flatMap.1 h;rw [List.mem_range]at hk
    split at h
    ·simp at h
    ·rename_i hn;obtain ⟨r,hr,rfl⟩:=List.mem_map.1 h;rw [show n - i - (k+1)=n - (i+k+1)by omega]at hr;obtain ⟨r',rfl⟩:=allF_head hr;rw [atC_back (show i+k+1<=n by omega)]at*;obtain ⟨t',q',h1,h2,h3⟩:=all_chn (show i+k+1<=n by omega) (show 0<=most - 1 by omega) (Chn.step (j:=i+k+1) hc (by omega) (by
      rw [show(((i+k+1:Nat):Int) - (i:Int))=(k:Int)+1 by omega];exact fun h=>hn (.inl h))) hr
     refine⟨t',q',by omega,by omega,?_⟩;rw [List.tail_cons,List.append_assoc]at h3;exact h3
theorem allF_cons {n i j:Nat} {most:Int} (hij:i < j) (hj:j<=n) (hl:¬ ((j:Int) - (i:Int))*unit < least) (hm:0<=most) {y:List Int} (h:y∈allF (atC a unit n) unit least (n+1) (n - j) most):atC a unit i::y∈allF (atC a unit n) unit least (n+1) (n - i) (most+1):=by
 rw [allF_fuel (f':=n) (by omega) (by omega)]at h;unfold allF;rw [if_neg (by omega),atC_back (show i<=n by omega)];refine List.mem_flatMap.2 ⟨j - i - 1,List.mem_range.2 (by omega),?_⟩;rw [if_neg (by
  rw [show((j - i - 1:Nat):Int)+1=(j:Int) - (i:Int)by omega];omega),show n - i - (j - i - 1+1)=n - j by omega,Int.add_sub_cancel]
 exact List.mem_map.2 ⟨y,h,rfl⟩
theorem chn_all {n:Nat} {t j:Nat} {bs:List Int} {q:Rat} (h:Chn l a unit least depth t j bs q) (hj:j<=n):∀ {m:Int} {y:List Int},0<=m->y∈allF (atC a unit n) unit least (n+1) (n - j) m->bs.dropLast++y∈allF (atC a unit n) unit least (n+1) n (m+t):=by
 induction h with
 | zero=>
   intro m y _ hy;simpa using hy
 | @step t i j bs c h hij hl ih=>
   intro m y hm hy;have:=ih (by omega) (show 0<=m+1 by omega) (allF_cons hij hj hl hm hy);obtain ⟨pre,rfl⟩:=h.last;rw [List.dropLast_concat]at this⊢;rw [List.append_assoc,List.singleton_append];rw [show m+((t+1:Nat):Int)=m+1+(t:Int)by omega];exact this
theorem chn_mem {n:Nat} {t:Nat} {bs:List Int} {q:Rat} (h:Chn l a unit least depth t n bs q) {most:Int} (hm:(t:Int)<=most):bs∈allF (atC a unit n) unit least (n+1) n most:=by
 obtain ⟨pre,rfl⟩:=h.last;have:=chn_all h (Nat.le_refl n) (m:=most - t) (y:=[atC a unit n]) (by omega) (by
  unfold allF;rw [if_pos (by omega)];exact List.mem_singleton.2 rfl)
 rw [List.dropLast_concat,Int.sub_add_cancel]at this;exact this
theorem mem_chn {n:Nat} (h0:0 < n) {most:Int} (hm:0<=most) {x:List Int} (h:x∈allF (atC a unit n) unit least (n+1) n most):∃t:Nat,1<=t/\(t:Int)<=most/\Chn l a unit least depth t n x (costL l depth x):=by
 obtain ⟨r,hr⟩:=allF_head h;have e:atC a unit n - (n:Int)*unit=a:=by unfold atC;omega
 rw [e]at hr;subst hr;obtain ⟨t',q',-,h2,h3⟩:=all_chn (l:=l) (depth:=depth) (Nat.zero_le n) hm .zero h;rw [List.tail_cons,List.singleton_append]at h3;refine⟨t',?_,by omega,by rw [<-h3.cost];exact h3⟩;rcases h3.hi with h | h<;>omega
def refB (c:Ct):Option Ct->Bool
 | none=>true
 | some o=>decide (cmpQ c.1 o.1 < 0) || (decide (cmpQ c.1 o.1=0) && (decide (c.2.length < o.2.length) || (decide (c.2.length=o.2.length) && decide (lexC c.2 o.2 < 0))))
def refC (l:List Pt) (depth:Int) (xs:List (List Int)):Nat->Option Ct
 | 0=>none
 | k+1=>if refB (costL l depth (xs.getD k []),xs.getD k []) (refC l depth xs k)then some (costL l depth (xs.getD k []),xs.getD k [])else refC l depth xs k
theorem refB_yes {c o:Ct} (h:refB c (some o)=true):finC c o:=by
 unfold refB at h;simp only [Bool.or_eq_true,Bool.and_eq_true,decide_eq_true_iff]at h;rcases h with h | ⟨h,h'⟩
 ·exact .inl (cmpQ_neg' h)
 ·exact .inr ⟨cmpQ_zero2 h,by omega⟩
theorem refB_no {c o:Ct} (h:¬ refB c (some o)=true):finC o c:=by
 unfold refB at h;simp only [Bool.or_eq_true,Bool.and_eq_true,decide_eq_true_iff]at h;have:=lex_neg c.2 o.2;by_cases e:cmpQ c.1 o.1=0
 ·exact .inr ⟨(cmpQ_zero2 e).symm,by omega⟩
 ·exact .inl (cmpQ_pos' (fun q=>h (.inl q)) e)
theorem refC_mem {xs:List (List Int)} :∀ {k:Nat} {d:Ct},k<=xs.length->refC l depth xs k=some d->∃x∈xs,d=(costL l depth x,x)
 | 0,_,_,h=>by cases h
 | k+1,d,hk,h=>by
   unfold refC at h
   split at h
   ·cases h;refine⟨_,?_,rfl⟩;rw [List.getD_eq_getElem?_getD,List.getElem?_eq_getElem (by omega),Option.getD_some];exact List.getElem_mem _
   ·exact refC_mem (by omega) h
theorem refC_fin {xs:List (List Int)} :∀ {k:Nat},∀i,i < k->∃d,refC l depth xs k=some d/\finC d (costL l depth (xs.getD i []),xs.getD i [])
 | 0,i,h=>by omega
 | k+1,i,h=>by
   unfold refC;rcases Nat.lt_succ_iff_lt_or_eq.1 h with h1 | rfl
   ·obtain ⟨d,hd,hf⟩:=refC_fin (xs:=xs) i h1;rw [hd]
    split
    ·rename_i hb;exact⟨_,rfl,(refB_yes hb).trans hf⟩
    ·exact⟨d,rfl,hf⟩
   ·split
    ·exact⟨_,rfl,finC.refl _⟩
    ·rename_i hb;cases hr:refC l depth xs i with
     | none=>rw [hr]at hb;exact absurd rfl hb
     | some o=>rw [hr]at hb;exact⟨o,rfl,refB_no hb⟩
theorem best_ref {n mo:Nat} (h0:0 < n):refC l depth (allF (atC a unit n) unit least (n+1) n (mo:Int)) (allF (atC a unit n) unit least (n+1) n (mo:Int)).length=bestC l a unit least depth n mo:=by
 generalize hxs:allF (atC a unit n) unit least (n+1) n (mo:Int)=xs;have hmem:∀x,x∈xs->∃d,refC l depth xs xs.length=some d/\finC d (costL l depth x,x):=fun x hx=>by
  obtain ⟨i,hi,rfl⟩:=List.getElem_of_mem hx;have:=refC_fin (l:=l) (depth:=depth) (xs:=xs) (k:=xs.length) i hi;rw [List.getD_eq_getElem?_getD,List.getElem?_eq_getElem hi,Option.getD_some]at this;exact this
 cases hb:bestC l a unit least depth n mo with
 | none=>
   cases hr:refC l depth xs xs.length with
   | none=>rfl
   | some d=>
     obtain ⟨x,hx,rfl⟩:=refC_mem (Nat.le_refl _) hr;rw [<-hxs]at hx;obtain ⟨t,h1,h2,h3⟩:=mem_chn (l:=l) (depth:=depth) h0 (by omega) hx;obtain ⟨d,hd,-⟩:=best_leastC h3 h1 mo (by omega);rw [hb]at hd;cases hd
 | some d=>
   obtain ⟨t,h1,h2,h3⟩:=best_chn hb;have hx:=chn_mem h3 (most:=(mo:Int)) (by omega);rw [hxs]at hx;obtain ⟨r,hr,hf⟩:=hmem _ hx;rw [hr];obtain ⟨x,hx2,rfl⟩:=refC_mem (Nat.le_refl _) hr;rw [<-hxs]at hx2;obtain ⟨t',h1',h2',h3'⟩:=mem_chn (l:=l) (depth:=depth) h0 (by omega) hx2;obtain ⟨d',hd',hf'⟩:=best_leastC h3' h1' mo (by omega);rw [hb]at hd';cases hd';rw [<-h3.cost]at hf;exact congrArg some (hf.anti hf')
end
section
variable {l:List Pt} {bs:List Int} {d e r:Int}
theorem brk_at (hk:brkB l bs=true) {i:Nat} (h:i+1 < bs.length):Strt l (bX bs i) (bX bs (i+1)):=by
 have hm:((bX bs i,bX bs (i+1)):Int×Int)∈nbr bs:=by
  rw [bX_at h,bX_at (show i < bs.length by omega)];exact List.mem_of_getElem? (nbr_get h)
 exact brk_strt hk hm
end
end
section
open Go.RowKit Go.Shelf Dig
def costF (l:List Pt) (depth:Int) (bs:List Int):List Rat:=(nbr bs).map fun t=>above l t.1 t.2 (footI l t.1 t.2 depth)
theorem costF_len {l:List Pt} {depth:Int} {bs:List Int} :(costF l depth bs).length=bs.length - 1:=by unfold costF;rw [List.length_map,nbr_len]
theorem costF_dig (l:List Pt) (depth:Int) (bs:List Int):(digP bs ((nbr bs).map fun t=>footI l t.1 t.2 depth)).map (digA l)=costF l depth bs:=by
 unfold digP costF;generalize nbr bs=ts;induction ts with
 | nil=>rfl
 | cons t ts ih=>rw [List.map_cons,List.zip_cons_cons,List.map_cons,List.map_cons,ih];rfl
theorem costF_bq {l:List Pt} {depth:Int} {bs:List Int} (h:brkB l bs=true) (hd:0<=depth/\depth<=3000) (k:Nat):Bq 17800 (smQ ((costF l depth bs).take k)):=by
 have:=dig_bq (l:=l) (bs:=bs) (zs:=(nbr bs).map fun t=>footI l t.1 t.2 depth) h (fun z hz=>by
  obtain ⟨q,hq,rfl⟩:=List.mem_map.1 hz;have:=foot_inZ (brk_strt h hq) hd.1 hd.2;unfold InZ;omega) (by rw [List.length_map,nbr_len]) k
 rw [List.map_take,costF_dig]at this;exact this
theorem costF_step {l:List Pt} {depth:Int} {bs:List Int} {k:Nat} (h:k+1 < bs.length):smQ ((costF l depth bs).take (k+1))=smQ ((costF l depth bs).take k)+above l (bX bs k) (bX bs (k+1)) (footI l (bX bs k) (bX bs (k+1)) depth):=by
 have hk:k < (costF l depth bs).length:=by rw [costF_len];omega
 rw [List.take_succ_eq_append_getElem hk,smQ_snoc];congr 1;have hn:k < (nbr bs).length:=by rw [nbr_len];omega
 have e:(costF l depth bs)[k]=above l (nbr bs)[k].1 (nbr bs)[k].2 (footI l (nbr bs)[k].1 (nbr bs)[k].2 depth):=List.getElem_map ..;have g:=nbr_get (l:=bs) (i:=k) h;rw [List.getElem?_eq_getElem hn]at g;simp only [Option.some.injEq]at g;rw [e,g,bX_at h,bX_at (show k < bs.length by omega)]
theorem rCost_any (w:World) (a:OA) (n c:Nat) (l:List Pt) (ba:OA) (bn bc:Nat) (bs:List Int) (depth:Int) (hs:Sx 2 w a n c (L2 l)) (hb:Sx 1 w ba bn bc (L1 bs)) (hk:brkB l bs=true) (hd:0<=depth/\depth<=3000):
  Calls Tryz.prog 80 #[.slice a n c,.slice ba bn bc,.int .i64 depth] w (RetNQ w (costL l depth bs)):=by
 obtain rfl:=hb.n1;obtain ⟨-,hbn,-,-⟩:=brk_ok hk;obtain ⟨gb,ob,rfl⟩:=hb.addr (by omega);obtain ⟨nn,hnn⟩:∃nn,nn=bs.length - 1:=⟨_,rfl⟩
 have AO:=ζ (show bs.length=nn+1 by omega);have AT:=ζ (fun W (hW:Below w.heap.size w W) k (h:k < bs.length)=>(hb.below hW).atX h);have A2:=ζ (fun k (h:k+1 < bs.length)=>foot_inZ (brk_at hk h) hd.1 hd.2);have A3:=ζ (fun W (hW:Below w.heap.size w W) k (h:k+1 < bs.length)=>rFoot_any W a n c l (bX bs k) (bX bs (k+1)) depth (hs.below hW) (brk_at hk h) hd);have A4:=ζ (fun W (hW:Below w.heap.size w W) k (h:k+1 < bs.length) z (hz: -200000<=z/\z<=200000)=>rAbove_any W a n c l (bX bs k) (bX bs (k+1)) z (hs.below hW) (brk_at hk h) hz);have A5:=ζ (fun k (h:k+1 < bs.length) z (hz: -200000<=z/\z<=200000)=>(brk_at hk h).above_bq (z:=z) (by unfold InZ;omega));have A6:=ζ (fun k=>costF_bq hk hd k);have A7:=ζ (fun k (h:k+1 < bs.length)=>costF_step (l:=l) (depth:=depth) h);have AQ:=ζ (show smQ ((costF l depth bs).take nn)=costL l depth bs by rw [List.take_of_length_le (by rw [costF_len];omega)];rfl);have hn1:0 < nn/\nn<=60:=by omega
 have H0:=ζ (fun W=>show Calls Tryz.prog 72 #[.int .i64 0] W (RetNQ W 0)by have h:=rOf_any W 0 (by omega);exact h);clear hs hb hk hbn hnn;generalize costL l depth bs=ans at*;generalize costF l depth bs=CF at*;have hC:=ζ ((Sy.enter w).al w.heap.size zQ 50 rfl);go_enter Tryz.func80,Tryz.ntmps80;go_wp2_with fail
 refine(H0.out _).mono ?_;rintro e W2 ⟨s0,a0,n0,c0,t0,d0,e0,f0,rfl,hq,hb⟩;have hE:=ζ ((hC.out.call hb).pq rfl rfl hq);clear hb hq hC;have hX:=ζ (hE.out.al W2.heap.size #[.int .i64 s0,.slice a0 n0 c0,.int .i64 t0,.slice d0 e0 f0] 50 rfl);go_upto_region 2 with fail
 obtain ⟨b7,hb7⟩:∃b,W2.heap.size=b:=⟨_,rfl⟩
 rw [hb7]at hX⊢;refine wp_geny hX.out ?_;intro V2 hc;have hF:=ζ hc;clear hc hX hE hb7;go_wp2;go_loopw [8] (fun iv wr=>∃ (k:Nat) (s1:Int) (a1:OA) (n1 c1:Nat) (t1:Int) (d1:OA) (e1 f1:Nat),k<=nn/\iv= .int .i64 k/\Hid (Sy w wr [(w.heap.size,zQ,50),(b7,#[.int .i64 s1,.slice a1 n1 c1,.int .i64 t1,.slice d1 e1 f1],50)] [] [(fun V=>Nq V s1 (.slice a1 n1 c1) t1 (.slice d1 e1 f1) (smQ (CF.take k)))])) (fun iv _=>nn - (intOf iv).toNat)
 case atStart=>exact⟨0,s0,a0,n0,c0,t0,d0,e0,f0,Nat.zero_le _,rfl,hF⟩
 case round=>
  clear hF;obtain ⟨k,s1,a1,n1,c1,t1,d1,e1,f1,hk,rfl,hS⟩:=hrel;obtain ⟨k1,hk1⟩:∃j,j=k+1:=⟨_,rfl⟩
  have i5:IntKind.i64.wrap ((k:Int)+1)=(k1:Int):=by rw [IntWalk.i64_in _ (by omega)];omega
  by_cases hlt:k < nn
  ·have hr1:k+1 < bs.length:=(by rw [AO.out];omega);have A8:=ζ (fun W hW=>AT.out W hW k (by omega));have AJ:=ζ (fun W hW=>AT.out W hW (k+1) hr1);have hzb:=A2.out k hr1;have AU:=ζ (fun W hW=>A3.out W hW k hr1);have AV:=ζ (fun W hW=>A4.out W hW k hr1 _ (show -200000<=footI l (bX bs k) (bX bs (k+1)) depth/\footI l (bX bs k) (bX bs (k+1)) depth<=200000 by omega));have BA:=ζ (A5.out k hr1 _ (show -200000<=footI l (bX bs k) (bX bs (k+1)) depth/\footI l (bX bs k) (bX bs (k+1)) depth<=200000 by omega));have BS:=ζ (A6.out k);have A9:=ζ (A7.out k hr1);generalize smQ (CF.take k)=pq at*;generalize above l (bX bs k) (bX bs (k+1)) (footI l (bX bs k) (bX bs (k+1)) depth)=qa at*;generalize footI l (bX bs k) (bX bs (k+1)) depth=z at*;generalize bX bs (k+1)=v at*;generalize bX bs k=u at*;rw [<-hk1]at AJ;have i0:(0:Int)<=(k:Int):=(by omega);have i4:(k:Int) < (bs.length:Int):=(by rw [AO.out];omega);have i6:(0:Int)<=(k1:Int):=(by omega);have i7:(k1:Int) < (bs.length:Int):=(by rw [AO.out];omega);have AW:=ζ hk1;clear hk1 hr1 hzb;have x1:=A8.out _ hS.out.be;have x2:=AJ.out _ hS.out.be;go_upto_region 5 with fail
   go_quiet (fail)
   have hU:=ζ (hS.out.call (below_dN (Below.refl _ _) nq));clear hS x1 x2;go_upto_region 6 with fail
   refine wp_geny hU.out ?_;intro W6 hc;have hS:=ζ hc;clear hc hU;have HSL:∀V ex os rs,Sy w V ([(w.heap.size,zQ,50),(b7,#[.int .i64 s1,.slice a1 n1 c1,.int .i64 t1,.slice d1 e1 f1],50)]++ex) os rs->(fun w'=>True) V:=fun V ex os rs hX=>trivial;refine wp_region_held_drew (S:=(fun w'=>True)) (by kernel_rfl) trivial (fun hH=>?_);refine wpAnyH_geny (show Sy w _ [(w.heap.size,zQ,50),(b7,#[.int .i64 s1,.slice a1 n1 c1,.int .i64 t1,.slice d1 e1 f1],50)] [] [(fun V=>Nq V s1 (.slice a1 n1 c1) t1 (.slice d1 e1 f1) (pq))]from hS.out.drew) hH ?_;intro Ab hc AE;have AF:=ζ hc;clear hc hH hS;refine' nodeM _ _ (_:q8 (Act)) (_:q8 (World->Prop)) (fun A B S_ G_=>∀sA aA nA cA tA dA eA fA V,S_ V->B sA aA nA cA tA dA eA fA V->G_ (A sA aA nA cA tA dA eA fA) V) (fun AK=>?bA1) ?pA1
   case bA1=>
    refine' nodeM _ _ (_:Act) (_:World->Prop) (fun A B S_ G_=>∀V,S_ V->B V->G_ (A) V) (fun AL=>?bA0) ?pA0
    case bA0=>
     refine tkA 1 rfl AE ?_;(try simp only [zP]);refine tkA 2 rfl AE ?_;(try simp only [zP]);refine tkA 3 rfl AE ?_;(try simp only [zP]);refine tkA 4 rfl AE ?_;(try simp only [zP]);refine tkA 5 rfl AE ?_;(try simp only [zP]);refine tkA 6 rfl AE ?_;(try simp only [zP]);refine tkA 7 rfl AE ?_;(try simp only [zP]);refine rdyL [0,8] ?_;refine arc rfl (fun Kq AC=>?_) ?_
     ·have cQ0:=AF.out.c 1 0;have cQ1:=AF.out.c 1 1;have cQ2:=AF.out.c 1 2;have cQ3:=AF.out.c 1 3;go_simp;refine stW AC AF.out ?_;intro AI AA AD;clear AC Kq cQ0 cQ1 cQ2 cQ3;(try simp only [zP]);refine rdy1 8 rfl (fun Kq AC=>?_);go_simp;go_at_call 65;refine(AU.out _ AA.out.be).mono ?_;rintro e wT ⟨rfl,hb⟩;(try go_wp2_with fail);refine stW AC (AA.out.call hb) ?_;intro AH AB AG;clear AC Kq AA hb AD;(try simp only [zP]);revert AB;exact AL AH AG
     refine arc rfl (fun Kq AC=>?_) ?_
     ·go_simp;go_at_call 65;refine(AU.out _ AF.out.be).mono ?_;rintro e wT ⟨rfl,hb⟩;(try go_wp2_with fail);refine stW AC (AF.out.call hb) ?_;intro AI AA AD;clear AC Kq hb;(try simp only [zP]);refine rdyL [0,9] ?_;refine arc rfl (fun Kq AC=>?_) ?_
      ·have cQ0:=AA.out.c 1 0;have cQ1:=AA.out.c 1 1;have cQ2:=AA.out.c 1 2;have cQ3:=AA.out.c 1 3;go_simp;refine stW AC AA.out ?_;intro AH AB AG;clear AC Kq AA cQ0 cQ1 cQ2 cQ3 AD;(try simp only [zP]);exact nodeU (AL AH AG AB) (by kernel_rfl)
      refine arc rfl (fun Kq AC=>?_) ?_
      ·go_simp;go_at_call 50;refine(AV.out _ AA.out.be).mono ?_;rintro e wT ⟨sA,aA,nA,cA,tA,dA,eA,fA,rfl,hz,hb⟩;(try go_wp2_with fail);refine stW AC ((AA.out.call hb).pq rfl rfl hz) ?_;intro AH AB AG;clear AC Kq AA hb hz AD;(try simp only [zP]);refine rdy1 0 rfl (fun Kq AC=>?_);have cQ0:=AB.out.c 1 0;have cQ1:=AB.out.c 1 1;have cQ2:=AB.out.c 1 2;have cQ3:=AB.out.c 1 3;go_simp;refine stW AC AB.out ?_;intro AR AM AN;clear AC Kq AB cQ0 cQ1 cQ2 cQ3 AG;(try simp only [zP]);revert AM;exact AK sA aA nA cA tA dA eA fA AR AN
      exact AllReadyH.nil
     exact AllReadyH.nil
    case pA0=>
     intro VNA0 hHNA0 hVNA0;show wpAnyH _ _ _ _ _ _ _ _ _;replace hVNA0:=(show Hid _ from hVNA0)
     refine rdy1 9 rfl (fun Kq AC=>?_);go_simp;go_at_call 50;refine(AV.out _ hVNA0.out.be).mono ?_;rintro e wT ⟨sA,aA,nA,cA,tA,dA,eA,fA,rfl,hz,hb⟩;(try go_wp2_with fail);refine stW AC ((hVNA0.out.call hb).pq rfl rfl hz) ?_;intro AI AA AD;clear AC Kq hVNA0 hb hz hHNA0;(try simp only [zP]);exact nodeU (AK sA aA nA cA tA dA eA fA AI AD AA) (by kernel_rfl)
   case pA1=>
    intro sA aA nA cA tA dA eA fA VNA1 hHNA1 hVNA1;show wpAnyH _ _ _ _ _ _ _ _ _;replace hVNA1:=(show Hid _ from hVNA1)
    refine rdy1 10 rfl (fun Kq AC=>?_);go_simp;go_at_call 73;refine(raddN_b (hVNA1.out.r 0 rfl) (hVNA1.out.r 1 rfl) BS.out BA.out (by omega) (by omega)).mono ?_;rintro e wT ⟨sE,aE,nE,cE,tE,dE,eE,fE,rfl,hz,hb⟩;(try go_wp2_with fail);refine stW AC ((hVNA1.out.call hb).pq rfl rfl hz) ?_;intro AI AA AD;clear AC Kq hVNA1 hb hz hHNA1;(try simp only [zP]);refine rdy1 11 rfl (fun Kq AC=>?_);have cQ0:=AA.out.c 1 0;have fQ0:=AA.out.f 1 0;have cQ1:=AA.out.c 1 1;have fQ1:=AA.out.f 1 1;have cQ2:=AA.out.c 1 2;have fQ2:=AA.out.f 1 2;have cQ3:=AA.out.c 1 3;have fQ3:=AA.out.f 1 3;go_simp;refine stepZ AC (AA.out|>.set (j:=0) (v:= .int .i64 sE) 1 rfl|>.set (j:=1) (v:= .slice aE nE cE) 1 rfl|>.set (j:=2) (v:= .int .i64 tE) 1 rfl|>.set (j:=3) (v:= .slice dE eE fE) 1 rfl) (fun _ hX=>trivial) ?_;intro AH AB AG;clear AC Kq AA cQ0 fQ0 cQ1 fQ1 cQ2 fQ2 cQ3 fQ3 AD;(try simp only [Act.put]);refine wpAnyH_done (by kernel_rfl) ?_ _;have hT:=ζ (AB.out.pick [2] (rs':=[(fun V=>Nq V sE (.slice aE nE cE) tE (.slice dE eE fE) (pq+qa))]) rfl);clear AB;go_wp2;go_roundw
    case rel=>exact⟨k+1,_,_,_,_,_,_,_,_,by omega,by have:=AW.out;go_num,by rw [A9.out];exact hT⟩
    case measure=>have:=AW.out;simp [intOf];omega
  ·obtain rfl:k=nn:=by omega
   have i7:¬ (k1:Int) < (bs.length:Int):=(by rw [AO.out];omega);rw [AQ.out]at hS;have Ac:=hS.out.c 0 0;have AX:=hS.out.f 0 0;have Ad:=hS.out.c 0 1;have AY:=hS.out.f 0 1;have Af:=hS.out.c 0 2;have AZ:=hS.out.f 0 2;have Ag:=hS.out.c 0 3;have A0:=hS.out.f 0 3;have y0:=hS.out.c 1 0;have y1:=hS.out.c 1 1;have y2:=hS.out.c 1 2;have y3:=hS.out.c 1 3;go_wp2;have hZ:=ζ (hS.out|>.set (j:=0) (v:= .int .i64 s1) 0 rfl|>.set (j:=1) (v:= .slice a1 n1 c1) 0 rfl|>.set (j:=2) (v:= .int .i64 t1) 0 rfl|>.set (j:=3) (v:= .slice d1 e1 f1) 0 rfl);refine ret_sy hZ.out (v:= .agg #[.int .i64 s1,.slice a1 n1 c1,.int .i64 t1,.slice d1 e1 f1]) (fun hF=>?_) rfl (fun hF=>⟨_,_,_,_,_,_,_,_,rfl,hF.r 0 rfl,hF.be⟩);have g0:=hF.c 0 0;have g1:=hF.c 0 1;have g2:=hF.c 0 2;have g3:=hF.c 0 3;simp [results,Tryz.results80,go_sem,g0,g1,g2,g3]
theorem lex_drop {xs ys:List Int} :∀ {k:Nat},(∀i,i < k->bX xs i=bX ys i)->k<=xs.length->k<=ys.length->lexC xs ys=lexC (xs.drop k) (ys.drop k)
 | 0,_,_,_=>rfl
 | k+1,h,h1,h2=>by
   rw [lex_drop (k:=k) (fun i hi=>h i (by omega)) (by omega) (by omega)];rw [List.drop_eq_getElem_cons (show k < xs.length by omega),List.drop_eq_getElem_cons (show k < ys.length by omega)];have:=h k (by omega);rw [bX_at (show k < xs.length by omega),bX_at (show k < ys.length by omega)]at this;rw [lexC,this,if_pos (cmpI_self _)]
theorem lex_at {xs ys:List Int} {k:Nat} (h:∀i,i < k->bX xs i=bX ys i) (h1:k < xs.length) (h2:k < ys.length) (hn:bX xs k≠bX ys k):decide (lexC xs ys < 0)=decide (bX xs k < bX ys k):=by
 rw [lex_drop h (by omega) (by omega),List.drop_eq_getElem_cons h1,List.drop_eq_getElem_cons h2];rw [bX_at h1,bX_at h2]at hn⊢;have h0:cmpI xs[k] ys[k]≠0:=fun e=>hn (cmpI_zero e);rw [lexC,if_neg h0];unfold cmpI at h0⊢
 split
 ·rename_i q;simp [q]
 ·rename_i q;rw [if_neg q]at h0
  split
  ·simp [q]
  ·rename_i q2;rw [if_neg q2]at h0;exact absurd rfl h0
theorem lex_end {xs ys:List Int} {k:Nat} (h:∀i,i < k->bX xs i=bX ys i) (h1:k<=xs.length) (h2:k<=ys.length) (hn:¬ (k < xs.length/\k < ys.length)):decide (lexC xs ys < 0)=decide ((xs.length:Int) < (ys.length:Int)):=by
 rw [lex_drop h h1 h2];by_cases e:k < xs.length
 ·have e2:ys.length=k:=by omega
  rw [List.drop_eq_getElem_cons e,List.drop_of_length_le (by omega:ys.length<=k)];rw [decide_eq_false (show ¬ ((xs.length:Int) < (ys.length:Int))by omega)];rfl
 ·rw [List.drop_of_length_le (show xs.length<=k by omega)];by_cases e2:k < ys.length
  ·rw [List.drop_eq_getElem_cons e2,decide_eq_true (show(xs.length:Int) < (ys.length:Int)by omega)];rfl
  ·rw [List.drop_of_length_le (show ys.length<=k by omega),decide_eq_false (show ¬ ((xs.length:Int) < (ys.length:Int))by omega)];rfl
theorem rless_any (w:World) (xa:OA) (xn xc:Nat) (xs:List Int) (ya:OA) (yn yc:Nat) (ys:List Int) (hx:Sx 1 w xa xn xc (L1 xs)) (hy:Sx 1 w ya yn yc (L1 ys)):
  Calls Tryz.prog 82 #[.slice xa xn xc,.slice ya yn yc] w (Gives (.bool (decide (lexC xs ys < 0))) w):=by
 obtain rfl:=hx.n1;obtain rfl:=hy.n1;have hcx:=hx.cap;have hcy:=hy.cap;unfold maxLen at hcx hcy;have HX:=ζ hx;have HY:=ζ hy;have HA:=ζ (fun k h h1 h2 hn=>lex_at (xs:=xs) (ys:=ys) (k:=k) h h1 h2 hn);have HE:=ζ (fun k h h1 h2 hn=>lex_end (xs:=xs) (ys:=ys) (k:=k) h h1 h2 hn);clear hx hy;generalize decide (lexC xs ys < 0)=R at*;go_enter Tryz.func82,Tryz.ntmps82;go_wp2;go_loopw [5] (fun iv wr=>∃k:Nat,k<=xs.length/\k<=ys.length/\iv= .int .i64 k/\Hid (∀i,i < k->bX xs i=bX ys i)/\Hid (Sy w wr [] [] [])) (fun iv _=>xs.length - (intOf iv).toNat)
 case atStart=>exact⟨0,Nat.zero_le _,Nat.zero_le _,rfl,ζ (fun i hi=>absurd hi (Nat.not_lt_zero i)),ζ (Sy.enter w)⟩
 case round=>
  obtain ⟨k,hk1,hk2,rfl,HP,hS⟩:=hrel;have i0:(0:Int)<=(k:Int):=by omega
  by_cases h1:k < xs.length
  ·have i1:(k:Int) < (xs.length:Int):=(by omega);by_cases h2:k < ys.length
   ·have i2:(k:Int) < (ys.length:Int):=(by omega);obtain ⟨gx,ox,hgx⟩:=HX.out.addr (by omega);obtain ⟨gy,oy,hgy⟩:=HY.out.addr (by omega);subst hgx hgy;have AJ:=ζ (fun W (hW:Below w.heap.size w W)=>(HX.out.below hW).atX h1);have A1:=ζ (fun W (hW:Below w.heap.size w W)=>(HY.out.below hW).atX h2);have AS:=ζ (HA.out k HP.out h1 h2);have AP:=ζ (fun(e:bX xs k=bX ys k) i (hi:i < k+1)=>show bX xs i=bX ys i by
     rcases Nat.lt_succ_iff_lt_or_eq.1 hi with q | rfl
     ·exact HP.out i q
     ·exact e)
    generalize bX xs k=u at*;generalize bX ys k=v at*;have x1:=AJ.out _ hS.out.be;have x2:=A1.out _ hS.out.be;go_upto_region 4 with fail
    by_cases c1:u=v
    ·have d1:(u !=v)=false:=(by simp [c1]);have d2:decide (u=v)=true:=decide_eq_true c1;have AP:=ζ (AP.out c1);clear AS;go_quiet (fail)
     have hU:=ζ (hS.out.call (below_dN (Below.refl _ _) nq));go_wp2;go_roundw
     case rel=>exact⟨k+1,by omega,by omega,by go_num,AP,hU⟩
     case measure=>simp [intOf];omega
    ·have d1:(u !=v)=true:=(by simp [c1]);have d2:decide (u=v)=false:=decide_eq_false c1;have HR:=ζ (AS.out c1);clear AS AP;go_quiet (fail)
     have hU:=ζ (hS.out.call (below_dN (Below.refl _ _) nq));clear hS x1 x2;go_upto_region 5 with fail
     refine wp_geny hU.out ?_;intro W5 hc;have hS:=ζ hc;clear hc hU;have x1:=AJ.out _ hS.out.be;have x2:=A1.out _ hS.out.be;by_cases c2:u < v
     ·have d3:decide (u < v)=true:=decide_eq_true c2;go_quiet (fail)
      have hU:=ζ (hS.out.call (below_dN (Below.refl _ _) nq));go_wp2;go_ret;exact⟨ret_bool (by first | (rw [HR.out,d3]) | rw [HR.out]),hU.out.be⟩
     ·have d3:decide (u < v)=false:=decide_eq_false c2;go_quiet (fail)
      have hU:=ζ (hS.out.call (below_dN (Below.refl _ _) nq));go_wp2;go_ret;exact⟨ret_bool (by first | (rw [HR.out,d3]) | rw [HR.out]),hU.out.be⟩
   ·have i2:¬ (k:Int) < (ys.length:Int):=(by omega);have HR:=ζ (HE.out k HP.out hk1 hk2 (fun h=>h2 h.2));by_cases c3:(xs.length:Int) < (ys.length:Int)
    ·exact absurd c3 (by omega)
    ·have d3:decide ((xs.length:Int) < (ys.length:Int))=false:=decide_eq_false c3;go_wp2;go_ret;exact⟨ret_bool (by first | (rw [HR.out,d3]) | rw [HR.out]),hS.out.be⟩
  ·have i1:¬ (k:Int) < (xs.length:Int):=(by omega);have HR:=ζ (HE.out k HP.out hk1 hk2 (fun h=>h1 h.1));by_cases c3:(xs.length:Int) < (ys.length:Int)
   ·have d3:decide ((xs.length:Int) < (ys.length:Int))=true:=decide_eq_true c3;go_wp2;go_ret;exact⟨ret_bool (by first | (rw [HR.out,d3]) | rw [HR.out]),hS.out.be⟩
   ·have d3:decide ((xs.length:Int) < (ys.length:Int))=false:=decide_eq_false c3;go_wp2;go_ret;exact⟨ret_bool (by first | (rw [HR.out,d3]) | rw [HR.out]),hS.out.be⟩
end
end Go.Proofs.YthmdhlopeponcaaGreatDoor

/- the integers: Add -/
import Derived.Test.YthmdhlopeponcaaGreatDoorX0
import Derived.Test.YthmdhlopeponcaaGreatDoorX7
import Derived.Test.YthmdhlopeponcaaGreatDoorX3
set_option maxRecDepth 100000
set_option maxHeartbeats 1000000
namespace Go.Proofs.YthmdhlopeponcaaGreatDoor
open Go.RowKit Dig
theorem bool_f:∀ {a b:Bool},¬ a=b→a=true→b=false
 | true,false,_,_=>rfl
 | true,true,h,_=>absurd rfl h
theorem bool_t:∀ {a b:Bool},¬ a=b→a=false→b=true
 | false,true,_,_=>rfl
 | false,false,h,_=>absurd rfl h
theorem mZ3_0 {P_ : Prop} (h : P_ := by
 go_wp2
 have bs:=fun u u'=>(hCb.out.x3.set u u').c0
 have bs1:=fun u u'=>(hCb.out.x3.set u u').c1
 exact bodyPost_ret (v:= .agg #[.slice b2 k2 d2,.bool mb]) (by simp [results,Tryz.results94,go_sem,bs,bs1]) rfl (fin_Z hCa.out.be HBb.out hCb.out.x3 (Nat.le_add_right _ 2) hZb.out)) : P_ := h
set_option maxHeartbeats 2000000 in
theorem add_any (a:Option Addr) (n c:Nat) (m:Bool) (z:Int) (a2:Option Addr) (n2 c2:Nat) (m2:Bool) (z2:Int) (w:World) (h:Zd w (.slice a n c) m z) (h2:Zd w (.slice a2 n2 c2) m2 z2)
  (hl:(dg 16777216 z.natAbs).length≤10000000) (hl2:(dg 16777216 z2.natAbs).length≤10000000):
  Calls Tryz.prog 94 #[.agg #[.slice a n c,.bool m],.agg #[.slice a2 n2 c2,.bool m2]] w (RetZ w (z+z2)):=by
 go_enter Tryz.func94,Tryz.ntmps94
 have hC:=ζ (Z2.start h h2)
 have hm1:=h.m
 have hm2:=h2.m
 clear h h2
 by_cases hmm:m=m2
 ·subst hmm
  have hzz:=ζ (show z+z2=if m then -((((z.natAbs:Nat):Int)+1*(z2.natAbs:Nat)).toNat:Int)else((((z.natAbs:Nat):Int)+1*(z2.natAbs:Nat)).toNat:Int)from by
   by_cases h:z < 0
   ·have e1:m=true:=by rw [hm1];simpa using h
    have e2:z2 < 0:=by rw [e1]at hm2;simpa using hm2.symm
    subst e1;simp only [if_true];omega
   ·have e1:m=false:=by rw [hm1];simpa using h
    have e2:¬ z2 < 0:=by rw [e1]at hm2;simpa using hm2.symm
    subst e1;simp only [Bool.false_eq_true,if_false];omega)
  clear hm1 hm2
  go_wp2_with fail
  go_region_held3 (fun w'=>w'.cell? ⟨w.heap.size,0,none⟩=some (.slice a n c)∧w'.cell? ⟨w.heap.size,1,none⟩=some (.bool m)∧w'.cell? ⟨w.heap.size+1,0,none⟩=some (.slice a2 n2 c2)∧w'.cell? ⟨w.heap.size+1,1,none⟩=some (.bool m))
   (first | exact hCb.out.S' _ _ | exact hCb.out.S | exact hCa.out.S | exact hC.out.S)
   (first
    | (go_at_call 144;refine(plus_any a n c a2 n2 c2 1 z.natAbs z2.natAbs _ hC.out.drew.d1.d hC.out.drew.d2.d (.inl rfl) (by omega) hl hl2).mono ?_;rintro e wa ⟨b1,k1,d1,rfl,hd,hb⟩;have hCa:=ζ (hC.out.drew.later hb);have hDa:=ζ hd;clear hd hb)
    | (go_at_call 149;refine(made_any m b1 k1 d1 _ _ hDa.out (z+z2) hzz.out).mono ?_;rintro e wb ⟨b2,k2,d2,mb,rfl,hz,hb⟩;have hCb:=ζ (hCa.out.later hb);have hZb:=ζ hz;have HBb:=ζ hb;clear hz hb;have c0:=hCb.out.x3.c0;have c1:=hCb.out.x3.c1;have f0:=hCb.out.x3.f0;have f1:=hCb.out.x3.f1))
  exact mZ3_0
 ·have hmb:(m==m2)=false:=by simpa using hmm
  have H1:=ζ hm1
  have H2:=ζ hm2
  have HM:=ζ hmm
  clear hm1 hm2 hmm
  go_wp2_with fail
  refine(size_any _ _ _ _ _ _ z.natAbs z2.natAbs _ hC.out.d1.d hC.out.d2.d hl hl2).mono ?_
  rintro e wz ⟨rfl,hb⟩
  have hC1:=ζ (hC.out.later hb)
  clear hb hC
  by_cases hlt:z.natAbs < z2.natAbs
  ·have hc:cmpN z.natAbs z2.natAbs= -1:=by unfold cmpN;rw [if_pos hlt]
   have hzz:=ζ (show z+z2=if m2 then -((((z2.natAbs:Nat):Int)+(-1)*(z.natAbs:Nat)).toNat:Int)else((((z2.natAbs:Nat):Int)+(-1)*(z.natAbs:Nat)).toNat:Int)from by
    have hm1:=H1.out
    have hm2:=H2.out
    have hmm:=HM.out
    by_cases h:z < 0
    ·have e1:m=true:=by rw [hm1];simpa using h
     have e2:m2=false:=bool_f hmm e1
     rw [e2]at hm2;have e3:¬ z2 < 0:=by simpa using hm2.symm
     subst e2;simp only [Bool.false_eq_true,if_false];omega
    ·have e1:m=false:=by rw [hm1];simpa using h
     have e2:m2=true:=bool_t hmm e1
     rw [e2]at hm2;have e3:z2 < 0:=by simpa using hm2.symm
     subst e2;simp only [if_true];omega)
   rw [hc]
   go_wp2_with fail
   go_region_held3 (fun w'=>w'.cell? ⟨w.heap.size,0,none⟩=some (.slice a n c)∧w'.cell? ⟨w.heap.size,1,none⟩=some (.bool m)∧w'.cell? ⟨w.heap.size+1,0,none⟩=some (.slice a2 n2 c2)∧w'.cell? ⟨w.heap.size+1,1,none⟩=some (.bool m2))
    (first | exact hCb.out.S' _ _ | exact hCb.out.S | exact hCa.out.S | exact hC1.out.S)
    (first
     | (go_at_call 144;refine(plus_any a2 n2 c2 a n c (-1) z2.natAbs z.natAbs _ hC1.out.drew.d2.d hC1.out.drew.d1.d (.inr rfl) (by omega) hl2 hl).mono ?_;rintro e wa ⟨b1,k1,d1,rfl,hd,hb⟩;have hCa:=ζ (hC1.out.drew.later hb);have hDa:=ζ hd;clear hd hb)
     | (go_at_call 149;refine(made_any m2 b1 k1 d1 _ _ hDa.out (z+z2) hzz.out).mono ?_;rintro e wb ⟨b2,k2,d2,mb,rfl,hz,hb⟩;have hCb:=ζ (hCa.out.later hb);have hZb:=ζ hz;have HBb:=ζ hb;clear hz hb;have c0:=hCb.out.x3.c0;have c1:=hCb.out.x3.c1;have f0:=hCb.out.x3.f0;have f1:=hCb.out.x3.f1))
   exact mZ3_0
  ·have hc:¬ cmpN z.natAbs z2.natAbs < 0:=by unfold cmpN;rw [if_neg hlt];split<;>omega
   have hzz:=ζ (show z+z2=if m then -((((z.natAbs:Nat):Int)+(-1)*(z2.natAbs:Nat)).toNat:Int)else((((z.natAbs:Nat):Int)+(-1)*(z2.natAbs:Nat)).toNat:Int)from by
    have hm1:=H1.out
    have hm2:=H2.out
    have hmm:=HM.out
    by_cases h:z < 0
    ·have e1:m=true:=by rw [hm1];simpa using h
     have e2:m2=false:=bool_f hmm e1
     rw [e2]at hm2;have e3:¬ z2 < 0:=by simpa using hm2.symm
     subst e1;simp only [if_true];omega
    ·have e1:m=false:=by rw [hm1];simpa using h
     have e2:m2=true:=bool_t hmm e1
     rw [e2]at hm2;have e3:z2 < 0:=by simpa using hm2.symm
     subst e1;simp only [Bool.false_eq_true,if_false];omega)
   go_wp2_with fail
   go_region_held3 (fun w'=>w'.cell? ⟨w.heap.size,0,none⟩=some (.slice a n c)∧w'.cell? ⟨w.heap.size,1,none⟩=some (.bool m)∧w'.cell? ⟨w.heap.size+1,0,none⟩=some (.slice a2 n2 c2)∧w'.cell? ⟨w.heap.size+1,1,none⟩=some (.bool m2))
    (first | exact hCb.out.S' _ _ | exact hCb.out.S | exact hCa.out.S | exact hC1.out.S)
    (first
     | (go_at_call 144;refine(plus_any a n c a2 n2 c2 (-1) z.natAbs z2.natAbs _ hC1.out.drew.d1.d hC1.out.drew.d2.d (.inr rfl) (by omega) hl hl2).mono ?_;rintro e wa ⟨b1,k1,d1,rfl,hd,hb⟩;have hCa:=ζ (hC1.out.drew.later hb);have hDa:=ζ hd;clear hd hb)
     | (go_at_call 149;refine(made_any m b1 k1 d1 _ _ hDa.out (z+z2) hzz.out).mono ?_;rintro e wb ⟨b2,k2,d2,mb,rfl,hz,hb⟩;have hCb:=ζ (hCa.out.later hb);have hZb:=ζ hz;have HBb:=ζ hb;clear hz hb;have c0:=hCb.out.x3.c0;have c1:=hCb.out.x3.c1;have f0:=hCb.out.x3.f0;have f1:=hCb.out.x3.f1))
   exact mZ3_0
def rowT (t:TypeId):Bool:=t==2 || t==3 || t==9
def rowO:Obj→Bool
 | .cells _ e _=>rowT e
 | _=>false
structure Keeps (W W':World):Prop where
 size:W.heap.size≤W'.heap.size
 row:∀ (k:Nat) (o:Obj),W.heap[k]? =some o→rowO o=true→W'.heap[k]? =some o
theorem Keeps.refl (W:World):Keeps W W:=⟨Nat.le_refl _,fun _ _ h _=>h⟩
theorem Keeps.trans {A B C:World} (h:Keeps A B) (k:Keeps B C):Keeps A C:=⟨Nat.le_trans h.size k.size,fun i o h1 h2=>k.row i o (h.row i o h1 h2) h2⟩
theorem Below.keeps {W W':World} (h:Below W.heap.size W W'):Keeps W W':=⟨h.size,fun k _ h1 _=>(h.block k (Array.getElem?_eq_some_iff.1 h1).1).trans h1⟩
theorem Keeps.alloc {A W:World} (h:Keeps A W) (o:Obj):Keeps A (W.alloc o):=h.trans (Below.keeps ((Below.refl _ _).alloc (Nat.le_refl _) _))
theorem Keeps.drew {A W:World} (h:Keeps A W):Keeps A W.drew:=h.trans (Below.keeps (Below.refl _ _).drew)
theorem Sl.keep {t:TypeId} {w w':World} {v:Value} {xs:List Int} (h:Sl t w v xs) (ht:rowT t=true) (hk:Keeps w w'):Sl t w' v xs:=by
 refine⟨h.1,?_⟩
 rcases h.2 with hn | ⟨g,cap,cur,rfl,hb0,hg,rest⟩
 ·exact .inl hn
 ·exact .inr ⟨g,cap,cur,rfl,hb0,hk.row g _ hg ht,rest⟩
theorem Dg.keep {w w':World} {v:Value} {N:Nat} (h:Dg w v N) (hk:Keeps w w'):Dg w' v N:=Sl.keep h rfl hk
theorem Zd.keep {w w':World} {s:Value} {m:Bool} {z:Int} (h:Zd w s m z) (hk:Keeps w w'):Zd w' s m z:=⟨h.d.keep hk,h.m⟩
structure St (w W:World) (bs:List (Nat×Array Value×TypeId)) (rs:List (World→Prop)):Prop where
 be:Below w.heap.size w W
 bx:∀x∈bs,w.heap.size≤x.1∧x.1 < W.heap.size∧W.heap[x.1]? =some (.cells x.2.1 x.2.2 (0,0))∧rowT x.2.2=false
 inc:bs.Pairwise (fun x y=>x.1≠y.1)
 rd:∀r∈rs,(∀V V',Keeps V V'→r V→r V')∧r W
section
variable {w W:World} {bs:List (Nat×Array Value×TypeId)} {rs:List (World→Prop)}
theorem St.enter (w:World):St w w [] []:=⟨Below.refl _ _,by simp,.nil,by simp⟩
theorem St.at_ (h:St w W bs rs) (i:Nat) {b:Nat} {cs:Array Value} {t:TypeId} (hx:bs[i]? =some (b,cs,t)):w.heap.size≤b∧b < W.heap.size∧W.heap[b]? =some (.cells cs t (0,0))∧rowT t=false:=
 h.bx _ (List.mem_of_getElem? hx)
theorem St.cell (h:St w W bs rs) (i j:Nat) {b:Nat} {cs:Array Value} {t:TypeId} {v:Value} (hx:bs[i]? =some (b,cs,t)) (hv:cs[j]? =some v):W.cell? ⟨b,j,none⟩=some v:=by
 have:=(h.at_ i hx).2.2.1
 simp [World.cell?,this,hv]
theorem St.free (h:St w W bs rs) (i j:Nat) {b:Nat} {cs:Array Value} {t:TypeId} (hx:bs[i]? =some (b,cs,t)):W.frozen? ⟨b,j,none⟩=false:=by
 have:=(h.at_ i hx).2.2.1
 simp [World.frozen?,this]
theorem St.lt (h:St w W bs rs) (i:Nat) {b:Nat} {cs:Array Value} {t:TypeId} (hx:bs[i]? =some (b,cs,t)):b < W.heap.size:=(h.at_ i hx).2.1
theorem St.ge (h:St w W bs rs) (i:Nat) {b:Nat} {cs:Array Value} {t:TypeId} (hx:bs[i]? =some (b,cs,t)):w.heap.size≤b:=(h.at_ i hx).1
theorem St.call {W':World} (h:St w W bs rs) (hb:Below W.heap.size W W'):St w W' bs rs where
 be:=h.be.trans (hb.mono h.be.size)
 bx x hx:=by
  obtain ⟨h1,h2,h3,h4⟩:=h.bx x hx
  exact⟨h1,Nat.lt_of_lt_of_le h2 hb.size,(hb.block _ h2).trans h3,h4⟩
 inc:=h.inc
 rd r hr:=⟨(h.rd r hr).1,(h.rd r hr).1 _ _ (Below.keeps hb) (h.rd r hr).2⟩
theorem St.drew (h:St w W bs rs):St w W.drew bs rs:=h.call (Below.refl _ _).drew
theorem St.drewN (h:St w W bs rs) (n:Nat):St w (W.drewN n) bs rs:=h.call (Below.drewN (Below.refl _ _) n)
theorem St.row (h:St w W bs rs) {o:Obj} :St w (W.alloc o) bs rs:=h.call ((Below.refl _ _).alloc (Nat.le_refl _) _)
theorem St.al (h:St w W bs rs) (b:Nat) (cs:Array Value) (t:TypeId) (hb:b=W.heap.size) (ht:rowT t=false):St w (W.alloc (.cells cs t)) (bs++ [(b,cs,t)]) rs where
 be:=h.row.be
 bx x hx:=by
  rcases List.mem_append.1 hx with hx | hx
  ·exact h.row.bx x hx
  ·rcases List.mem_singleton.1 hx with rfl
   subst hb
   exact⟨h.be.size,by simp,by rw [heap_alloc_get,if_pos rfl],ht⟩
 inc:=by
  rw [List.pairwise_append]
  refine⟨h.inc,List.pairwise_singleton _ _,fun a ha x hx=>?_⟩
  rcases List.mem_singleton.1 hx with rfl
  subst hb
  exact Nat.ne_of_lt (h.bx a ha).2.1
 rd:=h.row.rd
theorem St.set (h:St w W bs rs) (i:Nat) {j b:Nat} {cs:Array Value} {t:TypeId} {v:Value} (hx:bs[i]? =some (b,cs,t)):St w (W.setCell ⟨b,j,none⟩ v) (bs.set i (b,cs.setIfInBounds j v,t)) rs:=by
 obtain ⟨h1,h2,h3,h4⟩:=h.at_ i hx
 have hi:i < bs.length:=(List.getElem?_eq_some_iff.1 hx).1
 have hx':bs[i]=(b,cs,t):=(List.getElem?_eq_some_iff.1 hx).2
 have hsz:(W.setCell ⟨b,j,none⟩ v).heap.size=W.heap.size:=by simp [World.setCell]
 have hk:Keeps W (W.setCell ⟨b,j,none⟩ v):=⟨by rw [hsz];exact Nat.le_refl _,fun k o ho hr=>by
  rw [Below.heap_setCell _ _ _ _ (fun e=>?_)]
  ·exact ho
  ·subst e
   rw [h3]at ho
   simp only [Option.some.injEq]at ho
   subst ho
   simp only [rowO]at hr
   rw [h4]at hr
   exact Bool.noConfusion hr⟩
 refine⟨h.be.setCell h1 _,fun x hxm=>?_,?_,fun r hr=>⟨(h.rd r hr).1,(h.rd r hr).1 _ _ hk (h.rd r hr).2⟩⟩
 ·obtain ⟨k,hkl,hk2⟩:=List.getElem_of_mem hxm
  rw [List.length_set]at hkl
  rw [List.getElem_set]at hk2
  by_cases e:i=k
  ·rw [if_pos e]at hk2
   subst hk2
   refine⟨h1,by rw [hsz];exact h2,?_,h4⟩
   simp [World.setCell,Array.getElem?_modify,h3]
  ·rw [if_neg e]at hk2
   subst hk2
   obtain ⟨g1,g2,g3,g4⟩:=h.bx bs[k] (List.getElem_mem hkl)
   refine⟨g1,by rw [hsz];exact g2,?_,g4⟩
   rw [Below.heap_setCell _ _ _ _ (fun e'=>?_)]
   ·exact g3
   ·have hp:=List.pairwise_iff_getElem.1 h.inc
    rcases Nat.lt_or_gt_of_ne e with l | l
    ·have:=hp i k hi hkl l
     rw [hx']at this
     simp only at this e'
     omega
    ·have:=hp k i hkl hi l
     rw [hx']at this
     simp only at this e'
     omega
 ·rw [List.pairwise_iff_getElem]
  intro p q hp hq hpq
  rw [List.length_set]at hp hq
  have:=List.pairwise_iff_getElem.1 h.inc p q hp hq hpq
  rw [List.getElem_set,List.getElem_set]
  by_cases e1:i=p<;>by_cases e2:i=q
  ·omega
  ·subst e1;rw [if_pos rfl,if_neg e2];rw [hx']at this;exact this
  ·subst e2;rw [if_pos rfl,if_neg e1];rw [hx']at this;exact this
  ·rw [if_neg e1,if_neg e2];exact this
theorem St.push {r:World→Prop} (h:St w W bs rs) (hp:∀V V',Keeps V V'→r V→r V') (hr:r W):St w W bs (rs++ [r]):=
 ⟨h.be,h.bx,h.inc,fun q hq=>by
   rcases List.mem_append.1 hq with hq | hq
   ·exact h.rd q hq
   ·rcases List.mem_singleton.1 hq with rfl
    exact⟨hp,hr⟩⟩
theorem St.pz (h:St w W bs rs) {s:Value} {m:Bool} {z:Int} (hz:Zd W s m z):St w W bs (rs++ [fun V=>Zd V s m z]):=h.push (fun _ _ k hz=>hz.keep k) hz
theorem St.pd (h:St w W bs rs) {s:Value} {N:Nat} (hz:Dg W s N):St w W bs (rs++ [fun V=>Dg V s N]):=h.push (fun _ _ k hz=>hz.keep k) hz
theorem St.z (h:St w W bs rs) (i:Nat) {s:Value} {m:Bool} {z:Int} (hx:rs[i]? =some (fun V=>Zd V s m z)):Zd W s m z:=(h.rd _ (List.mem_of_getElem? hx)).2
theorem St.d (h:St w W bs rs) (i:Nat) {s:Value} {N:Nat} (hx:rs[i]? =some (fun V=>Dg V s N)):Dg W s N:=(h.rd _ (List.mem_of_getElem? hx)).2
theorem St.zd (h:St w W bs rs) (i:Nat) {s:Value} {m:Bool} {z:Int} (hx:rs[i]? =some (fun V=>Zd V s m z)):Dg W s z.natAbs:=(h.z i hx).d
theorem St.pick (h:St w W bs rs) (is:List Nat) {rs':List (World→Prop)} (hx:is.map (fun i=>rs[i]?)=rs'.map some):St w W bs rs':=
 ⟨h.be,h.bx,h.inc,fun r hr=>by
   have:some r∈is.map (fun i=>rs[i]?):=by rw [hx];exact List.mem_map.2 ⟨r,hr,rfl⟩
   obtain ⟨i,_,hi⟩:=List.mem_map.1 this
   exact h.rd r (List.mem_of_getElem? hi)⟩
theorem St.bpick (h:St w W bs rs) (is:List Nat) (hn:is.Nodup) {bs':List (Nat×Array Value×TypeId)} (hx:is.map (fun i=>bs[i]?)=bs'.map some):St w W bs' rs:=by
 refine⟨h.be,fun x hx'=>?_,?_,h.rd⟩
 ·have:some x∈is.map (fun i=>bs[i]?):=by rw [hx];exact List.mem_map.2 ⟨x,hx',rfl⟩
  obtain ⟨i,_,hi⟩:=List.mem_map.1 this
  exact h.bx x (List.mem_of_getElem? hi)
 ·rw [List.pairwise_iff_getElem]
  intro p q hp hq hpq
  have hl:is.length=bs'.length:=by have:=congrArg List.length hx;simpa using this
  have e:∀ (k:Nat) (hk:k < bs'.length),bs[is[k]'(by omega)]? =some bs'[k]:=by
   intro k hk
   have:=congrArg (fun l=>l[k]?) hx
   simp only [List.getElem?_map,List.getElem?_eq_getElem hk,List.getElem?_eq_getElem (show k < is.length by omega),Option.map_some,Option.some.injEq]at this
   exact this
  have h1:=List.getElem?_eq_some_iff.1 (e p hp)
  have h2:=List.getElem?_eq_some_iff.1 (e q hq)
  have hne:is[p]'(by omega)≠is[q]'(by omega):=List.pairwise_iff_getElem.1 hn p q (by omega) (by omega) hpq
  have key:=List.pairwise_iff_getElem.1 h.inc
  rw [←h1.2,←h2.2]
  rcases Nat.lt_or_gt_of_ne hne with l | l
  ·exact key _ _ h1.1 h2.1 l
  ·exact(key _ _ h2.1 h1.1 l).symm
theorem St.apart (h:St w W bs rs) (i j:Nat) {b b':Nat} {cs cs':Array Value} {t t':TypeId} (hx:bs[i]? =some (b,cs,t)) (hy:bs[j]? =some (b',cs',t')) (hij:i < j):b≠b':=by
 have hi:=(List.getElem?_eq_some_iff.1 hx)
 have hj:=(List.getElem?_eq_some_iff.1 hy)
 have:=List.pairwise_iff_getElem.1 h.inc i j hi.1 hj.1 hij
 rw [hi.2,hj.2]at this
 exact this
theorem wp_gen {P:Program} {c:Code} {Q:Exit→Act→World→Prop} {a:Act} (h:St w W bs rs) (k:∀V,St w V bs rs→c.wp P Q a V):c.wp P Q a W:=k W h
theorem gen_app {F:Act→World→Prop} {a:Act} (h:St w W bs rs) (k:∀V,St w V bs rs→F a V):F a W:=k W h
theorem ret_st {P:Program} {f:Func} {R:Ending→World→Prop} {a:Act} {v:Value} (h:St w W bs rs) (hr:St w W bs rs→(results f a.tmps).run P W= .ok v W) (hd:a.defers= []) (hR:St w W bs rs→R (.returned v) W):bodyPost P f R .ret a W:=
 bodyPost_ret (hr h) hd (hR h)
end
theorem sub_any (a:Option Addr) (n c:Nat) (m:Bool) (z:Int) (a2:Option Addr) (n2 c2:Nat) (m2:Bool) (z2:Int) (w:World) (h:Zd w (.slice a n c) m z) (h2:Zd w (.slice a2 n2 c2) m2 z2)
  (hl:(dg 16777216 z.natAbs).length≤10000000) (hl2:(dg 16777216 z2.natAbs).length≤10000000):
  Calls Tryz.prog 152 #[.agg #[.slice a n c,.bool m],.agg #[.slice a2 n2 c2,.bool m2]] w (RetZ w (z - z2)):=by
 go_enter Tryz.func152,Tryz.ntmps152
 have hC:=ζ (Z2.start h h2)
 have hln:=ζ (show(dg 16777216 (-z2).natAbs).length≤10000000 by rw [Int.natAbs_neg];exact hl2)
 clear h h2
 go_wp2
 go_region_held3 (fun w'=>w'.cell? ⟨w.heap.size,0,none⟩=some (.slice a n c)∧w'.cell? ⟨w.heap.size,1,none⟩=some (.bool m)∧w'.cell? ⟨w.heap.size+1,0,none⟩=some (.slice a2 n2 c2)∧w'.cell? ⟨w.heap.size+1,1,none⟩=some (.bool m2))
  (first | exact hCb.out.S' _ _ | exact hCb.out.S | exact hCa.out.S | exact hC.out.S)
  (first
   | (go_at_call 147;refine(neg_any a2 n2 c2 m2 z2 _ hC.out.drew.d2).mono ?_;rintro e wa ⟨b1,k1,d1,ma,rfl,hd,hb⟩;have hCa:=ζ (hC.out.drew.later hb);have hDa:=ζ hd;clear hd hb)
   | (go_at_call 94;refine(add_any a n c m z b1 k1 d1 ma (-z2) _ hCa.out.d1 hDa.out hl hln.out).mono ?_;rintro e wb ⟨b2,k2,d2,mb,rfl,hz,hb⟩;have hCb:=ζ (hCa.out.later hb);have hZb:=ζ hz;have HBb:=ζ hb;clear hz hb;have c0:=hCb.out.x3.c0;have c1:=hCb.out.x3.c1;have f0:=hCb.out.x3.f0;have f1:=hCb.out.x3.f1))
 go_wp2
 have bs:=fun u u'=>(hCb.out.x3.set u u').c0
 have bs1:=fun u u'=>(hCb.out.x3.set u u').c1
 have hz:Zd wb (.slice b2 k2 d2) mb (z - z2):=by rw [Int.sub_eq_add_neg];exact hZb.out
 exact bodyPost_ret (v:= .agg #[.slice b2 k2 d2,.bool mb]) (by simp [results,Tryz.results152,go_sem,bs,bs1]) rfl (fin_Z hCa.out.be HBb.out hCb.out.x3 (Nat.le_add_right _ 2) hz)
def sgn (z:Int):Int:=if z=0 then 0 else if z < 0 then -1 else 1
theorem sign_any (a:Option Addr) (n c:Nat) (m:Bool) (z:Int) (w:World) (h:Zd w (.slice a n c) m z):
  Calls Tryz.prog 102 #[.agg #[.slice a n c,.bool m]] w fun e w'=>e= .returned (.int .i64 (sgn z))∧Below w.heap.size w w':=by
 have hn:=Sl.len h.d
 have e0:(n=0)↔z=0:=by
  rw [hn,List.length_eq_zero_iff,dg_nil_iff (b:=16777216) (by omega)];omega
 have HM:=ζ h.m
 go_enter Tryz.func102,Tryz.ntmps102
 have hW:=ζ (((Below.refl w.heap.size w).alloc (Nat.le_refl _) (.cells #[.slice a n c,.bool m] 40)).alloc (by go_size) (.cells #[.slice a n c] 38))
 have hx:=(Bz.new' (w:=w) (s:= .slice a n c) (m:=m) (b:=w.heap.size) rfl).alloc (.cells #[.slice a n c] 38)
 have c0:=hx.c0
 have c1:=hx.c1
 clear h hx hn
 go_wp2_with fail
 refine(none_any _ _ _ _).mono ?_
 rintro e w' ⟨rfl,rfl⟩
 by_cases hz:z=0
 ·have hn0:((n:Int)==0)=true:=by simpa using e0.2 hz
  rw [hn0]
  go_wp2
  go_ret
  exact⟨by simp [sgn,hz],hW.out⟩
 ·have hn0:((n:Int)==0)=false:=by simpa using fun e=>hz (e0.1 e)
  rw [hn0]
  by_cases hlt:z < 0
  ·have e1:m=true:=by rw [HM.out];simpa using hlt
   subst e1
   go_wp2
   go_ret
   exact⟨by simp [sgn,hz,hlt],hW.out⟩
  ·have e1:m=false:=by rw [HM.out];simpa using hlt
   subst e1
   go_wp2
   go_ret
   exact⟨by simp [sgn,hz,hlt],hW.out⟩
theorem mZ4_0 {P_ : Prop} (h : P_ := by
 rintro e wb ⟨b2,k2,d2,mb,rfl,hz,hb⟩
 have hXb:=ζ (hXa.out.below hb);have hZb:=ζ hz;have HBb:=ζ hb
 clear hz hb
 have c0:=hXb.out.c0;have c1:=hXb.out.c1;have f0:=hXb.out.f0;have f1:=hXb.out.f1
 go_wp2
 have bs:=fun u u'=>(hXb.out.set u u').c0
 have bs1:=fun u u'=>(hXb.out.set u u').c1
 exact bodyPost_ret (v:= .agg #[.slice b2 k2 d2,.bool mb]) (by simp [results,Tryz.results99,go_sem,bs,bs1]) rfl (fin_Z hWa.out HBb.out hXb.out (Nat.le_refl _) hZb.out)) : P_ := h
theorem int_any (k:Int) (hk: -9223372036854775808≤k∧k < 9223372036854775808) (w:World):Calls Tryz.prog 99 #[.int .i64 k] w (RetZ w k):=by
 go_enter Tryz.func99,Tryz.ntmps99
 have hX:=ζ (Bz.new' (w:=w) (s:= .slice none 0 0) (m:=false) (b:=w.heap.size) rfl)
 have hW:=ζ ((Below.refl w.heap.size w).alloc (Nat.le_refl _) (.cells #[.slice none 0 0,.bool false] 40))
 by_cases hlt:k < 0
 ·have e1:IntKind.u64.wrap k=((18446744073709551616 - k.natAbs:Nat):Int):=by rw [IntKind.wrap_u64];omega
  have e2:IntKind.u64.wrap (-((18446744073709551616 - k.natAbs:Nat):Int))=((k.natAbs:Nat):Int):=by rw [IntKind.wrap_u64];omega
  go_wp2_with fail
  refine(word_any k.natAbs _ (by omega)).mono ?_
  rintro e wa ⟨b1,k1,d1,rfl,hd,hb⟩
  have hXa:=ζ (hX.out.below hb);have hWa:=ζ (hW.out.trans (hb.mono hW.out.size));have hDa:=ζ hd
  clear hd hb
  go_wp2_with fail
  refine(made_any true b1 k1 d1 k.natAbs _ hDa.out k (by simp;omega)).mono ?_
  exact mZ4_0
 ·have e1:IntKind.u64.wrap k=((k.natAbs:Nat):Int):=by rw [IntKind.wrap_u64];omega
  go_wp2_with fail
  refine(word_any k.natAbs _ (by omega)).mono ?_
  rintro e wa ⟨b1,k1,d1,rfl,hd,hb⟩
  have hXa:=ζ (hX.out.below hb);have hWa:=ζ (hW.out.trans (hb.mono hW.out.size));have hDa:=ζ hd
  clear hd hb
  go_wp2_with fail
  refine(made_any false b1 k1 d1 k.natAbs _ hDa.out k (by simp;omega)).mono ?_
  exact mZ4_0
theorem cmp_any (a:Option Addr) (n c:Nat) (m:Bool) (z:Int) (a2:Option Addr) (n2 c2:Nat) (m2:Bool) (z2:Int) (w:World) (h:Zd w (.slice a n c) m z) (h2:Zd w (.slice a2 n2 c2) m2 z2)
  (hl:(dg 16777216 z.natAbs).length≤10000000) (hl2:(dg 16777216 z2.natAbs).length≤10000000):
  Calls Tryz.prog 95 #[.agg #[.slice a n c,.bool m],.agg #[.slice a2 n2 c2,.bool m2]] w fun e w'=>e= .returned (.int .i64 (sgn (z - z2)))∧Below w.heap.size w w':=by
 go_enter Tryz.func95,Tryz.ntmps95
 have hB:=ζ (((Below.refl w.heap.size w).alloc (Nat.le_refl _) (.cells #[.slice a n c,.bool m] 40)).alloc (by go_size) (.cells #[.slice a2 n2 c2,.bool m2] 40))
 have hz1:=ζ (h.mono hB.out)
 have hz2:=ζ (h2.mono hB.out)
 clear h h2
 go_wp2_with fail
 refine(sub_any _ _ _ _ z _ _ _ _ z2 _ hz1.out hz2.out hl hl2).mono ?_
 rintro e wa ⟨b1,k1,d1,m3,rfl,hd,hb⟩
 have hBa:=ζ (hB.out.trans (hb.mono hB.out.size));have hDa:=ζ hd
 clear hd hb
 go_wp2_with fail
 refine(sign_any _ _ _ _ _ _ hDa.out).mono ?_
 rintro e wb ⟨rfl,hb⟩
 have hBb:=ζ (hBa.out.trans (hb.mono hBa.out.size))
 clear hb
 go_wp2
 go_ret
 exact⟨rfl,hBb.out⟩
section
theorem sgn_num (q:Rat):sgn q.num=sgnQ q:=by
 unfold sgn sgnQ
 have h:q.num < 0↔q < 0:=by
  rw [←Int.not_le,Rat.num_nonneg,Rat.not_le]
 simp only [Rat.num_eq_zero,h]
theorem sgn_cross (a b:Rat):sgn (a.num*b.den - b.num*a.den)=cmpQ a b:=by
 unfold sgn cmpQ
 have h1:a.num*b.den - b.num*a.den=0↔a=b:=by rw [Rat.eq_iff_mul_eq_mul];omega
 have h2:a.num*b.den - b.num*a.den < 0↔a < b:=by rw [Rat.lt_iff];omega
 simp only [h1,h2]
theorem ratio_parts (n d:Int) (hd:d≠0):
  n / (if d < 0 then -(Int.gcd n d:Int)else(Int.gcd n d:Int))=(Rat.divInt n d).num∧d / (if d < 0 then -(Int.gcd n d:Int)else(Int.gcd n d:Int))=((Rat.divInt n d).den:Int):=by
 rw [Rat.num_divInt,Rat.den_divInt,if_neg hd,Int.gcd_comm d n]
 have g1:((Int.gcd n d:Nat):Int)∣n:=Int.gcd_dvd_left ..
 have g2:((Int.gcd n d:Nat):Int)∣d:=Int.gcd_dvd_right ..
 rcases Int.lt_trichotomy d 0 with h | h | h
 ·rw [if_pos h,Int.sign_eq_neg_one_of_neg h,Int.ediv_neg,Int.ediv_neg,Int.neg_one_mul,Int.neg_ediv_of_dvd g1]
  refine⟨rfl,?_⟩
  rw [←Int.neg_ediv_of_dvd g2]
  rw [show -d=((d.natAbs:Nat):Int)by omega]
  exact_mod_cast rfl
 ·exact absurd h hd
 ·rw [if_neg (by omega),Int.sign_eq_one_of_pos h,Int.one_mul]
  refine⟨rfl,?_⟩
  conv=>lhs;rw [show d=((d.natAbs:Nat):Int)by omega]
  exact_mod_cast rfl
theorem gcd_pos' (n:Int) {d:Int} (hd:d≠0):(0:Int) < Int.gcd n d:=by
 have:0 < Int.gcd n d:=Int.gcd_pos_of_ne_zero_right n hd
 omega
theorem abs_num (q:Rat):(if 0≤q then q else -q).num=(q.num.natAbs:Int):=by
 by_cases h:0≤q
 ·rw [if_pos h];have:=Rat.num_nonneg.2 h;omega
 ·rw [if_neg h,Rat.neg_num];have:=mt Rat.num_nonneg.1 h;omega
theorem abs_den (q:Rat):(if 0≤q then q else -q).den=q.den:=by
 by_cases h:0≤q
 ·rw [if_pos h]
 ·rw [if_neg h,Rat.neg_den]
theorem floor_eq (q:Rat):q.num / (q.den:Int)=q.floor:=(Rat.floor_def q).symm
end
section
open Go.RowKit Dig
structure Rd (w:World) (s:Value) (m:Bool) (s':Value) (q:Rat):Prop where
 z:Zd w s m q.num
 d:Dg w s' (q.den - 1)
theorem Rd.keep {w w':World} {s s':Value} {m:Bool} {q:Rat} (h:Rd w s m s' q) (hk:Keeps w w'):Rd w' s m s' q:=⟨h.z.keep hk,h.d.keep hk⟩
section
variable {w W:World} {bs:List (Nat×Array Value×TypeId)} {rs:List (World→Prop)}
theorem St.pr (h:St w W bs rs) {s s':Value} {m:Bool} {q:Rat} (hz:Rd W s m s' q):St w W bs (rs++ [fun V=>Rd V s m s' q]):=h.push (fun _ _ k hz=>hz.keep k) hz
theorem St.r (h:St w W bs rs) (i:Nat) {s s':Value} {m:Bool} {q:Rat} (hx:rs[i]? =some (fun V=>Rd V s m s' q)):Rd W s m s' q:=(h.rd _ (List.mem_of_getElem? hx)).2
end
def RetR (w:World) (q:Rat) (e:Ending) (w':World):Prop:=∃a n c m a' n' c',e= .returned (.agg #[.slice a n c,.bool m,.slice a' n' c'])∧Rd w' (.slice a n c) m (.slice a' n' c') q∧Below w.heap.size w w'
def RetRE (w:World) (q:Rat) (k:Int) (e:Ending) (w':World):Prop:=∃a n c m a' n' c',e= .returned (.tuple #[.agg #[.slice a n c,.bool m,.slice a' n' c'],.int .i64 k])∧Rd w' (.slice a n c) m (.slice a' n' c') q∧Below w.heap.size w w'
theorem den_sub (q:Rat):(q.den - 1:Nat)+1=q.den:=by have:=q.den_nz;omega
set_option maxHeartbeats 1000000 in
theorem bottom_any (a:Option Addr) (n c:Nat) (m:Bool) (a2:Option Addr) (n2 c2:Nat) (q:Rat) (w:World) (h:Rd w (.slice a n c) m (.slice a2 n2 c2) q) (k:Nat) (hl:Bq k q) (hk:k≤1000000):
  Calls Tryz.prog 91 #[.agg #[.slice a n c,.bool m,.slice a2 n2 c2]] w (RetZ w q.den):=by
 have HL:=ζ (show(dg 16777216 (q.den - 1)).length≤50000 from by
  have:Bd k ((q.den - 1:Nat):Int):=hl.den.of_le (by simp)
  have:=this.len hk
  rwa [Int.natAbs_natCast]at this)
 have HV:=ζ (show(((q.den - 1:Nat):Int)+1*((1:Nat):Int)).toNat=q.den from by have:=den_sub q;omega)
 have hC:=ζ ((((St.enter w).pd h.d).al w.heap.size #[.slice a n c,.bool m,.slice a2 n2 c2] 42 rfl rfl).al (w.heap.size+1) #[.slice none 0 0,.bool false] 40 (by simp) rfl)
 clear h hl hk
 go_enter Tryz.func91,Tryz.ntmps91
 go_wp2
 go_region_held3 (fun w'=>w'.cell? ⟨w.heap.size,2,none⟩=some (.slice a2 n2 c2)∧True)
  (first | exact⟨(hCb.out.set 1 rfl|>.set 1 rfl).cell 0 2 rfl rfl,trivial⟩ | exact⟨hCb.out.cell 0 2 rfl rfl,trivial⟩ | exact⟨hCa.out.cell 0 2 rfl rfl,trivial⟩ | exact⟨hC.out.cell 0 2 rfl rfl,trivial⟩)
  (first
   | (go_at_call 145;refine(word_any 1 _ (by omega)).mono ?_;rintro e wa ⟨b1,k1,d1,rfl,hd,hb⟩;have hCa:=ζ ((hC.out.drew.call hb).pd hd);clear hd hb)
   | (go_at_call 144;refine(plus_any _ _ _ _ _ _ 1 (q.den - 1) 1 _ (hCa.out.d 0 rfl) (hCa.out.d 1 rfl) (.inl rfl) (by omega) (Nat.le_trans HL.out (by omega)) (dg_len_le (by omega) (by omega))).mono ?_;rintro e wb ⟨b2,k2,d2,rfl,hd,hb⟩;have hCb:=ζ ((hCa.out.call hb).pd hd);clear hd hb;have c0:=hCb.out.cell 1 0 rfl rfl;have c1:=hCb.out.cell 1 1 rfl rfl;have f0:=hCb.out.free 1 0 rfl;have f1:=hCb.out.free 1 1 rfl))
 go_wp2
 refine ret_st (hCb.out.set 1 rfl|>.set 1 rfl) (v:= .agg #[.slice b2 k2 d2,.bool false]) (fun hF=>?_) rfl (fun hF=>⟨b2,k2,d2,false,rfl,⟨?_,by simp⟩,hF.be⟩)
 ·have e0:=hF.cell 1 0 rfl rfl
  have e1:=hF.cell 1 1 rfl rfl
  simp [results,Tryz.results91,go_sem,e0,e1]
 ·have:=hF.d 2 rfl
  rw [HV.out]at this
  rw [Int.natAbs_natCast]
  exact this
structure HI (xs L:List Int) (i:Nat):Prop where
 len:L.length=xs.length
 val:2*vl 16777216 L+vl 16777216 (xs.take i) % 2=vl 16777216 (xs.take i)
 rng:∀x∈L,0≤x∧x≤33554432
 zer:∀j,i≤j→L[j]?.getD 0=0
 las:∀j,j+1=i→0≤L[j]?.getD 0∧L[j]?.getD 0≤8388608
theorem HI.start (xs:List Int):HI xs (List.replicate xs.length 0) 0:=
 ⟨by simp,by simp [vl_replicate,vl],fun x hx=>by rw [(List.mem_replicate.1 hx).2];omega,fun j _=>by rw [List.getElem?_replicate];split<;>rfl,fun j h=>by omega⟩
theorem getD_set' (L:List Int) (i j:Nat) (y:Int) (hi:i < L.length):(L.set i y)[j]?.getD 0=if i=j then y else L[j]?.getD 0:=by
 rw [List.getElem?_set]
 by_cases h:i=j
 ·rw [if_pos h,if_pos h,if_pos (by omega)];rfl
 ·rw [if_neg h,if_neg h]
theorem getD_eq {L:List Int} {j:Nat} (h:j < L.length):L[j]?.getD 0=L[j]:=by rw [List.getElem?_eq_getElem h];rfl
theorem HI.first {xs L:List Int} (h:HI xs L 0) (hx:∀x∈xs,0≤x∧x < 16777216) (hi:0 < xs.length):HI xs (L.set 0 (xs[0] / 2)) 1:=by
 have hl:0 < L.length:=by rw [h.len];exact hi
 have b:=hx _ (List.getElem_mem hi)
 have hz:L[0]=0:=by have:=h.zer 0 (Nat.le_refl _);rwa [getD_eq hl]at this
 refine⟨by rw [List.length_set,h.len],?_,?_,?_,?_⟩
 ·have hv:=h.val
  rw [List.take_zero,vl]at hv
  rw [vl_set _ _ hl,hz,show(1:Nat)=0+1 from rfl,vl_take_succ _ hi,List.take_zero,vl]
  simp
  omega
 ·intro x hx'
  rcases List.mem_or_eq_of_mem_set hx' with h' | h'
  ·exact h.rng x h'
  ·omega
 ·intro j hj
  rw [getD_set' _ _ _ _ hl,if_neg (by omega)];exact h.zer j (by omega)
 ·intro j hj
  obtain rfl:j=0:=by omega
  rw [getD_set' _ _ _ _ hl,if_pos rfl];omega
theorem HI.next {xs L:List Int} {i:Nat} (h:HI xs L (i+1)) (hx:∀x∈xs,0≤x∧x < 16777216) (hi:i+1 < xs.length) (hl0:i < (L.set (i+1) (xs[i+1] / 2)).length):
  (0≤(L.set (i+1) (xs[i+1] / 2))[i]∧(L.set (i+1) (xs[i+1] / 2))[i]≤8388608)∧
  HI xs ((L.set (i+1) (xs[i+1] / 2)).set i ((L.set (i+1) (xs[i+1] / 2))[i] +xs[i+1] % 2*8388608)) (i+2):=by
 have hl:i+1 < L.length:=by rw [h.len];exact hi
 have hl1:i < L.length:=by omega
 have b:=hx _ (List.getElem_mem hi)
 have hz:L[i+1]=0:=by have:=h.zer (i+1) (Nat.le_refl _);rwa [getD_eq hl]at this
 have hla:=h.las i rfl
 rw [getD_eq hl1]at hla
 have hg:(L.set (i+1) (xs[i+1] / 2))[i]=L[i]:=by rw [List.getElem_set_ne (by omega)]
 rw [hg]
 refine⟨hla,by rw [List.length_set,List.length_set,h.len],?_,?_,?_,?_⟩
 ·have hv:=h.val
  rw [vl_set _ _ hl0,hg,vl_set _ _ hl,hz,show i+2=(i+1)+1 from rfl,vl_take_succ _ hi]
  have hp:(16777216:Int) ^ (i+1)=16777216 ^ i*16777216:=Int.pow_succ ..
  rw [hp]
  have e1:xs[i+1]=2*(xs[i+1] / 2)+xs[i+1] % 2:=by omega
  generalize xs[i+1] / 2=q at*
  generalize xs[i+1] % 2=r at*
  rw [e1]
  generalize vl 16777216 (xs.take (i+1))=V at*
  generalize vl 16777216 L=W at*
  have e2:V+16777216 ^ i*16777216*(2*q+r)=V+2*(16777216 ^ i*8388608*(2*q+r)):=by grind
  have e3:(V+2*((16777216:Int) ^ i*8388608*(2*q+r))) % 2=V % 2:=by omega
  rw [e2,e3]
  grind
 ·intro x hx'
  rcases List.mem_or_eq_of_mem_set hx' with h' | h'
  ·rcases List.mem_or_eq_of_mem_set h' with h' | h'
   ·exact h.rng x h'
   ·omega
  ·omega
 ·intro j hj
  rw [getD_set' _ _ _ _ hl0,if_neg (by omega),getD_set' _ _ _ _ hl,if_neg (by omega)];exact h.zer j (by omega)
 ·intro j hj
  obtain rfl:j=i+1:=by omega
  rw [getD_set' _ _ _ _ hl0,if_neg (by omega),getD_set' _ _ _ _ hl,if_pos rfl];omega
theorem half_any (a:Option Addr) (n c:Nat) (M:Nat) (w:World) (h1:Dg w (.slice a n c) M) (hlM:(dg 16777216 M).length≤10000000):
  Calls Tryz.prog 187 #[.agg #[.slice a n c]] w (RetD w (M / 2)):=by
 unfold Dg at h1
 have hn:=h1.len
 have L1:=ζ h1.lt
 have HM:=ζ h1
 have VM:=ζ (show vl 16777216 (dg 16777216 M)=(M:Int)from vl_dg (b:=16777216) (by omega) M)
 have MM:=ζ (show ∀x∈dg 16777216 M,0≤x∧x < 16777216 from dg_mem (b:=16777216) (by omega) M)
 clear h1
 generalize dg 16777216 M=xs at*
 subst hn
 go_enter Tryz.func187,Tryz.ntmps187
 go_wp2_with (first | (at_make;refine wpList_make_sl _ rfl _ _ _ rfl 2 Tryz.underlying36 info_i64 _ _ _ _ xs.length xs.length rfl rfl rfl rfl (Nat.le_refl _) (by omega) ?_;intro ho0;simp only [World.size_alloc]at ho0))
 have hB1:=ζ (((((Below.refl w.heap.size w).alloc (Nat.le_refl _) (.cells #[.slice a xs.length c] 38)).alloc (by go_size) (.cells #[.slice none 0 0] 38)).alloc (by go_size) (.cells (madeCells #[.int .i64 0] xs.length) 2)))
 have hX2:=ζ ((((Box.new' (v:= .slice none 0 0) (t:=38) (w:=w.alloc (.cells #[.slice a xs.length c] 38)) (b:=w.heap.size+1) (by simp)).alloc (.cells (madeCells #[.int .i64 0] xs.length) 2))))
 have hO:=ζ ho0
 clear ho0
 go_loopw [13] (fun ix wr=>∃ (i:Nat) (L:List Int),ix= .int .i64 i∧i≤xs.length∧HI xs L i∧Below w.heap.size w wr∧Box wr (w.heap.size+1) (.slice none 0 0) 38∧
   Sl 2 wr (.slice (some ⟨w.heap.size+1+1,0,none⟩) xs.length xs.length) L) (fun ix _=>xs.length - (intOf ix).toNat)
 case atStart=>exact⟨0,_,rfl,Nat.zero_le _,HI.start xs,hB1.out,hX2.out,hO.out⟩
 case round=>
  clear hB1 hX2 hO
  obtain ⟨i,L,rfl,hi,hT,hB,hX2,ho⟩:=hrel
  by_cases hlt:i < xs.length
  ·have sx:Sl 2 wr (.slice a xs.length c) xs:=HM.out.below hB L1.out
   obtain ⟨g1,rfl,hg1⟩:=sx.row (by omega)
   have cx:=sx.cell hlt
   have bX:=MM.out _ (List.getElem_mem hlt)
   have hil:i < L.length:=by rw [hT.len];exact hlt
   have co:=ho.cell hil
   have fo:=ho.free i
   cases i with
   | zero=>
     have HT:=ζ (hT.first MM.out hlt)
     have HB:=ζ hB
     have HX2:=ζ hX2
     have HO:=ζ ho
     clear sx hB hX2 ho hT
     go_wp2
     go_roundw
     case rel=>exact⟨1,_,by go_num,by omega,HT.out,HB.out.setCell (by simp;omega) _,HX2.out.other (by simp) _,HO.out.set _ _⟩
     case measure=>simp [intOf];omega
   | succ i=>
     have hl0:i < (L.set (i+1) (xs[i+1] / 2)).length:=by rw [List.length_set];omega
     have hl1:i < L.length:=by omega
     obtain ⟨b2,hn⟩:=hT.next MM.out hlt hl0
     have hg:(L.set (i+1) (xs[i+1] / 2))[i]=L[i]:=by rw [List.getElem_set_ne (by omega)]
     rw [hg]at b2 hn
     have co2:=(ho.set (i+1) (xs[i+1] / 2)).cell hl0
     rw [hg]at co2
     have fo2:=(ho.set (i+1) (xs[i+1] / 2)).free i
     clear hg
     have hm1:=i64_mask1 xs[i+1]
     have HT:=ζ hn
     have HB:=ζ hB
     have HX2:=ζ hX2
     have HO:=ζ ho
     clear sx hB hX2 ho hT hn
     go_wp2
     go_roundw
     case rel=>exact⟨i+2,_,by go_num,by omega,HT.out,(HB.out.setCell (by simp;omega) _).setCell (by simp;omega) _,(HX2.out.other (by simp) _).other (by simp) _,(HO.out.set _ _).set _ _⟩
     case measure=>simp [intOf];omega
  ·obtain rfl:i=xs.length:=by omega
   have hv:vl 16777216 L=((M / 2:Nat):Int):=by have:=hT.val;rw [List.take_length,VM.out]at this;omega
   have e0:=ζ (show 0≤vl 16777216 L by rw [hv];omega)
   have e1:=ζ (show L.length≤100000000 by rw [hT.len];omega)
   have e2:=ζ (show ∀x∈L,-4611686018427387904≤x∧x≤4611686018427387904 from fun x hx=>by have:=hT.rng x hx;omega)
   have HV:=ζ hv
   have HB:=ζ hB
   have HX2:=ζ hX2
   have HO:=ζ ho
   clear hB hX2 ho hT hv
   go_wp2_with fail
   refine(settled_any _ L _ ⟨_,_,_,rfl⟩ HO.out e2.out e0.out e1.out).mono ?_
   rintro e w2 ⟨a3,n3,c3,rfl,hd,hg2,hs2⟩
   have bx:=HX2.out.grown hg2 (by simp [Value.ownBlock])
   have bc:=bx.cell
   have bf:=bx.free
   have bs:=fun u=>(bx.set u).cell
   have HF:=ζ (fin_D (R:=w.heap.size+1) HB.out (by omega) HX2.out.lt (by omega) (by omega) hd hg2 hs2 HV.out)
   clear hd hg2 hs2 bx
   go_wp2
   exact bodyPost_ret (v:= .agg #[.slice a3 n3 c3]) (by simp [results,Tryz.results187,go_sem,bs]) rfl HF.out
end
end Go.Proofs.YthmdhlopeponcaaGreatDoor

/- a part of the proof -/
import Derived.Test.YthmdhlopeponcaaGreatDoorJ40
import Derived.Test.YthmdhlopeponcaaGreatDoorJ20
import Derived.Test.YthmdhlopeponcaaGreatDoorJ32
import Derived.Test.YthmdhlopeponcaaGreatDoorJ41
import Derived.Test.YthmdhlopeponcaaGreatDoorJ5
import Derived.Test.YthmdhlopeponcaaGreatDoorJ25
import Derived.Test.YthmdhlopeponcaaGreatDoorJ23
namespace Go.Proofs.YthmdhlopeponcaaGreatDoor
open Go.RowKit Dig
def RowQ (w:World) (v:Value) (qs:List Rat):Prop:=∃a c,v= .slice a qs.length c/\∀ (k:Nat) (hk:k < qs.length),∃g s ga gn gc t ha hn hc,a=some ⟨g,0,none⟩/\g < w.heap.size/\
 w.cell? ⟨g,k*4,none⟩=some (.int .i64 s)/\w.cell? ⟨g,k*4+1,none⟩=some (.slice ga gn gc)/\w.cell? ⟨g,k*4+2,none⟩=some (.int .i64 t)/\w.cell? ⟨g,k*4+3,none⟩=some (.slice ha hn hc)/\Nq w s (.slice ga gn gc) t (.slice ha hn hc) qs[k]
theorem RowQ.mono {w w':World} {v:Value} {qs:List Rat} (h:RowQ w v qs) (hb:Below w.heap.size w w'):RowQ w' v qs:=by
 obtain ⟨a,c,rfl,h⟩:=h
 refine⟨a,c,rfl,fun k hk=>?_⟩
 obtain ⟨g,s,ga,gn,gc,t,ha,hn,hc,h1,h2,h3,h4,h5,h6,h7⟩:=h k hk
 exact⟨g,s,ga,gn,gc,t,ha,hn,hc,h1,Nat.lt_of_lt_of_le h2 hb.size,(hb.cell (p:=⟨g,_,none⟩) h2).trans h3,(hb.cell (p:=⟨g,_,none⟩) h2).trans h4,(hb.cell (p:=⟨g,_,none⟩) h2).trans h5,(hb.cell (p:=⟨g,_,none⟩) h2).trans h6,h7.keep (Below.keeps hb)⟩
def NqAll (V:World) (xs:List Value) (qs:List Rat):Prop:=xs.length=qs.length*4/\∀k (hk:k < qs.length),∃s a n c t d e f,xs[k*4]? =some (.int .i64 s)/\xs[k*4+1]? =some (.slice a n c)/\xs[k*4+2]? =some (.int .i64 t)/\xs[k*4+3]? =some (.slice d e f)/\Nq V s (.slice a n c) t (.slice d e f) qs[k]
theorem NqAll.keep {V V':World} {xs:List Value} {qs:List Rat} (h:NqAll V xs qs) (hk:Keeps V V'):NqAll V' xs qs:=⟨h.1,fun k hk'=>by
 obtain ⟨s,a,n,c,t,d,e,f,h1,h2,h3,h4,h5⟩:=h.2 k hk'
 exact⟨s,a,n,c,t,d,e,f,h1,h2,h3,h4,h5.keep hk⟩⟩
theorem NqAll.nil {V:World} :NqAll V [] []:=⟨rfl,fun k hk=>absurd hk (Nat.not_lt_zero k)⟩
section
variable {w W W0:World} {bs:List (Nat×Array Value×TypeId)} {os:List Rw} {rs:List (World->Prop)}
theorem Sy.pSx (h:Sy w W0 bs os rs) (hb:Below W0.heap.size W0 W) {e:TypeId} {size n c:Nat} {a:Option Addr} {xs:List Value} (hr:W.ownsRow W0.heap.size e size (.slice a n c) n xs):Sy w W bs os (rs++ [fun V=>Sx size V a n c xs]):=
 (h.call hb).push fun V hV=>(Sx.owns hr).away hV fun g o hg hm=>by
   have h1:=(h.own_ge hm).2
   rcases hr.2 with ⟨h2,-⟩ | ⟨k,cap,cur,h2,-⟩
   ·rw [Value.slice.injEq]at h2;rw [h2.1]at hg;cases hg
   ·rw [Value.slice.injEq,hg]at h2
    have h3:=h2.1
    simp only [Option.some.injEq,Addr.mk.injEq]at h3
    have:=(World.ownsRow.lt hr g (by rw [hg,h3.2.1];rfl)).1
    omega
end
section
open Go.RowKit Go.Shelf Dig
theorem Strt.cor_in {l:List Pt} {a b:Int} (h:Strt l a b) {x:Int} (hx:x∈cor l a b):hX l 0<=x/\x<=hX l (l.length - 1):=by
 have h1:=mem_cor h.lt hx
 have h2:=h.lo
 have h3:=h.hi
 omega
theorem cor_len (l:List Pt) (a b:Int):2<=(cor l a b).length/\(cor l a b).length<=l.length+2:=by
 unfold cor ins
 rw [List.length_cons,List.length_append,List.length_singleton]
 have:=List.length_filter_le (fun x=>decide (a < x) && decide (x < b)) (l.map (·.x))
 rw [List.length_map]at this
 omega
theorem map_take {l:List Pt} {R:List Int} {k:Nat} (h:k < R.length):(R.map (grd l)).take (k+1)=(R.map (grd l)).take k++ [grd l (bX R k)]:=by
 rw [List.take_succ_eq_append_getElem (by rw [List.length_map];exact h),List.getElem_map,bX_at h]
section
variable (w:World)
end
end
section
section
variable {l:List Pt} {bs:List Int} {d r:Int}
end
section
variable {l:List Pt} {a b x z:Int}
end
section
variable {l:List Pt} {bs:List Int} {x z:Int}
end
def covB (br:Nat->Int) (t:Nat) (b:Int×Int):Bool:=decide (b.1<=br t) && decide (br (t+1)<=b.2)
structure BayOk (br:Nat->Int) (has:Nat->Bool) (i:Nat) (l:List (Int×Int)):Prop where
 cnt:∀t,t < i->l.countP (covB br t)=if has t then 1 else 0
 sep:∀t,t < i->∀b∈l,covB br t b=true\/b.2<=br t\/br (t+1)<=b.1
 rng:∀b∈l,b.1 < b.2/\b.2<=br i
section
variable {bs feet heads:List Int} {low h:Int} {n:Nat}
end
section
variable {l:List Pt} {bs:List Int} {d e r h:Int}
end
section
variable {bs F D:List Int} {h:Int}
end
def partQ (f:Int×Int->Rat) (R:List Int) (k:Nat):Rat:=smQ (((nbr R).take k).map f)
theorem part_step {f:Int×Int->Rat} {R:List Int} {k:Nat} (h:k+1 < R.length):partQ f R (k+1)=partQ f R k+f (bX R k,bX R (k+1)):=by
 have hk:k < (nbr R).length:=by rw [nbr_len];omega
 unfold partQ
 rw [List.take_succ_eq_append_getElem hk,List.map_append,List.map_singleton,smQ_snoc]
 have:=nbr_get h
 rw [List.getElem?_eq_getElem hk]at this
 simp only [Option.some.injEq]at this
 rw [this,bX_at h,bX_at (show k < R.length by omega)]
theorem part_end (f:Int×Int->Rat) (R:List Int):partQ f R (R.length - 1)=smQ ((nbr R).map f):=by
 unfold partQ
 rw [List.take_of_length_le (by rw [nbr_len];exact Nat.le_refl _)]
theorem part_bq {f:Int×Int->Rat} {R:List Int} {N k:Nat} (h:∀t∈nbr R,Bq N (f t)) (hk:k<=62):Bq (62*(N+1)+1) (partQ f R k):=by
 have h1:=smQ_bq (N:=N) (l:=((nbr R).take k).map f) (fun q hq=>by
  obtain ⟨t,ht,rfl⟩:=List.mem_map.1 hq
  exact h t (List.mem_of_mem_take ht))
 have h2:(((nbr R).take k).map f).length*(N+1)<=62*(N+1):=Nat.mul_le_mul_right _ (by rw [List.length_map,List.length_take];omega)
 exact h1.mono (by omega)
section
variable {l:List Pt} {a b z:Int}
theorem Strt.nb (h:Strt l a b) {t:Int×Int} (ht:t∈nbr (cor l a b)):(-100000<=t.1/\t.1<=100000)/\(-100000<=t.2/\t.2<=100000)/\Gd (grd l t.1)/\Gd (grd l t.2):=by
 obtain ⟨i,hi,rfl⟩:=nbr_mem ht
 have h1:=mem_cor h.lt (List.getElem_mem (show i < (cor l a b).length by omega))
 have h2:=mem_cor h.lt (List.getElem_mem hi)
 have h3:=h.ok.bx (i:=0) (by have:=h.ok.two;omega)
 have h4:=h.ok.bx (i:=l.length - 1) (by have:=h.ok.two;omega)
 have h5:=h.lo
 have h6:=h.hi
 refine⟨by dsimp only;omega,by dsimp only;omega,h.gd h1.1 h1.2,h.gd h2.1 h2.2⟩
theorem two_bq:Bq 3 2:=Bq.int (n:=2) (z:=2) (by unfold Bd;decide)
theorem one_bq:Bq 2 1:=Bq.int (n:=1) (z:=1) (by unfold Bd;decide)
theorem intq_bq {x:Int} (h: -400000<=x/\x<=400000):Bq 20 (x:Rat):=Bq.int (n:=19) (by unfold Bd;omega)
theorem Strt.pieceI_bq (h:Strt l a b) (hz: -200000<=z/\z<=200000) {t:Int×Int} (ht:t∈nbr (cor l a b)):Bq 117 (pieceI l z t):=by
 obtain ⟨h1,h2,h3,h4⟩:=h.nb ht
 unfold pieceI
 exact((((h3.bq.plus h4.bq).div two_bq (by decide)).minus (intq_bq (x:=z) (by omega))).mul (intq_bq (x:=t.2 - t.1) (by omega))).mono (by omega)
theorem Strt.pieceA_bq (h:Strt l a b) (hz: -200000<=z/\z<=200000) {t:Int×Int} (ht:t∈nbr (cor l a b)):Bq 174 (pieceA l z t):=by
 obtain ⟨h1,h2,h3,h4⟩:=h.nb ht
 unfold pieceA
 exact posQ_bq (Bq.int (n:=18) (by unfold Bd;omega)) (h3.sub (by omega) (by omega)) (h4.sub (by omega) (by omega))
theorem Strt.integ_is (h:Strt l a b):partQ (pieceI l z) (cor l a b) ((cor l a b).length - 1)=integ l a b z:=by rw [part_end];unfold integ;rw [h.pcs]
theorem Strt.above_is (h:Strt l a b):partQ (pieceA l z) (cor l a b) ((cor l a b).length - 1)=above l a b z:=by rw [part_end];unfold above;rw [h.pcs]
end
theorem refPos_1 {d p q:Rat} {s t:Int} (h1:sgnQ p=s) (h2:sgnQ q=t) (h:s*t < 0) (h3:0 < s):p*(p / (p - q))*d / 2=posQ d p q:=by
 subst h1 h2
 rw [<-refPos_eq];unfold refPos;rw [if_pos h,if_pos h3]
theorem refPos_2 {d p q:Rat} {s t:Int} (h1:sgnQ p=s) (h2:sgnQ q=t) (h:s*t < 0) (h3:¬ 0 < s):q*(1 - p / (p - q))*d / 2=posQ d p q:=by
 subst h1 h2
 rw [<-refPos_eq];unfold refPos;rw [if_pos h,if_neg h3]
theorem refPos_3 {d p q:Rat} {s t:Int} (h1:sgnQ p=s) (h2:sgnQ q=t) (h:¬ s*t < 0) (h3:0 < s\/0 < t):(p+q)*d / 2=posQ d p q:=by
 subst h1 h2
 rw [<-refPos_eq];unfold refPos;rw [if_neg h,if_pos h3]
theorem refPos_4 {d p q:Rat} {s t:Int} (h1:sgnQ p=s) (h2:sgnQ q=t) (h:¬ s*t < 0) (h3:¬ (0 < s\/0 < t)):(0:Rat)=posQ d p q:=by
 subst h1 h2
 rw [<-refPos_eq];unfold refPos;rw [if_neg h,if_neg h3]
theorem sgnQ_in (q:Rat): -1<=sgnQ q/\sgnQ q<=1:=by
 unfold sgnQ
 split
 ·omega
 ·split<;>omega
theorem sgn_ne {p q:Rat} {s t:Int} (h1:sgnQ p=s) (h2:sgnQ q=t) (h:s*t < 0):p - q≠0:=by
 subst h1 h2
 rcases sgn_mul_neg.1 h with ⟨a,b⟩ | ⟨a,b⟩
 ·intro e;have:p=q:=by grind
  subst this;exact absurd a (by grind)
 ·intro e;have:p=q:=by grind
  subst this;exact absurd a (by grind)
end
end Go.Proofs.YthmdhlopeponcaaGreatDoor

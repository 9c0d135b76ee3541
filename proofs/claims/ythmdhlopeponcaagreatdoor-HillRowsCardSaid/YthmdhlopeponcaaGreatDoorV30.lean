/- rows between feet and heads: each tread has as many bays as fit (plain) -/
/- bays stand on feet and end under heads (plain) -/
/- cells of rows of integers -/
import Derived.Test.YthmdhlopeponcaaGreatDoorV29
import Derived.Test.YthmdhlopeponcaaGreatDoorV27
import Derived.Test.YthmdhlopeponcaaGreatDoorV26
import Derived.Test.YthmdhlopeponcaaGreatDoorV28
namespace Go.Proofs.YthmdhlopeponcaaGreatDoor
def covB (br:Nat→Int) (t:Nat) (b:Int×Int):Bool:=decide (b.1≤br t) && decide (br (t+1)≤b.2)
theorem br_le {br:Nat→Int} {n:Nat} (hb:∀i,i < n→br i < br (i+1)) {i j:Nat} (h:i≤j) (hj:j≤n):br i≤br j:=by
 induction j with
 | zero=>obtain rfl:i=0:=by omega
         exact Int.le_refl _
 | succ j ih=>
   rcases Nat.lt_or_ge i (j+1)with h1 | h1
   ·have:=ih (by omega) (by omega);have:=hb j (by omega);omega
   ·obtain rfl:i=j+1:=by omega
    exact Int.le_refl _
theorem br_lt {br:Nat→Int} {n:Nat} (hb:∀i,i < n→br i < br (i+1)) {i j:Nat} (h:i < j) (hj:j≤n):br i < br j:=by
 have:=hb i (by omega)
 have:=br_le hb (show i+1≤j by omega) hj
 omega
structure BayOk (br:Nat→Int) (has:Nat→Bool) (i:Nat) (l:List (Int×Int)):Prop where
 cnt:∀t,t < i→l.countP (covB br t)=if has t then 1 else 0
 sep:∀t,t < i→∀b∈l,covB br t b=true∨b.2≤br t∨br (t+1)≤b.1
 rng:∀b∈l,b.1 < b.2∧b.2≤br i
theorem bay_ok {br:Nat→Int} {has:Nat→Bool} {n:Nat} (hb:∀i,i < n→br i < br (i+1)):∀i,i≤n→BayOk br has i (bayP br has i)
 | 0,_=>⟨fun t h=>absurd h (Nat.not_lt_zero t),fun t h=>absurd h (Nat.not_lt_zero t),fun b h=>by cases h⟩
 | i+1,hi=>by
   have ih:=bay_ok (has:=has) hb i (by omega)
   have hbi:=hb i (by omega)
   have hno:∀b∈bayP br has i,covB br i b=false:=fun b hbm=>by
    have:=ih.rng b hbm
    unfold covB
    rw [Bool.and_eq_false_iff]
    exact .inr (decide_eq_false (by omega))
   have hno0:(bayP br has i).countP (covB br i)=0:=List.countP_eq_zero.2 fun b hbm=>by rw [hno b hbm];exact Bool.false_ne_true
   have split:∀ {t:Nat},t < i+1→t < i∨t=i:=fun h=>by omega
   unfold bayP
   cases hh:has i
   ·rw [if_neg Bool.false_ne_true]
    refine⟨fun t ht=>?_,fun t ht b hbm=>?_,fun b hbm=>?_⟩
    ·rcases split ht with h | rfl
     ·exact ih.cnt t h
     ·rw [hno0,hh];rfl
    ·rcases split ht with h | rfl
     ·exact ih.sep t h b hbm
     ·exact .inr (.inl (ih.rng b hbm).2)
    ·have:=ih.rng b hbm;omega
   ·rw [if_pos rfl]
    by_cases hl:(bayP br has i).getLast?.map (·.2)=some (br i)
    ·rw [if_pos hl]
     generalize bayP br has i=L at*
     rcases List.eq_nil_or_concat L with e | ⟨P,u,e⟩
     ·subst e;cases hl
     rw [List.concat_eq_append]at e
     subst e
     have hu:u.2=br i:=by simpa using hl
     have eP:putTo (P++ [u]) (br (i+1))=P++ [(u.1,br (i+1))]:=by simp [putTo]
     have hu1:=ih.rng u (by simp)
     rw [eP]
     have hcv:∀t,t < i→covB br t (u.1,br (i+1))=covB br t u:=fun t ht=>by
      have h1:=br_le hb (show t+1≤i by omega) (by omega)
      unfold covB
      dsimp only
      rw [decide_eq_true (show br (t+1)≤br (i+1)by omega),decide_eq_true (show br (t+1)≤u.2 by omega)]
     refine⟨fun t ht=>?_,fun t ht b hbm=>?_,fun b hbm=>?_⟩
     ·rcases split ht with h | rfl
      ·have:=ih.cnt t h
       rw [List.countP_append,List.countP_singleton]at this⊢
       rw [hcv t h];exact this
      ·rw [List.countP_append,List.countP_singleton]at hno0
       rw [List.countP_append,List.countP_singleton,hh]
       have h2:covB br t (u.1,br (t+1))=true:=by
        unfold covB
        dsimp only
        rw [Bool.and_eq_true]
        exact⟨decide_eq_true (by omega),decide_eq_true (Int.le_refl _)⟩
       rw [h2,if_pos rfl]
       omega
     ·rcases List.mem_append.1 hbm with hb2 | hb2
      ·rcases split ht with h | rfl
       ·exact ih.sep t h b (List.mem_append_left _ hb2)
       ·exact .inr (.inl (ih.rng b (List.mem_append_left _ hb2)).2)
      ·rw [List.mem_singleton.1 hb2]
       rcases split ht with h | rfl
       ·rw [hcv t h]
        rcases ih.sep t h u (by simp)with h1 | h1 | h1
        ·exact .inl h1
        ·have:=br_lt hb h (show i≤n by omega);omega
        ·exact .inr (.inr h1)
       ·left
        unfold covB
        dsimp only
        rw [Bool.and_eq_true]
        exact⟨decide_eq_true (by omega),decide_eq_true (Int.le_refl _)⟩
     ·rcases List.mem_append.1 hbm with hb2 | hb2
      ·have:=ih.rng b (List.mem_append_left _ hb2);omega
      ·rw [List.mem_singleton.1 hb2];dsimp only;omega
    ·rw [if_neg hl]
     generalize bayP br has i=L at*
     refine⟨fun t ht=>?_,fun t ht b hbm=>?_,fun b hbm=>?_⟩
     ·rcases split ht with h | rfl
      ·rw [List.countP_append,List.countP_singleton,ih.cnt t h]
       have h1:=br_lt hb h (show i≤n by omega)
       have h2:covB br t (br i,br (i+1))=false:=by
        unfold covB
        rw [Bool.and_eq_false_iff]
        exact .inl (decide_eq_false (by dsimp only;omega))
       rw [h2];rfl
      ·rw [List.countP_append,List.countP_singleton,hno0,hh]
       have h2:covB br t (br t,br (t+1))=true:=by
        unfold covB
        rw [Bool.and_eq_true]
        exact⟨decide_eq_true (Int.le_refl _),decide_eq_true (Int.le_refl _)⟩
       rw [h2];rfl
     ·rcases List.mem_append.1 hbm with hb2 | hb2
      ·rcases split ht with h | rfl
       ·exact ih.sep t h b hb2
       ·exact .inr (.inl (ih.rng b hb2).2)
      ·rw [List.mem_singleton.1 hb2]
       rcases split ht with h | rfl
       ·exact .inr (.inr (br_le hb (show t+1≤i by omega) (by omega)))
       ·left
        unfold covB
        rw [Bool.and_eq_true]
        exact⟨decide_eq_true (Int.le_refl _),decide_eq_true (Int.le_refl _)⟩
     ·rcases List.mem_append.1 hbm with hb2 | hb2
      ·have:=ih.rng b hb2;omega
      ·rw [List.mem_singleton.1 hb2];dsimp only;omega
section
variable {bs feet heads:List Int} {low h:Int} {n:Nat}
abbrev Rw3:=Int×Int×List (Int×Int)
def cntT (bs:List Int) (t:Nat) (r:Rw3):Nat:=r.2.2.countP (covB (bX bs) t)
theorem sum_append (a b:List Nat):(a++b).sum=a.sum+b.sum:=List.sum_append
theorem rows_count (hb:∀i,i < n→bX bs i < bX bs (i+1)) {t:Nat} (ht:t < n):∀i,((rowsUp bs feet heads low h n i).map (cntT bs t)).sum=(List.range i).countP (fun i:Nat=>hasR feet heads (low+i*h) h t)
 | 0=>rfl
 | i+1=>by
   unfold rowsUp
   rw [List.map_append,List.sum_append,rows_count hb ht i,List.range_succ,List.countP_append,List.countP_singleton]
   congr 1
   have hk:=(bay_ok (has:=hasR feet heads (low+i*h) h) hb n (Nat.le_refl _)).cnt t ht
   unfold rowOf
   by_cases h0:(baysP bs feet heads (low+i*h) h n).length=0
   ·rw [if_pos h0]
    unfold baysP at h0
    rw [List.length_eq_zero_iff.1 h0]at hk
    rw [List.countP_nil]at hk
    exact hk
   ·rw [if_neg h0,List.map_cons,List.map_nil,List.sum_cons,List.sum_nil,Nat.add_zero]
    exact hk
theorem rows_mem:∀i,∀r∈rowsUp bs feet heads low h n i,∃k,k < i∧r=(low+(k:Nat)*h,low+(k:Nat)*h+h,baysP bs feet heads (low+(k:Nat)*h) h n)
 | 0,r,hr=>by cases hr
 | i+1,r,hr=>by
   unfold rowsUp at hr
   rcases List.mem_append.1 hr with hr | hr
   ·obtain ⟨k,hk,e⟩:=rows_mem i r hr
    exact⟨k,by omega,e⟩
   ·unfold rowOf at hr
    split at hr
    ·cases hr
    ·exact⟨i,by omega,List.mem_singleton.1 hr⟩
theorem rows_up (hh:0≤h):∀i,(rowsUp bs feet heads low h n i).Pairwise (fun r s=>r.2.1≤s.1)
 | 0=>List.Pairwise.nil
 | i+1=>by
   unfold rowsUp
   refine List.pairwise_append.2 ⟨rows_up hh i,?_,fun r hr s hs=>?_⟩
   ·unfold rowOf
    split
    ·exact List.Pairwise.nil
    ·exact List.pairwise_singleton ..
   ·obtain ⟨k,hk,rfl⟩:=rows_mem i r hr
    unfold rowOf at hs
    split at hs
    ·cases hs
    ·rw [List.mem_singleton.1 hs]
     dsimp only
     have:=Int.mul_le_mul_of_nonneg_right (show((k:Int)+1)≤(i:Int)by omega) hh
     rw [Int.add_mul,Int.one_mul]at this
     omega
theorem count_between (A B:Nat):∀N,(List.range N).countP (fun i=>decide (A≤i) && decide (i < B))=min N B - A
 | 0=>by simp
 | N+1=>by
   rw [List.range_succ,List.countP_append,List.countP_singleton,count_between A B N]
   by_cases h1:A≤N<;>by_cases h2:N < B<;>simp [h1,h2]<;>omega
theorem has_count {f hd top:Int} (hh:1≤h) (h1:low≤f) (h2:f≤hd) (h3:hd≤top):
  (((List.range (rowN low top h)).countP (fun i=>decide (f≤low+(i:Nat)*h) && decide (low+(i:Nat)*h+h≤hd)):Nat):Int)=max 0 ((hd - low) / h - (f - low+h - 1) / h):=by
 have hp:0 < h:=by omega
 have e:(fun i:Nat=>decide (f≤low+(i:Nat)*h) && decide (low+(i:Nat)*h+h≤hd))=fun i:Nat=>decide (((f - low+h - 1) / h).toNat≤i) && decide (i < ((hd - low) / h).toNat):=by
  funext i
  congr 1
  ·apply decide_eq_decide.2
   rw [Int.toNat_le]
   rw [Int.ediv_le_iff_le_mul hp]
   constructor<;>intro g<;>omega
  ·apply decide_eq_decide.2
   rw [Int.lt_toNat,←Int.add_one_le_iff,Int.le_ediv_iff_mul_le hp,Int.add_mul,Int.one_mul]
   constructor<;>intro g<;>omega
 rw [e,count_between]
 unfold rowN
 have q1:(hd - low) / h≤(top - low) / h:=Int.ediv_le_ediv hp (by omega)
 have q2:0≤(f - low+h - 1) / h:=Int.ediv_nonneg (by omega) (by omega)
 have q3:0≤(hd - low) / h:=Int.ediv_nonneg (by omega) (by omega)
 omega
end
section
variable {l:List Pt} {bs:List Int} {d e r h:Int}
def headsL (l:List Pt) (bs:List Int) (e r:Int):List Int:=folL max (-r) ((nbr bs).map fun t=>headI l t.1 t.2 e)
theorem headsL_len:(headsL l bs e r).length=bs.length - 1:=by unfold headsL;rw [folL_len,List.length_map,nbr_len]
theorem headsL_at {i:Nat} (hi:i < bs.length - 1):bX (headsL l bs e r) i= -bX (folL min r (baseL (downL l) bs e)) i:=down_heads e r hi
theorem heads_in (hk:brkB l bs=true) (he:0≤e∧e≤3000) (hr:0≤r):∀z∈headsL l bs e r,-100000≤z∧z≤103000:=by
 intro z hz
 obtain ⟨i,hi,rfl⟩:=List.getElem_of_mem hz
 rw [←bX_at hi]
 rw [headsL_len]at hi
 rw [headsL_at hi]
 have hm:bX (folL min r (baseL (downL l) bs e)) i∈folL min r (baseL (downL l) bs e):=by
  rw [bX_at (by rw [folL_len,baseL_len];exact hi)];exact List.getElem_mem _
 have:=feet_in (down_brk hk) he hr _ hm
 omega
theorem foot_head (hk:brkB l bs=true) (hd:0≤d) (he:0≤e) (hr:0≤r) {i:Nat} (hi:i < bs.length - 1):bX (folL min r (baseL l bs d)) i≤bX (headsL l bs e r) i:=by
 have h1:=(keepB_iff.1 (feet_keep (l:=l) (bs:=bs) (d:=d) hr) i (by rw [folL_len,baseL_len];exact hi)).1
 have h2:=(keepB_iff.1 (feet_keep (l:=downL l) (bs:=bs) (d:=e) hr) i (by rw [folL_len,baseL_len];exact hi)).1
 rw [headsL_at hi]
 rw [down_foot]at h2
 have hT:Strt l (bX bs i) (bX bs (i+1)):=by
  rw [bX_at (show i+1 < bs.length by omega),bX_at (show i < bs.length by omega)];exact brk_strt hk (List.mem_of_getElem? (nbr_get (by omega)))
 have h3:=Rat.floor_le (loQ l (bX bs i) (bX bs (i+1)))
 have h4:hiQ l (bX bs i) (bX bs (i+1))≤((hiQ l (bX bs i) (bX bs (i+1))).ceil:Rat):=Rat.le_ceil
 obtain ⟨x,hx,ex⟩:=hT.lo_is.2
 have h5:=hT.hi_is.1 x hx
 rw [←ex]at h5
 have h6:((loQ l (bX bs i) (bX bs (i+1))).floor:Rat)≤((hiQ l (bX bs i) (bX bs (i+1))).ceil:Rat):=Rat.le_trans h3 (Rat.le_trans h5 h4)
 have h7:=cast_le_iff.1 h6
 unfold footI at h1
 unfold headI at h2
 omega
end
section
variable {bs F D:List Int} {h:Int}
theorem minL_le {l:List Int} (h0:0 < l.length):∀z∈l,minL l≤z:=by
 cases l with
 | nil=>simp at h0
 | cons a r=>
   intro z hz
   show r.foldl min a≤z
   have key:∀ (r:List Int) (a:Int),r.foldl min a≤a∧∀z∈r,r.foldl min a≤z:=by
    intro r
    induction r with
    | nil=>intro a;exact⟨Int.le_refl _,fun z hz=>by cases hz⟩
    | cons b r ih=>
      intro a
      rw [List.foldl_cons]
      have:=ih (min a b)
      refine⟨by omega,fun z hz=>?_⟩
      rcases List.mem_cons.1 hz with rfl | hz
      ·omega
      ·exact this.2 z hz
   rcases List.mem_cons.1 hz with rfl | hz
   ·exact(key r z).1
   ·exact(key r a).2 z hz
theorem le_maxL {l:List Int} (h0:0 < l.length):∀z∈l,z≤maxL l:=by
 cases l with
 | nil=>simp at h0
 | cons a r=>
   intro z hz
   show z≤r.foldl max a
   have key:∀ (r:List Int) (a:Int),a≤r.foldl max a∧∀z∈r,z≤r.foldl max a:=by
    intro r
    induction r with
    | nil=>intro a;exact⟨Int.le_refl _,fun z hz=>by cases hz⟩
    | cons b r ih=>
      intro a
      rw [List.foldl_cons]
      have:=ih (max a b)
      refine⟨by omega,fun z hz=>?_⟩
      rcases List.mem_cons.1 hz with rfl | hz
      ·omega
      ·exact this.2 z hz
   rcases List.mem_cons.1 hz with rfl | hz
   ·exact(key r z).1
   ·exact(key r a).2 z hz
theorem stand_row (hu:∀i,i < bs.length - 1→bX bs i < bX bs (i+1)) {x:Rw3} (hx:x∈rowsL bs F D h) {t:Nat} (ht:t < bs.length - 1):
  x.2.1=x.1+h∧x.2.2.length≤bs.length - 1∧∀b∈x.2.2,(covB (bX bs) t b=true∧bX F t≤x.1∧x.2.1≤bX D t)∨(covB (bX bs) t b=false∧(b.2≤bX bs t∨bX bs (t+1)≤b.1)):=by
 unfold rowsL at hx
 obtain ⟨k,_,rfl⟩:=rows_mem _ x hx
 have hB:=bay_ok (has:=hasR F D (minL F+(k:Nat)*h) h) hu (bs.length - 1) (Nat.le_refl _)
 refine⟨rfl,bayP_len _ _ _,fun b hb=>?_⟩
 cases hc:covB (bX bs) t b
 ·rcases hB.sep t ht b hb with h1 | h1
  ·rw [hc]at h1;cases h1
  ·exact .inr ⟨rfl,h1⟩
 ·left
  refine⟨rfl,?_⟩
  have h1:=hB.cnt t ht
  have h2:0 < (baysP bs F D (minL F+(k:Nat)*h) h (bs.length - 1)).countP (covB (bX bs) t):=List.countP_pos_iff.2 ⟨b,hb,hc⟩
  unfold baysP at h2
  rw [h1]at h2
  split at h2
  ·rename_i hh
   unfold hasR at hh
   rw [Bool.and_eq_true,decide_eq_true_iff,decide_eq_true_iff]at hh
   exact hh
  ·omega
theorem stand_up (hh:0≤h) {k:Nat} (h1:k+1 < (rowsL bs F D h).length):((rowsL bs F D h)[k]).2.1≤((rowsL bs F D h)[k+1]).1:=by
 have:=rows_up (bs:=bs) (feet:=F) (heads:=D) (low:=minL F) (n:=bs.length - 1) hh (rowN (minL F) (maxL D) h)
 exact List.pairwise_iff_getElem.1 this k (k+1) (by unfold rowsL at h1;omega) (by unfold rowsL at h1;exact h1) (by omega)
theorem stand_many (hu:∀i,i < bs.length - 1→bX bs i < bX bs (i+1)) (hh:1≤h) (hF:F.length=bs.length - 1) (hD:D.length=bs.length - 1) {t:Nat} (ht:t < bs.length - 1) (hle:bX F t≤bX D t):
  ((((rowsL bs F D h).map (cntT bs t)).sum:Nat):Int)=max 0 ((bX D t - minL F) / h - (bX F t - minL F+h - 1) / h):=by
 unfold rowsL
 rw [rows_count hu ht]
 have h1:minL F≤bX F t:=minL_le (by omega) _ (by rw [bX_at (show t < F.length by omega)];exact List.getElem_mem _)
 have h2:bX D t≤maxL D:=le_maxL (by omega) _ (by rw [bX_at (show t < D.length by omega)];exact List.getElem_mem _)
 exact has_count hh h1 hle h2
theorem sum_le {α:Type} (f:α→Nat) (c:Nat):∀l:List α,(∀x∈l,f x≤c)→(l.map f).sum≤c*l.length
 | [],_=>Nat.zero_le _
 | x::l,h=>by
   rw [List.map_cons,List.sum_cons,List.length_cons,Nat.mul_add]
   have:=sum_le f c l (fun y hy=>h y (List.mem_cons_of_mem _ hy))
   have:=h x List.mem_cons_self
   omega
theorem cntT_le (t:Nat) (x:Rw3):cntT bs t x≤x.2.2.length:=List.countP_le_length
theorem stand_low (hh:1≤h) {x:Rw3} (hx:x∈rowsL bs F D h):minL F≤x.1∧x.1+h≤maxL D:=by
 unfold rowsL at hx
 obtain ⟨k,hk,rfl⟩:=rows_mem _ x hx
 have h1:=(row_more (low:=minL F) (top:=maxL D) hh).1 hk
 have h2:=Int.mul_nonneg (show(0:Int)≤(k:Int)by omega) (show 0≤h by omega)
 dsimp only
 omega
end
end Go.Proofs.YthmdhlopeponcaaGreatDoor
namespace Go.Proofs.YthmdhlopeponcaaGreatDoor
open Go.RowKit Go.Shelf Dig
theorem Sx.atX {W:World} {g o n c:Nat} {l:List Int} (h:Sx 1 W (some ⟨g,o,none⟩) n c (L1 l)) {i:Nat} (hi:i < l.length):W.cell? ⟨g,o+i,none⟩=some (.int .i64 (bX l i)):=by rw [bX_at hi];exact h.at1 hi
theorem bX_in {l:List Int} {P:Int→Prop} (h:∀z∈l,P z) {i:Nat} (hi:i < l.length):P (bX l i):=by rw [bX_at hi];exact h _ (List.getElem_mem hi)
theorem L1_one (l:List Int):∀u∈L1 l,u.oneCell'=true:=fun u hu=>by
 obtain ⟨x,_,rfl⟩:=List.mem_map.1 hu
 rfl
end Go.Proofs.YthmdhlopeponcaaGreatDoor

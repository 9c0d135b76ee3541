/- rows between feet and heads: each tread has as many bays as fit (plain) -/
import Derived.Test.YthmdhlopeponcaaGreatDoorJ42
import Derived.Test.YthmdhlopeponcaaGreatDoorJ28
namespace Go.Proofs.YthmdhlopeponcaaGreatDoor
def covB (br:Nat→Int) (t:Nat) (b:Int×Int):Bool:=decide (b.1≤br t) && decide (br (t+1)≤b.2)
theorem br_le {br:Nat→Int} {n:Nat} (hb:∀i,i < n→br i < br (i+1)) {i j:Nat} (h:i≤j) (hj:j≤n):br i≤br j:=by
 induction j with
 | zero=>obtain rfl:i=0:=by omega
         exact Int.le_refl _
 | succ j ih=>
   rcases Nat.lt_or_ge i (j+1)with h1 | h1
   ·have:=ih (by omega) (by omega);have:=hb j (by omega);omega
   ·obtain rfl:i=j+1:=by omega
    exact Int.le_refl _
theorem br_lt {br:Nat→Int} {n:Nat} (hb:∀i,i < n→br i < br (i+1)) {i j:Nat} (h:i < j) (hj:j≤n):br i < br j:=by
 have:=hb i (by omega)
 have:=br_le hb (show i+1≤j by omega) hj
 omega
structure BayOk (br:Nat→Int) (has:Nat→Bool) (i:Nat) (l:List (Int×Int)):Prop where
 cnt:∀t,t < i→l.countP (covB br t)=if has t then 1 else 0
 sep:∀t,t < i→∀b∈l,covB br t b=true∨b.2≤br t∨br (t+1)≤b.1
 rng:∀b∈l,b.1 < b.2∧b.2≤br i
theorem bay_ok {br:Nat→Int} {has:Nat→Bool} {n:Nat} (hb:∀i,i < n→br i < br (i+1)):∀i,i≤n→BayOk br has i (bayP br has i)
 | 0,_=>⟨fun t h=>absurd h (Nat.not_lt_zero t),fun t h=>absurd h (Nat.not_lt_zero t),fun b h=>by cases h⟩
 | i+1,hi=>by
   have ih:=bay_ok (has:=has) hb i (by omega)
   have hbi:=hb i (by omega)
   have hno:∀b∈bayP br has i,covB br i b=false:=fun b hbm=>by
    have:=ih.rng b hbm
    unfold covB
    rw [Bool.and_eq_false_iff]
    exact .inr (decide_eq_false (by omega))
   have hno0:(bayP br has i).countP (covB br i)=0:=List.countP_eq_zero.2 fun b hbm=>by rw [hno b hbm];exact Bool.false_ne_true
   have split:∀ {t:Nat},t < i+1→t < i∨t=i:=fun h=>by omega
   unfold bayP
   cases hh:has i
   ·rw [if_neg Bool.false_ne_true]
    refine⟨fun t ht=>?_,fun t ht b hbm=>?_,fun b hbm=>?_⟩
    ·rcases split ht with h | rfl
     ·exact ih.cnt t h
     ·rw [hno0,hh];rfl
    ·rcases split ht with h | rfl
     ·exact ih.sep t h b hbm
     ·exact .inr (.inl (ih.rng b hbm).2)
    ·have:=ih.rng b hbm;omega
   ·rw [if_pos rfl]
    by_cases hl:(bayP br has i).getLast?.map (·.2)=some (br i)
    ·rw [if_pos hl]
     generalize bayP br has i=L at*
     rcases List.eq_nil_or_concat L with e | ⟨P,u,e⟩
     ·subst e;cases hl
     rw [List.concat_eq_append]at e
     subst e
     have hu:u.2=br i:=by simpa using hl
     have eP:putTo (P++ [u]) (br (i+1))=P++ [(u.1,br (i+1))]:=by simp [putTo]
     have hu1:=ih.rng u (by simp)
     rw [eP]
     have hcv:∀t,t < i→covB br t (u.1,br (i+1))=covB br t u:=fun t ht=>by
      have h1:=br_le hb (show t+1≤i by omega) (by omega)
      unfold covB
      dsimp only
      rw [decide_eq_true (show br (t+1)≤br (i+1)by omega),decide_eq_true (show br (t+1)≤u.2 by omega)]
     refine⟨fun t ht=>?_,fun t ht b hbm=>?_,fun b hbm=>?_⟩
     ·rcases split ht with h | rfl
      ·have:=ih.cnt t h
       rw [List.countP_append,List.countP_singleton]at this⊢
       rw [hcv t h];exact this
      ·rw [List.countP_append,List.countP_singleton]at hno0
       rw [List.countP_append,List.countP_singleton,hh]
       have h2:covB br t (u.1,br (t+1))=true:=by
        unfold covB
        dsimp only
        rw [Bool.and_eq_true]
        exact⟨decide_eq_true (by omega),decide_eq_true (Int.le_refl _)⟩
       rw [h2,if_pos rfl]
       omega
     ·rcases List.mem_append.1 hbm with hb2 | hb2
      ·rcases split ht with h | rfl
       ·exact ih.sep t h b (List.mem_append_left _ hb2)
       ·exact .inr (.inl (ih.rng b (List.mem_append_left _ hb2)).2)
      ·rw [List.mem_singleton.1 hb2]
       rcases split ht with h | rfl
       ·rw [hcv t h]
        rcases ih.sep t h u (by simp)with h1 | h1 | h1
        ·exact .inl h1
        ·have:=br_lt hb h (show i≤n by omega);omega
        ·exact .inr (.inr h1)
       ·left
        unfold covB
        dsimp only
        rw [Bool.and_eq_true]
        exact⟨decide_eq_true (by omega),decide_eq_true (Int.le_refl _)⟩
     ·rcases List.mem_append.1 hbm with hb2 | hb2
      ·have:=ih.rng b (List.mem_append_left _ hb2);omega
      ·rw [List.mem_singleton.1 hb2];dsimp only;omega
    ·rw [if_neg hl]
     generalize bayP br has i=L at*
     refine⟨fun t ht=>?_,fun t ht b hbm=>?_,fun b hbm=>?_⟩
     ·rcases split ht with h | rfl
      ·rw [List.countP_append,List.countP_singleton,ih.cnt t h]
       have h1:=br_lt hb h (show i≤n by omega)
       have h2:covB br t (br i,br (i+1))=false:=by
        unfold covB
        rw [Bool.and_eq_false_iff]
        exact .inl (decide_eq_false (by dsimp only;omega))
       rw [h2];rfl
      ·rw [List.countP_append,List.countP_singleton,hno0,hh]
       have h2:covB br t (br t,br (t+1))=true:=by
        unfold covB
        rw [Bool.and_eq_true]
        exact⟨decide_eq_true (Int.le_refl _),decide_eq_true (Int.le_refl _)⟩
       rw [h2];rfl
     ·rcases List.mem_append.1 hbm with hb2 | hb2
      ·rcases split ht with h | rfl
       ·exact ih.sep t h b hb2
       ·exact .inr (.inl (ih.rng b hb2).2)
      ·rw [List.mem_singleton.1 hb2]
       rcases split ht with h | rfl
       ·exact .inr (.inr (br_le hb (show t+1≤i by omega) (by omega)))
       ·left
        unfold covB
        rw [Bool.and_eq_true]
        exact⟨decide_eq_true (Int.le_refl _),decide_eq_true (Int.le_refl _)⟩
     ·rcases List.mem_append.1 hbm with hb2 | hb2
      ·have:=ih.rng b hb2;omega
      ·rw [List.mem_singleton.1 hb2];dsimp only;omega
section
variable {bs feet heads:List Int} {low h:Int} {n:Nat}
abbrev Rw3:=Int×Int×List (Int×Int)
def cntT (bs:List Int) (t:Nat) (r:Rw3):Nat:=r.2.2.countP (covB (bX bs) t)
theorem sum_append (a b:List Nat):(a++b).sum=a.sum+b.sum:=List.sum_append
theorem rows_count (hb:∀i,i < n→bX bs i < bX bs (i+1)) {t:Nat} (ht:t < n):∀i,((rowsUp bs feet heads low h n i).map (cntT bs t)).sum=(List.range i).countP (fun i:Nat=>hasR feet heads (low+i*h) h t)
 | 0=>rfl
 | i+1=>by
   unfold rowsUp
   rw [List.map_append,List.sum_append,rows_count hb ht i,List.range_succ,List.countP_append,List.countP_singleton]
   congr 1
   have hk:=(bay_ok (has:=hasR feet heads (low+i*h) h) hb n (Nat.le_refl _)).cnt t ht
   unfold rowOf
   by_cases h0:(baysP bs feet heads (low+i*h) h n).length=0
   ·rw [if_pos h0]
    unfold baysP at h0
    rw [List.length_eq_zero_iff.1 h0]at hk
    rw [List.countP_nil]at hk
    exact hk
   ·rw [if_neg h0,List.map_cons,List.map_nil,List.sum_cons,List.sum_nil,Nat.add_zero]
    exact hk
theorem rows_mem:∀i,∀r∈rowsUp bs feet heads low h n i,∃k,k < i∧r=(low+(k:Nat)*h,low+(k:Nat)*h+h,baysP bs feet heads (low+(k:Nat)*h) h n)
 | 0,r,hr=>by cases hr
 | i+1,r,hr=>by
   unfold rowsUp at hr
   rcases List.mem_append.1 hr with hr | hr
   ·obtain ⟨k,hk,e⟩:=rows_mem i r hr
    exact⟨k,by omega,e⟩
   ·unfold rowOf at hr
    split at hr
    ·cases hr
    ·exact⟨i,by omega,List.mem_singleton.1 hr⟩
theorem rows_up (hh:0≤h):∀i,(rowsUp bs feet heads low h n i).Pairwise (fun r s=>r.2.1≤s.1)
 | 0=>List.Pairwise.nil
 | i+1=>by
   unfold rowsUp
   refine List.pairwise_append.2 ⟨rows_up hh i,?_,fun r hr s hs=>?_⟩
   ·unfold rowOf
    split
    ·exact List.Pairwise.nil
    ·exact List.pairwise_singleton ..
   ·obtain ⟨k,hk,rfl⟩:=rows_mem i r hr
    unfold rowOf at hs
    split at hs
    ·cases hs
    ·rw [List.mem_singleton.1 hs]
     dsimp only
     have:=Int.mul_le_mul_of_nonneg_right (show((k:Int)+1)≤(i:Int)by omega) hh
     rw [Int.add_mul,Int.one_mul]at this
     omega
theorem count_between (A B:Nat):∀N,(List.range N).countP (fun i=>decide (A≤i) && decide (i < B))=min N B - A
 | 0=>by simp
 | N+1=>by
   rw [List.range_succ,List.countP_append,List.countP_singleton,count_between A B N]
   by_cases h1:A≤N<;>by_cases h2:N < B<;>simp [h1,h2]<;>omega
theorem has_count {f hd top:Int} (hh:1≤h) (h1:low≤f) (h2:f≤hd) (h3:hd≤top):
  (((List.range (rowN low top h)).countP (fun i=>decide (f≤low+(i:Nat)*h) && decide (low+(i:Nat)*h+h≤hd)):Nat):Int)=max 0 ((hd - low) / h - (f - low+h - 1) / h):=by
 have hp:0 < h:=by omega
 have e:(fun i:Nat=>decide (f≤low+(i:Nat)*h) && decide (low+(i:Nat)*h+h≤hd))=fun i:Nat=>decide (((f - low+h - 1) / h).toNat≤i) && decide (i < ((hd - low) / h).toNat):=by
  funext i
  congr 1
  ·apply decide_eq_decide.2
   rw [Int.toNat_le]
   rw [Int.ediv_le_iff_le_mul hp]
   constructor<;>intro g<;>omega
  ·apply decide_eq_decide.2
   rw [Int.lt_toNat,←Int.add_one_le_iff,Int.le_ediv_iff_mul_le hp,Int.add_mul,Int.one_mul]
   constructor<;>intro g<;>omega
 rw [e,count_between]
 unfold rowN
 have q1:(hd - low) / h≤(top - low) / h:=Int.ediv_le_ediv hp (by omega)
 have q2:0≤(f - low+h - 1) / h:=Int.ediv_nonneg (by omega) (by omega)
 have q3:0≤(hd - low) / h:=Int.ediv_nonneg (by omega) (by omega)
 omega
end
end Go.Proofs.YthmdhlopeponcaaGreatDoor

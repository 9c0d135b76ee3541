/- rows, as the reference counts them (plain) -/
import Derived.Test.YthmdhlopeponcaaGreatDoorV30
namespace Go.Proofs.YthmdhlopeponcaaGreatDoor
open Go.RowKit Go.Shelf Dig
theorem bayP_none {br:Nat→Int} {has:Nat→Bool} :∀n,(∀i,i < n→has i=false)→bayP br has n= []
 | 0,_=>rfl
 | n+1,h=>by
   unfold bayP
   rw [h n (by omega),bayP_none n (fun i hi=>h i (by omega))]
   simp
theorem rows_more {bs feet heads:List Int} {lo h:Int} {nn NR:Nat} (hno:∀i:Nat,NR≤i→∀k,k < nn→hasR feet heads (lo+i*h) h k=false):∀m,NR≤m→rowsUp bs feet heads lo h nn m=rowsUp bs feet heads lo h nn NR
 | 0,hm=>by rw [show NR=0 by omega]
 | m+1,hm=>by
   rcases Nat.lt_or_ge m NR with h1 | h1
   ·rw [show NR=m+1 by omega]
   ·show rowsUp bs feet heads lo h nn m++rowOf (lo+m*h) h (bayP (bX bs) (hasR feet heads (lo+m*h) h) nn)=_
    rw [rows_more hno m h1,bayP_none nn (hno m h1)]
    simp [rowOf]
theorem rows_200 {bs feet heads:List Int} {h:Int} {nn:Nat} (hh:1≤h) (hn:0 < nn) (hl:heads.length=nn) (hm:maxL heads - minL feet≤200*h):rowsUp bs feet heads (minL feet) h nn 200=rowsUp bs feet heads (minL feet) h nn (rowN (minL feet) (maxL heads) h):=by
 refine rows_more (fun i hi k hk=>?_) 200 ?_
 ·have h1:¬ i < rowN (minL feet) (maxL heads) h:=by omega
  rw [row_more hh]at h1
  have h2:=le_maxL (l:=heads) (by omega) (bX heads k) (by rw [bX_at (show k < heads.length by omega)];exact List.getElem_mem _)
  unfold hasR
  rw [decide_eq_false (show ¬ minL feet+i*h+h≤bX heads k by omega),Bool.and_false]
 ·rcases Nat.lt_or_ge 200 (rowN (minL feet) (maxL heads) h)with q | q
  ·have:=(row_more hh).1 q
   omega
  ·exact q
theorem bay_RP {bs:List Int} {has:Nat→Bool} {n:Nat} (hb:∀i,i < n→bX bs i < bX bs (i+1)):bayR (bX bs) has n=bayP (bX bs) has n:=(bay_eq hb n (Nat.le_refl n)).1.symm
theorem bayR_len (br:Nat→Int) (has:Nat→Bool):∀n,(bayR br has n).length≤n
 | 0=>Nat.le_refl _
 | n+1=>by
   have ih:=bayR_len br has n
   unfold bayR
   split
   ·rw [putTo_len];omega
   ·split
    ·rw [List.length_append,List.length_singleton];omega
    ·omega
theorem bayR_open {br:Nat→Int} {has:Nat→Bool} :∀n,opn has n=true→0 < (bayR br has n).length
 | 0,h=>absurd h (by simp [opn])
 | n+1,h=>by
   have h1:has n=true:=h
   unfold bayR
   rw [h1,Bool.true_and]
   split
   ·rename_i h2
    rw [putTo_len]
    exact bayR_open n h2
   ·simp
end Go.Proofs.YthmdhlopeponcaaGreatDoor

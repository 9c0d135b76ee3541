/- a part of the proof -/
import Derived.Test.YthmdhlopeponcaaGreatDoorJ0
import Derived.Test.YthmdhlopeponcaaGreatDoorJ7
set_option maxRecDepth 100000
set_option maxHeartbeats 1000000
namespace Go.Proofs.YthmdhlopeponcaaGreatDoor
open Go.RowKit Dig
structure HI (xs L:List Int) (i:Nat):Prop where
 len:L.length=xs.length
 val:2*vl 16777216 L+vl 16777216 (xs.take i) % 2=vl 16777216 (xs.take i)
 rng:∀x∈L,0<=x/\x<=33554432
 zer:∀j,i<=j->L[j]?.getD 0=0
 las:∀j,j+1=i->0<=L[j]?.getD 0/\L[j]?.getD 0<=8388608
theorem HI.start (xs:List Int):HI xs (List.replicate xs.length 0) 0:=
 ⟨by simp,by simp [vl_replicate,vl],fun x hx=>by rw [(List.mem_replicate.1 hx).2];omega,fun j _=>by rw [List.getElem?_replicate];split<;>rfl,fun j h=>by omega⟩
theorem getD_set' (L:List Int) (i j:Nat) (y:Int) (hi:i < L.length):(L.set i y)[j]?.getD 0=if i=j then y else L[j]?.getD 0:=by
 rw [List.getElem?_set]
 by_cases h:i=j
 ·rw [if_pos h,if_pos h,if_pos (by omega)];rfl
 ·rw [if_neg h,if_neg h]
theorem getD_eq {L:List Int} {j:Nat} (h:j < L.length):L[j]?.getD 0=L[j]:=by rw [List.getElem?_eq_getElem h];rfl
theorem HI.first {xs L:List Int} (h:HI xs L 0) (hx:∀x∈xs,0<=x/\x < 16777216) (hi:0 < xs.length):HI xs (L.set 0 (xs[0] / 2)) 1:=by
 have hl:0 < L.length:=by rw [h.len];exact hi
 have b:=hx _ (List.getElem_mem hi)
 have hz:L[0]=0:=by have:=h.zer 0 (Nat.le_refl _);rwa [getD_eq hl]at this
 refine⟨by rw [List.length_set,h.len],?_,?_,?_,?_⟩
 ·have hv:=h.val
  rw [List.take_zero,vl]at hv
  rw [vl_set _ _ hl,hz,show(1:Nat)=0+1 from rfl,vl_take_succ _ hi,List.take_zero,vl]
  simp
  omega
 ·intro x hx'
  rcases List.mem_or_eq_of_mem_set hx' with h' | h'
  ·exact h.rng x h'
  ·omega
 ·intro j hj
  rw [getD_set' _ _ _ _ hl,if_neg (by omega)];exact h.zer j (by omega)
 ·intro j hj
  obtain rfl:j=0:=by omega
  rw [getD_set' _ _ _ _ hl,if_pos rfl];omega
theorem HI.next {xs L:List Int} {i:Nat} (h:HI xs L (i+1)) (hx:∀x∈xs,0<=x/\x < 16777216) (hi:i+1 < xs.length) (hl0:i < (L.set (i+1) (xs[i+1] / 2)).length):
  (0<=(L.set (i+1) (xs[i+1] / 2))[i]/\(L.set (i+1) (xs[i+1] / 2))[i]<=8388608)/\
  HI xs ((L.set (i+1) (xs[i+1] / 2)).set i ((L.set (i+1) (xs[i+1] / 2))[i] +xs[i+1] % 2*8388608)) (i+2):=by
 have hl:i+1 < L.length:=by rw [h.len];exact hi
 have hl1:i < L.length:=by omega
 have b:=hx _ (List.getElem_mem hi)
 have hz:L[i+1]=0:=by have:=h.zer (i+1) (Nat.le_refl _);rwa [getD_eq hl]at this
 have hla:=h.las i rfl
 rw [getD_eq hl1]at hla
 have hg:(L.set (i+1) (xs[i+1] / 2))[i]=L[i]:=by rw [List.getElem_set_ne (by omega)]
 rw [hg]
 refine⟨hla,by rw [List.length_set,List.length_set,h.len],?_,?_,?_,?_⟩
 ·have hv:=h.val
  rw [vl_set _ _ hl0,hg,vl_set _ _ hl,hz,show i+2=(i+1)+1 from rfl,vl_take_succ _ hi]
  have hp:(16777216:Int) ^ (i+1)=16777216 ^ i*16777216:=Int.pow_succ ..
  rw [hp]
  have e1:xs[i+1]=2*(xs[i+1] / 2)+xs[i+1] % 2:=by omega
  generalize xs[i+1] / 2=q at*
  generalize xs[i+1] % 2=r at*
  rw [e1]
  generalize vl 16777216 (xs.take (i+1))=V at*
  generalize vl 16777216 L=W at*
  have e2:V+16777216 ^ i*16777216*(2*q+r)=V+2*(16777216 ^ i*8388608*(2*q+r)):=by grind
  have e3:(V+2*((16777216:Int) ^ i*8388608*(2*q+r))) % 2=V % 2:=by omega
  rw [e2,e3]
  grind
 ·intro x hx'
  rcases List.mem_or_eq_of_mem_set hx' with h' | h'
  ·rcases List.mem_or_eq_of_mem_set h' with h' | h'
   ·exact h.rng x h'
   ·omega
  ·omega
 ·intro j hj
  rw [getD_set' _ _ _ _ hl0,if_neg (by omega),getD_set' _ _ _ _ hl,if_neg (by omega)];exact h.zer j (by omega)
 ·intro j hj
  obtain rfl:j=i+1:=by omega
  rw [getD_set' _ _ _ _ hl0,if_neg (by omega),getD_set' _ _ _ _ hl,if_pos rfl];omega
theorem half_any (a:OA) (n c:Nat) (M:Nat) (w:World) (h1:Dg w (.slice a n c) M) (hlM:(dg 16777216 M).length<=10000000):
  Calls Tryz.prog 187 #[.agg #[.slice a n c]] w (RetD w (M / 2)):=by
 unfold Dg at h1
 have hn:=h1.len
 have L1:=ζ h1.lt
 have HM:=ζ h1
 have VM:=ζ (show vl 16777216 (dg 16777216 M)=(M:Int)from vl_dg (b:=16777216) (by omega) M)
 have MM:=ζ (show ∀x∈dg 16777216 M,0<=x/\x < 16777216 from dg_mem (b:=16777216) (by omega) M)
 clear h1
 generalize dg 16777216 M=xs at*
 subst hn
 go_enter Tryz.func187,Tryz.ntmps187
 go_wp2_with (first | (at_make;refine wpList_make_sl _ rfl _ _ _ rfl 2 Tryz.underlying36 info_i64 _ _ _ _ xs.length xs.length rfl rfl rfl rfl (Nat.le_refl _) (by omega) ?_;intro ho0;simp only [World.size_alloc]at ho0))
 have hB1:=ζ (((((Below.refl w.heap.size w).alloc (Nat.le_refl _) (.cells #[.slice a xs.length c] 38)).alloc (by go_size) (.cells #[.slice none 0 0] 38)).alloc (by go_size) (.cells (madeCells #[.int .i64 0] xs.length) 2)))
 have hX2:=ζ ((((Box.new' (v:= .slice none 0 0) (t:=38) (w:=w.alloc (.cells #[.slice a xs.length c] 38)) (b:=w.heap.size+1) (by simp)).alloc (.cells (madeCells #[.int .i64 0] xs.length) 2))))
 have hO:=ζ ho0
 clear ho0
 go_loopw [13] (fun ix wr=>∃ (i:Nat) (L:List Int),ix= .int .i64 i/\i<=xs.length/\HI xs L i/\Below w.heap.size w wr/\Box wr (w.heap.size+1) (.slice none 0 0) 38/\
   Sl 2 wr (.slice (some ⟨w.heap.size+1+1,0,none⟩) xs.length xs.length) L) (fun ix _=>xs.length - (intOf ix).toNat)
 case atStart=>exact⟨0,_,rfl,Nat.zero_le _,HI.start xs,hB1.out,hX2.out,hO.out⟩
 case round=>
  clear hB1 hX2 hO
  obtain ⟨i,L,rfl,hi,hT,hB,hX2,ho⟩:=hrel
  by_cases hlt:i < xs.length
  ·have sx:Sl 2 wr (.slice a xs.length c) xs:=HM.out.below hB L1.out
   obtain ⟨g1,rfl,hg1⟩:=sx.row (by omega)
   have cx:=sx.cell hlt
   have bX:=MM.out _ (List.getElem_mem hlt)
   have hil:i < L.length:=by rw [hT.len];exact hlt
   have co:=ho.cell hil
   have fo:=ho.free i
   cases i with
   | zero=>
     have HT:=ζ (hT.first MM.out hlt)
     have HB:=ζ hB
     have HX2:=ζ hX2
     have HO:=ζ ho
     clear sx hB hX2 ho hT
     go_wp2
     go_roundw
     case rel=>exact⟨1,_,by go_num,by omega,HT.out,HB.out.setCell (by simp;omega) _,HX2.out.other (by simp) _,HO.out.set _ _⟩
     case measure=>simp [intOf];omega
   | succ i=>
     have hl0:i < (L.set (i+1) (xs[i+1] / 2)).length:=by rw [List.length_set];omega
     have hl1:i < L.length:=by omega
     obtain ⟨b2,hn⟩:=hT.next MM.out hlt hl0
     have hg:(L.set (i+1) (xs[i+1] / 2))[i]=L[i]:=by rw [List.getElem_set_ne (by omega)]
     rw [hg]at b2 hn
     have co2:=(ho.set (i+1) (xs[i+1] / 2)).cell hl0
     rw [hg]at co2
     have fo2:=(ho.set (i+1) (xs[i+1] / 2)).free i
     clear hg
     have hm1:=i64_mask1 xs[i+1]
     have HT:=ζ hn
     have HB:=ζ hB
     have HX2:=ζ hX2
     have HO:=ζ ho
     clear sx hB hX2 ho hT hn
     go_wp2
     go_roundw
     case rel=>exact⟨i+2,_,by go_num,by omega,HT.out,(HB.out.setCell (by simp;omega) _).setCell (by simp;omega) _,(HX2.out.other (by simp) _).other (by simp) _,(HO.out.set _ _).set _ _⟩
     case measure=>simp [intOf];omega
  ·obtain rfl:i=xs.length:=by omega
   have hv:vl 16777216 L=((M / 2:Nat):Int):=by have:=hT.val;rw [List.take_length,VM.out]at this;omega
   have e0:=ζ (show 0<=vl 16777216 L by rw [hv];omega)
   have e1:=ζ (show L.length<=100000000 by rw [hT.len];omega)
   have e2:=ζ (show ∀x∈L,-4611686018427387904<=x/\x<=4611686018427387904 from fun x hx=>by have:=hT.rng x hx;omega)
   have HV:=ζ hv
   have HB:=ζ hB
   have HX2:=ζ hX2
   have HO:=ζ ho
   clear hB hX2 ho hT hv
   go_wp2_with fail
   refine(settled_any _ L _ ⟨_,_,_,rfl⟩ HO.out e2.out e0.out e1.out).mono ?_
   rintro e w2 ⟨a3,n3,c3,rfl,hd,hg2,hs2⟩
   have bx:=HX2.out.grown hg2 (by simp [Value.ownBlock])
   have bc:=bx.cell
   have bf:=bx.free
   have bs:=fun u=>(bx.set u).cell
   have HF:=ζ (fin_D (R:=w.heap.size+1) HB.out (by omega) HX2.out.lt (by omega) (by omega) hd hg2 hs2 HV.out)
   clear hd hg2 hs2 bx
   go_wp2
   exact bodyPost_ret (v:= .agg #[.slice a3 n3 c3]) (by simp [results,Tryz.results187,go_sem,bs]) rfl HF.out
end Go.Proofs.YthmdhlopeponcaaGreatDoor

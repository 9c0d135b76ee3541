/- part -/
import Derived.Test.YthmdhlopeponcaaGreatDoorK31
set_option maxRecDepth 100000
set_option maxHeartbeats 2000000
namespace Go.Proofs.YthmdhlopeponcaaGreatDoor
open Go.RowKit Dig
theorem larger_any (s1:Int) (a1:OA) (n1 c1:Nat) (z1:Int) (s2:Int) (a2:OA) (n2 c2:Nat) (z2:Int) (w:World) (h1:Nz w s1 (.slice a1 n1 c1) z1) (h2:Nz w s2 (.slice a2 n2 c2) z2)
  (hl1:(dg 10000 z1.natAbs).length<=10000000) (hl2:(dg 10000 z2.natAbs).length<=10000000):
  Calls Tryz.prog 168 #[.agg #[.int .i64 s1,.slice a1 n1 c1],.agg #[.int .i64 s2,.slice a2 n2 c2]] w fun e w'=>e= .returned (.int .i64 (cmpN z1.natAbs z2.natAbs))/\Below w.heap.size w w':=by
 have hn:=h1.g.len;have hn2:=h2.g.len;have hC:=ζ ((((St.enter w).al w.heap.size #[.int .i64 s1,.slice a1 n1 c1] 48 rfl rfl).al (w.heap.size+1) #[.int .i64 s2,.slice a2 n2 c2] 48 (by simp) rfl));have L1:=ζ h1.g.lt;have L2:=ζ h2.g.lt;have HM:=ζ h1.g;have HN:=ζ h2.g;obtain ⟨M,hM⟩:∃M:Nat,z1.natAbs=M:=⟨_,rfl⟩
 obtain ⟨N,hN⟩:∃N:Nat,z2.natAbs=N:=⟨_,rfl⟩
 rw [hM]at HM hn hl1⊢;rw [hN]at HN hn2 hl2⊢;clear hM hN;have LT:=ζ (fun h=>lt_of_len_lt (b:=10000) (by omega) (m:=M) (n:=N) h);have GT:=ζ (fun h=>lt_of_len_lt (b:=10000) (by omega) (m:=N) (n:=M) h);have VM:=ζ (show vl 10000 (dg 10000 M)=(M:Int)from vl_dg (b:=10000) (by omega) M);have VN:=ζ (show vl 10000 (dg 10000 N)=(N:Int)from vl_dg (b:=10000) (by omega) N);have MM:=ζ (show ∀x∈dg 10000 M,0<=x/\x < 10000 from dg_mem (b:=10000) (by omega) M);have MN:=ζ (show ∀x∈dg 10000 N,0<=x/\x < 10000 from dg_mem (b:=10000) (by omega) N);clear h1 h2;generalize dg 10000 M=xs at*;generalize dg 10000 N=ys at*;subst hn;subst hn2;go_enter Tryz.func168,Tryz.ntmps168;go_wp2;go_loopw [5,6] (fun dv iv wr=>∃ (k:Nat) (d:Int),iv= .int .i64 ((k:Int) - 1)/\dv= .int .i64 d/\k<=xs.length/\ -10000000<=d/\d<=10000000/\Hid (d=0->ys.length=xs.length/\xs.drop k=ys.drop k)/\Hid (d < 0->M < N)/\Hid (0 < d->N < M)/\
  Hid (St w wr [(w.heap.size,#[.int .i64 s1,.slice a1 xs.length c1],48),(w.heap.size+1,#[.int .i64 s2,.slice a2 ys.length c2],48)] [])) (fun _ iv _=>(intOf iv+1).toNat)
 case atStart=>exact⟨xs.length,(xs.length:Int) - ys.length,rfl,rfl,Nat.le_refl _,by omega,by omega,fun h=>⟨by omega,by rw [List.drop_length,List.drop_of_length_le (by omega)]⟩,fun h=>LT.out (by omega),fun h=>GT.out (by omega),hC.out⟩
 case round=>
  clear hC;obtain ⟨k,d,rfl,rfl,hk,d1,d2,HD,AA,AB,hC⟩:=hrel;have FIN:=ζ (show(k=0\/d≠0)->(if 0 < d then(1:Int)else if d < 0 then -1 else 0)=cmpN M N by
   intro h;unfold cmpN;by_cases h1:0 < d
   ·have:=AB.out h1;rw [if_pos h1,if_neg (by omega),if_pos this]
   ·by_cases h2:d < 0
    ·have:=AA.out h2;rw [if_neg h1,if_pos h2,if_pos this]
    ·have h0:d=0:=(by omega);have hk0:k=0:=(by omega);have e:=(HD.out h0).2;rw [hk0,List.drop_zero,List.drop_zero]at e;have e2:(M:Int)=N:=(by rw [<-VM.out,<-VN.out,e]);rw [if_neg h1,if_neg h2,if_neg (by omega),if_neg (by omega)])
  by_cases hd0:d=0
  ·cases k with
   | zero=>
     subst hd0;have HF:=ζ (FIN.out (.inl rfl));clear HD AA AB FIN;go_wp2;go_ret;exact⟨ret_int (by rw [<-HF.out];rfl),hC.out.be⟩
   | succ k=>
     subst hd0;obtain ⟨hle,hdr⟩:=HD.out rfl;have AC:=ζ hle;have AD:=ζ hdr;have hky:k < ys.length:=(by omega);have sx:=HM.out.below hC.out.be L1.out;have sy:=HN.out.below hC.out.be L2.out;obtain ⟨g1,rfl,hg1⟩:=sx.row (by omega);obtain ⟨g2,rfl,hg2⟩:=sy.row (by omega);have cx:=ζ (sx.cell (k:=k) (by omega));have cy:=ζ (sy.cell hky);obtain ⟨X,hX⟩:∃X:Int,X=xs[k]:=⟨_,rfl⟩
     obtain ⟨Y,hY⟩:∃Y:Int,Y=ys[k]:=⟨_,rfl⟩
     have bX:=MM.out _ (List.getElem_mem (show k < xs.length by omega));have bY:=MN.out _ (List.getElem_mem hky);have T1:=ζ (show X < Y->M < N from fun h=>by
      have:=vl_lt_of_top (b:=10000) (by omega) (l:=xs) (r:=ys) (by omega) MM.out MN.out hdr (by omega) hky (by omega);have e1:=VM.out;have e2:=VN.out;simp only [show((10000:Nat):Int)=10000 from rfl]at this;omega)
     have T2:=ζ (show Y < X->N < M from fun h=>by
      have:=vl_lt_of_top (b:=10000) (by omega) (l:=ys) (r:=xs) (by omega) MN.out MM.out hdr.symm hky (by omega) (by omega);have e1:=VM.out;have e2:=VN.out;simp only [show((10000:Nat):Int)=10000 from rfl]at this;omega)
     rw [<-hX]at cx bX;rw [<-hY]at cy bY;have HX:=ζ hX;have HY:=ζ hY;have i1:(0:Int)<=(k:Int):=(by omega);have i2:(k:Int) < (xs.length:Int):=(by omega);have i3:(k:Int) < (ys.length:Int):=(by omega);have i4:IntKind.i64.wrap (X - Y)=X - Y:=IntWalk.i64_in _ (by omega);clear hX hY hle hdr sx sy HD AA AB FIN;rw [show((k+1:Nat):Int) - 1=(k:Int)by omega];go_wp2;go_region_held3 (fun w'=>w'.cell? ⟨w.heap.size,1,none⟩=some (.slice (some ⟨g1,0,none⟩) xs.length c1)/\w'.cell? ⟨w.heap.size+1,1,none⟩=some (.slice (some ⟨g2,0,none⟩) ys.length c2)/\w'.cell? ⟨g1,k,none⟩=some (.int .i64 X)/\w'.cell? ⟨g2,k,none⟩=some (.int .i64 Y))
      (exact⟨hC.out.drew.c 0 1,hC.out.drew.c 1 1,cx.out,cy.out⟩) (fail)
     go_wp2;go_roundw
     case rel=>
      refine⟨k,X - Y,rfl,rfl,by omega,by omega,by omega,fun h=>⟨AC.out,?_⟩,fun h=>T1.out (by omega),fun h=>T2.out (by omega),hC.out.drew⟩;rw [List.drop_eq_getElem_cons (show k < xs.length by omega),List.drop_eq_getElem_cons hky,AD.out,<-HX.out,<-HY.out,show X=Y by omega]
     case measure=>simp [intOf]
  ·have HF:=ζ (FIN.out (.inr hd0));have hd0':(d==0)=false:=(by simpa using hd0);clear HD AA AB FIN;by_cases h1:0 < d
   ·go_wp2;all_goals
     go_ret;exact⟨ret_int (by rw [<-HF.out,if_pos h1]),hC.out.be⟩
   ·have h2:d < 0:=(by omega);go_wp2;all_goals
     go_ret;exact⟨ret_int (by rw [<-HF.out,if_neg (by omega),if_pos h2]),hC.out.be⟩
end Go.Proofs.YthmdhlopeponcaaGreatDoor

/- part -/
import Derived.Test.YthmdhlopeponcaaGreatDoorK31
set_option maxRecDepth 100000
set_option maxHeartbeats 2000000
namespace Go.Proofs.YthmdhlopeponcaaGreatDoor
open Go.RowKit Dig
theorem vl_mapk (b k:Int):∀l:List Int,vl b (l.map (· *k))=k*vl b l
 | []=>by simp [vl]
 | x::l=>by rw [List.map_cons,vl,vl,vl_mapk b k l];grind
theorem sgn_mul_abs {z:Int} :sgnN z*(z.natAbs:Int)=z:=by
 unfold sgnN
 split
 ·omega
 ·split<;>omega
theorem Nz.sv {w:World} {s:Int} {g:Value} {z:Int} (h:Nz w s g z):z=0\/s=1\/s= -1:=by
 rw [h.s];unfold sgnN;split
 ·exact .inl (by omega)
 ·split
  ·exact .inr (.inr rfl)
  ·exact .inr (.inl rfl)
theorem mapk_step {xs:List Int} {k:Int} {i:Nat} (h:i < xs.length):
  ((xs.take i).map (· *k)++List.replicate (xs.length - i) 0).set i (xs[i] *k)=(xs.take (i+1)).map (· *k)++List.replicate (xs.length - (i+1)) 0:=by
 obtain ⟨m,hm⟩:∃m,xs.length - i=m+1:=⟨xs.length - i - 1,by omega⟩
 have hl:((xs.take i).map (· *k)).length=i:=by rw [List.length_map,List.length_take];omega
 rw [List.set_append_right _ _ (by omega),hl,Nat.sub_self,hm,List.replicate_succ,List.set_cons_zero,show xs.length - (i+1)=m by omega,List.take_succ_eq_append_getElem h,List.map_append];simp
theorem rtimes_any (s1:Int) (a1:OA) (n1 c1:Nat) (z1:Int) (k:Int) (w:World) (h1:Nz w s1 (.slice a1 n1 c1) z1) (hl:(dg 10000 z1.natAbs).length<=100000) (hk0:0<=k) (hk1:k<=10000):
  Calls Tryz.prog 184 #[.agg #[.int .i64 s1,.slice a1 n1 c1],.int .i64 k] w (RetN w (k*z1)):=by
 have hn:=h1.g.len;have hC:=ζ ((((St.enter w).al w.heap.size #[.int .i64 s1,.slice a1 n1 c1] 48 rfl rfl).al (w.heap.size+1) #[.int .i64 0,.slice none 0 0] 48 (by simp) rfl));have L1:=ζ h1.g.lt;have HS:=ζ h1.sv;have AD:=ζ h1.s;have HM:=ζ h1.g;have VM:=ζ (show vl 10000 (dg 10000 z1.natAbs)=(z1.natAbs:Int)from vl_dg (b:=10000) (by omega) _);have MM:=ζ (show ∀x∈dg 10000 z1.natAbs,0<=x/\x < 10000 from dg_mem (b:=10000) (by omega) _);clear h1;generalize dg 10000 z1.natAbs=xs at*;subst hn;go_enter Tryz.func184,Tryz.ntmps184;go_wp2_with (at_make;refine wpList_make_sl _ rfl _ _ _ rfl 3 Tryz.underlying23 info_int _ _ _ _ xs.length xs.length rfl rfl (by omega) (by omega) (Nat.le_refl _) (by omega) ?_;intro ho0)
 have AB:=ζ (hC.out.row (o:= .cells (madeCells #[.int .i64 0] xs.length) 3));have AC:=ζ ho0;clear ho0 hC;go_loopw [6] (fun iv wr=>∃ (i:Nat),iv= .int .i64 i/\i<=xs.length/\Hid (Sl 3 wr (.slice (some ⟨w.heap.size+1+1,0,none⟩) xs.length xs.length) ((xs.take i).map (· *k)++List.replicate (xs.length - i) 0))/\
  Hid (St w wr [(w.heap.size,#[.int .i64 s1,.slice a1 xs.length c1],48),(w.heap.size+1,#[.int .i64 0,.slice none 0 0],48)] [])) (fun iv _=>xs.length - (intOf iv).toNat)
 case atStart=>exact⟨0,rfl,Nat.zero_le _,ζ (by have:=AC.out;simpa using this),AB.out⟩
 case round=>
  clear AB AC;obtain ⟨i,rfl,hi,HO,hC⟩:=hrel;have c01:=hC.out.c 0 1;have c00:=hC.out.c 0 0;by_cases hlt:i < xs.length
  ·have sx:=HM.out.below hC.out.be L1.out;obtain ⟨g1,rfl,hg1⟩:=sx.row (by omega);have cx:=sx.cell hlt;have bX:=MM.out _ (List.getElem_mem hlt);have AE:=ζ (mapk_step (k:=k) hlt);obtain ⟨X,hX⟩:∃X:Int,X=xs[i]:=⟨_,rfl⟩
   rw [<-hX]at cx bX;have HX:=ζ hX;have hcell:=HO.out.cell (k:=i) (by simp;omega);have hfree:=HO.out.free i;have hb1:0<=X*k:=Int.mul_nonneg bX.1 hk0;have hb2:X*k<=10000*10000:=Int.mul_le_mul (by omega) (by omega) hk0 (by omega);have hw1:IntKind.i64.wrap (X*k)=X*k:=IntWalk.i64_in _ (by omega);have AG:=ζ sx;clear hX sx;go_wp2;go_roundw
   case rel=>
    refine⟨i+1,by go_num,by omega,?_,hC.out.grown (grownBy_setCell _ _ _ _) (fun j hj=>?_)⟩
    ·rw [<-AE.out,<-HX.out];exact HO.out.set i _
    ·simp only [Option.some.injEq]at hj;subst hj;refine⟨by omega,fun x hx=>?_⟩;simp only [List.mem_cons,List.not_mem_nil,or_false]at hx;rcases hx with rfl | rfl
     ·show w.heap.size≠_;omega
     ·show w.heap.size+1≠_;omega
   case measure=>simp [intOf];omega
  ·obtain rfl:i=xs.length:=by omega
   have HV:=ζ (show vl 10000 (xs.map (· *k))=k*(z1.natAbs:Int)by rw [vl_mapk,VM.out]);have AF:=ζ (show Sl 3 wr (.slice (some ⟨w.heap.size+1+1,0,none⟩) xs.length xs.length) (xs.map (· *k))by have:=HO.out;rw [List.take_length,Nat.sub_self]at this;simpa using this);have c10:=hC.out.c 1 0;have c11:=hC.out.c 1 1;go_wp2_with fail
   refine(rmade_b (xs:=xs.map (· *k)) AF.out (fun x hx=>?_) (by rw [HV.out];exact Int.mul_nonneg hk0 (by omega)) (by simp;omega) ?_).mono ?_
   ·obtain ⟨y,hy,rfl⟩:=List.mem_map.1 hx;have hb:=MM.out y hy;have h1:0<=y*k:=Int.mul_nonneg hb.1 hk0;have h2:y*k<=10000*10000:=Int.mul_le_mul (by omega) (by omega) hk0 (by omega);omega
   ·rcases HS.out with h | h
    ·exact .inl (by rw [HV.out,h];simp)
    ·exact .inr h
   rintro e w3 ⟨s3,a3,n3,c3,rfl,hz,hb⟩;have AA:=ζ ((hC.out.call hb).pn hz);clear hz hb c10 c11 c00 c01 hC;have c10:=AA.out.c 1 0;have c11:=AA.out.c 1 1;have f10:=AA.out.f 1 0;have f11:=AA.out.f 1 1;go_wp2;refine ret_st (AA.out.set 1 rfl|>.set 1 rfl) (v:= .agg #[.int .i64 s3,.slice a3 n3 c3]) (fun hF=>?_) rfl (fun hF=>⟨s3,a3,n3,c3,rfl,?_,hF.be⟩)
   ·have e0:=hF.c 1 0;have e1:=hF.c 1 1;simp [results,Tryz.results184,go_sem,e0,e1]
   ·have:=hF.n 0 rfl;rw [HV.out,AD.out,Int.mul_left_comm,sgn_mul_abs]at this;exact this
end Go.Proofs.YthmdhlopeponcaaGreatDoor

/- part -/
import Derived.Test.YtjpojeapdgjbhaaGreatDoorJ6
import Derived.Test.YtjpojeapdgjbhaaGreatDoorShelf
set_option maxRecDepth 100000
set_option maxHeartbeats 1000000
namespace Go.Proofs.YtjpojeapdgjbhaaGreatDoor
open Go.RowKit
def oddR (x:Nat):Bool:= !(decide (97<=x) && decide (x<=122)) && !(decide (48<=x) && decide (x<=57))
section
variable (w:World)
def namedB (s:ByteArray):Bool:= !s.toList.isEmpty && decide (s.size<=16) && !decide (0<=Lib.idxFunc oddR true s)
end
section
variable (w:World)
theorem planNamed1_any (x:Nat) (hx:x<=1114111):Calls Tryz.prog 139 #[.int .i32 x] w (Gives (.bool (oddR x)) w):=by
 unfold oddR;by_cases h1:97<=x<;>by_cases h2:x<=122<;>by_cases h3:48<=x<;>by_cases h4:x<=57
 all_goals first
  | (exfalso;omega)
  | (go_enter Tryz.func139,Tryz.ntmps139
     go_wp2;go_ret;exact⟨ret_bool (by simp [h1,h2,h3,h4]<;>omega),Below.refl _ _⟩)
theorem eg_planNamed1:EG 139:=enters_of Tryz.func139 (by kernel_rfl) rfl
theorem planNamed_any (s:ByteArray) (hm:s.size<=maxLen):Calls Tryz.prog 85 #[.string s] w (Gives (.bool (namedB s)) w):=by
 have HX:=ζ (Tryz.strings_ContainsFunc_grows 139 #[] eg_planNamed1 oddR s w (fun W x hx _=>planNamed1_any W x hx));unfold maxLen at hm;unfold namedB;cases he:s.toList.isEmpty
 ·by_cases hl:s.size<=16
  ·go_enter Tryz.func85,Tryz.ntmps85;go_wp2_with fail
   refine HX.out.mono ?_;rintro e w1 ⟨rfl,hb⟩;have hB:=ζ hb;clear hb;go_wp2;go_ret;exact⟨ret_bool (by simp [hl]),hB.out⟩
  ·go_enter Tryz.func85,Tryz.ntmps85;go_wp2;go_ret;exact⟨ret_bool (by simp),Below.refl _ _⟩
 ·go_enter Tryz.func85,Tryz.ntmps85;go_wp2;go_ret;exact⟨ret_bool (by simp),Below.refl _ _⟩
end
theorem indexFunc_limit (a:OA) (n c:Nat) (l:List I3) (g:Nat) (cb:Array Value) (p:I3->Bool) (w:World) (hs:Sx 3 w a n c (L3 l)) (eg:EG g) (hf:Asks g cb w (fun x:I3=> .agg #[.int .i64 x.1,.int .i64 x.2.1,.int .i64 x.2.2]) l Value.bool p):
  Calls Tryz.prog 170 #[.slice a n c,.func (.func g) #[] cb] w (fun e w'=>∃r:Int,e= .returned (.int .i64 r)/\((0<=r)↔l.any p=true)/\Below w.heap.size w w'):=by
 have hn:=hs.n3;have hm:l.length<=9223372036854775807:=by have:=hs.cap;unfold maxLen at this;omega
 have HS:=ζ hs;have HF:=ζ hf;obtain rfl:l.length=n:=hn.symm;clear hs hf hn;go_enter Tryz.func170,Tryz.ntmps170;go_wp2;go_loopw [5,8] (fun _ iv wr=>∃k:Nat,k<=l.length/\iv= .int .i64 k/\Hid ((∀i (h:i < l.length),i < k->p l[i]=false)/\Below w.heap.size w wr)) (fun _ iv _=>l.length - (intOf iv).toNat)
 case atStart=>exact⟨0,Nat.zero_le _,rfl,ζ ⟨fun i _ h=>absurd h (Nat.not_lt_zero i),Below.refl _ _⟩⟩
 case round=>
  obtain ⟨k,hk,rfl,hI⟩:=hrel;by_cases hlt:k < l.length
  ·have hx:=HF.out wr hI.out.2 l[k] (List.getElem_mem hlt);obtain ⟨g0,o0,rfl⟩:=HS.out.addr (by omega);obtain ⟨x0,x1,x2⟩:=(HS.out.below hI.out.2).at3 hlt;have AA:=ζ (show ∀i (h:i < l.length),i=k->p l[i]=p l[k]from fun i h e=>by subst e;rfl);have HM:=ζ (show l[k]∈l from List.getElem_mem hlt);generalize l[k]=x at*;obtain ⟨u0,u1,u2⟩:=x;cases hp:p (u0,u1,u2)
   ·rw [hp]at hx;have HP:=ζ hp;have HX:=ζ hx;clear hp hx HF HS;go_wp2_with fail
    refine HX.out.mono ?_;rintro e w1 ⟨rfl,hb⟩;have hB:=ζ (hI.out.2.trans (hb.mono hI.out.2.size));clear hb;go_wp2;go_roundw
    case rel=>exact⟨k+1,by omega,by go_num,ζ ⟨fun i h hik=>by
     rcases Nat.lt_or_ge i k with h1 | h1
     ·exact hI.out.1 i h h1
     ·exact(AA.out i h (by omega)).trans HP.out,hB.out⟩⟩
    case measure=>simp [intOf];omega
   ·rw [hp]at hx;have HP:=ζ hp;have HX:=ζ hx;clear hp hx HF HS;go_wp2_with fail
    refine HX.out.mono ?_;rintro e w1 ⟨rfl,hb⟩;have hB:=ζ (hI.out.2.trans (hb.mono hI.out.2.size));clear hb;go_wp2;go_ret;exact⟨(k:Int),rfl,⟨fun _=>List.any_eq_true.2 ⟨_,HM.out,HP.out⟩,fun _=>by omega⟩,hB.out⟩
  ·go_wp2;go_ret;refine⟨-1,rfl,⟨fun h=>absurd h (by decide),fun h=>?_⟩,hI.out.2⟩;obtain ⟨x,hx,h2⟩:=List.any_eq_true.1 h;obtain ⟨i,hi,rfl⟩:=List.getElem_of_mem hx;rw [hI.out.1 i hi (by omega)]at h2;cases h2
theorem containsFunc_limit (a:OA) (n c:Nat) (l:List I3) (g:Nat) (cb:Array Value) (p:I3->Bool) (w:World) (hs:Sx 3 w a n c (L3 l)) (eg:EG g) (hf:Asks g cb w (fun x:I3=> .agg #[.int .i64 x.1,.int .i64 x.2.1,.int .i64 x.2.2]) l Value.bool p):
  Calls Tryz.prog 137 #[.slice a n c,.func (.func g) #[] cb] w (Gives (.bool (l.any p)) w):=by
 have HS:=ζ hs;have HF:=ζ hf;clear hs hf;have EGH:=ζ eg;clear eg;cases hp:l.any p;all_goals
  have HP:=ζ hp;clear hp;go_enter Tryz.func137,Tryz.ntmps137;go_wp2_with fail
  refine(indexFunc_limit a n c l g cb p _ HS.out EGH.out HF.out).mono ?_;rintro e w1 ⟨r,rfl,hr,hb⟩;rw [HP.out]at hr;have hB:=ζ hb;clear hb HS HF
 ·have hr2:r < 0:=by
   rcases Int.lt_or_le r 0 with h | h
   ·exact h
   ·exact absurd (hr.1 h) (by decide)
  clear hr;go_wp2;go_ret;exact⟨ret_bool (by simp;omega),hB.out⟩
 ·have hr2:0<=r:=hr.2 rfl;clear hr;go_wp2;go_ret;exact⟨ret_bool (by simp),hB.out⟩
def limB (x:I3):Bool:=inB x.1 x.2.1 x.2.2
section
variable (w:World)
theorem kept1_any (x:I3):Calls Tryz.prog 138 #[.agg #[.int .i64 x.1,.int .i64 x.2.1,.int .i64 x.2.2]] w (Gives (.bool (!limB x)) w):=by
 obtain ⟨x0,x1,x2⟩:=x;unfold limB inB;dsimp only;have hC:=ζ ((Sy.enter w).al w.heap.size #[.int .i64 x0,.int .i64 x1,.int .i64 x2] 170 rfl);by_cases h1:x0 < x1
 ·go_enter Tryz.func138,Tryz.ntmps138;go_wp2;go_ret;exact⟨ret_bool (by first | rfl | (rw [decide_eq_false (show ¬ x1<=x0 by omega)];rfl)),hC.out.be⟩
 ·by_cases h2:x2 < x0
  ·go_enter Tryz.func138,Tryz.ntmps138;go_wp2;go_ret;exact⟨ret_bool (by first | rfl | (rw [decide_eq_false (show ¬ x0<=x2 by omega)];simp)),hC.out.be⟩
  ·go_enter Tryz.func138,Tryz.ntmps138;go_wp2;go_ret;exact⟨ret_bool (by first | rfl | (rw [decide_eq_true (show x1<=x0 by omega),decide_eq_true (show x0<=x2 by omega)];simp;omega)),hC.out.be⟩
theorem eg_kept1:EG 138:=enters_of Tryz.func138 (by kernel_rfl) rfl
theorem kept_any (a:OA) (n c:Nat) (l:List I3) (hs:Sx 3 w a n c (L3 l)):Calls Tryz.prog 83 #[.slice a n c] w (Gives (.bool (l.all limB)) w):=by
 have HX:=ζ (containsFunc_limit a n c l 138 #[] (fun x=> !limB x) w hs eg_kept1 (fun W _ x _=>kept1_any W x));have HE:=ζ (show(!(l.any fun x=> !limB x))=l.all limB by
  rw [Bool.eq_iff_iff];simp)
 clear hs;generalize (l.any fun x=> !limB x)=b at*;go_enter Tryz.func83,Tryz.ntmps83;go_wp2_with fail
 refine HX.out.mono ?_;rintro e w1 ⟨rfl,hb⟩;have hB:=ζ hb;clear hb;go_wp2;go_ret;exact⟨ret_bool HE.out,hB.out⟩
end
end Go.Proofs.YtjpojeapdgjbhaaGreatDoor

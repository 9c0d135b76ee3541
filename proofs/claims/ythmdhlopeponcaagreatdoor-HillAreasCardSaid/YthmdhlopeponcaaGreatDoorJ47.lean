/- a part of the proof -/
import Derived.Test.YthmdhlopeponcaaGreatDoorJ17
import Derived.Test.YthmdhlopeponcaaGreatDoorJ46
import Derived.Test.YthmdhlopeponcaaGreatDoorJ20
import Derived.Test.YthmdhlopeponcaaGreatDoorJ0
import Derived.Test.YthmdhlopeponcaaGreatDoorJ45
import Derived.Test.YthmdhlopeponcaaGreatDoorJ38
import Derived.Test.YthmdhlopeponcaaGreatDoorJ39
set_option maxRecDepth 100000
set_option maxHeartbeats 1000000
namespace Go.Proofs.YthmdhlopeponcaaGreatDoor
open Go.RowKit Dig
theorem ztext_pos {l:List UInt8} {n:Nat} (h:Dec.isDec l=true) (hv:Dec.val l=n):Dec.ztext (n:Int)=l:=by
 unfold Dec.ztext
 rw [if_neg (by omega),Int.natAbs_natCast,<-hv,Dec.dec_val h]
theorem ba_of {B:ByteArray} {l:List UInt8} (h:l=B.data.toList):(⟨l.toArray⟩:ByteArray)=B:=by subst h;rfl
section
variable {w:World} {a:Option Addr} {n c:Nat} {m:Bool} {z:Int} {k:Nat} {d:Option Addr} {e f:Nat} {q:Rat}
theorem rtext_is (h:Rd w (.slice a n c) m (.slice d e f) q) (hb:Bq k q) (hk:k<=40000) {B:ByteArray} (hB:rtext q=B.data.toList):
  Calls Tryz.prog 59 #[.agg #[.slice a n c,.bool m,.slice d e f]] w fun e w'=>e= .returned (.string B)/\Below w.heap.size w w':=by
 have:=rtext_b h hb hk
 rw [ba_of hB]at this
 exact this
end
theorem s1:foldQ (· + ·) [(⟨1,2,by decide,by decide⟩:Rat),(⟨1,3,by decide,by decide⟩:Rat),(⟨1,6,by decide,by decide⟩:Rat)]=(⟨1,1,by decide,by decide⟩:Rat):=by kernel_rfl
theorem t1:rtext (⟨1,1,by decide,by decide⟩:Rat)= [49]:=by
 unfold rtext
 rw [if_pos (by decide)]
 exact ztext_pos (n:=1) (by decide) (by decide)
theorem bq {n k:Nat} {q:Rat} (h1:q.num.natAbs < 2 ^ n) (h2:q.den < 2 ^ n) (hn:n<=k):Bq k q:=Bq.mono ⟨h1,by unfold Bd;rw [Int.natAbs_natCast];exact h2⟩ hn
theorem qB8_0 {P_ : Prop} (h : P_ := by exact ⟨Yx.c 0 0,Yx.c 0 1,Yx.c 0 2,Yx.c 1 0,Yx.c 1 1,Yx.c 1 2,Yx.c 1 3,trivial⟩) : P_ := h
theorem str_same (T:ByteArray):(T.toList==T.toList)=true:=beq_self_eq_true _
theorem same_any (a1:OA) (n1 c1:Nat) (m1:Bool) (d1:OA) (e1 f1:Nat) (q1:Rat) (s2:Int) (a2:OA) (n2 c2:Nat) (t2:Int) (d2:OA) (e2 f2:Nat) (w:World) (h1:Rd w (.slice a1 n1 c1) m1 (.slice d1 e1 f1) q1) (h2:Nq w s2 (.slice a2 n2 c2) t2 (.slice d2 e2 f2) q1) (k1:Nat) (b1:Bq k1 q1) (hk1:k1<=40000):
  Calls Tryz.prog 29 #[.agg #[.slice a1 n1 c1,.bool m1,.slice d1 e1 f1],.agg #[.int .i64 s2,.slice a2 n2 c2,.int .i64 t2,.slice d2 e2 f2]] w (fun e w'=>e= .returned (.bool true)/\Below w.heap.size w w'):=by
 obtain ⟨T,hT⟩:∃T:ByteArray,T=⟨(rtext q1).toArray⟩:=⟨_,rfl⟩
 have hTT:=str_same T
 have HT:=ζ (show rtext q1=T.data.toList by rw [hT])
 have HT2:=ζ hT
 have B1:=ζ b1
 clear hT b1
 have hC:=ζ (((((St.enter w).pr h1).pq h2).al (w.heap.size) #[.slice a1 n1 c1,.bool m1,.slice d1 e1 f1] 42 rfl rfl).al (w.heap.size+1) #[.int .i64 s2,.slice a2 n2 c2,.int .i64 t2,.slice d2 e2 f2] 50 (by simp) rfl)
 clear h1 h2
 go_enter Tryz.func29,Tryz.ntmps29
 go_wp2
 go_region_held3 (fun w'=>w'.cell? ⟨w.heap.size,0,none⟩=some (.slice a1 n1 c1)/\w'.cell? ⟨w.heap.size,1,none⟩=some (.bool m1)/\w'.cell? ⟨w.heap.size,2,none⟩=some (.slice d1 e1 f1)/\w'.cell? ⟨w.heap.size+1,0,none⟩=some (.int .i64 s2)/\w'.cell? ⟨w.heap.size+1,1,none⟩=some (.slice a2 n2 c2)/\w'.cell? ⟨w.heap.size+1,2,none⟩=some (.int .i64 t2)/\w'.cell? ⟨w.heap.size+1,3,none⟩=some (.slice d2 e2 f2)/\True)
  (first
   | (with_reducible refine aG w5 ?_;have Yx:=hC5.out;exact qB8_0)
   | (with_reducible refine aG w4 ?_;have Yx:=hC4.out;exact qB8_0)
   | (with_reducible refine aG _ ?_;have Yx:=hC.out.drew;exact qB8_0)|fail)
  (first
   | (have _t:=hC4;go_at_call 71;refine(rtextN_is (hC4.out.rq 1 rfl) B1.out (by omega) HT.out).mono ?_;rintro e w5 ⟨rfl,hb⟩;have hC5:=ζ ((hC4.out.call hb));clear hb;clear _t hC4)
   | (have _t:=hC;go_at_call 59;refine(rtext_is (hC.out.drew.r 0 rfl) B1.out (by omega) HT.out).mono ?_;rintro e w4 ⟨rfl,hb⟩;have hC4:=ζ ((hC.out.drew.call hb));clear hb;clear _t hC)
   | fail)
 go_wp2
 go_ret
 exact⟨rfl,hC5.out.be⟩
section
variable {w:World} {a1:OA} {n1 c1:Nat} {m1:Bool} {z1:Int} {s1:Int} {s2:Int} {a2:OA} {n2 c2:Nat} {z2:Int} {d1:OA} {e1 f1:Nat} {q1:Rat} {t2:Int} {d2:OA} {e2 f2:Nat} {k1 k2:Nat}
theorem same_b (h1:Rd w (.slice a1 n1 c1) m1 (.slice d1 e1 f1) q1) (h2:Nq w s2 (.slice a2 n2 c2) t2 (.slice d2 e2 f2) q1) (b1:Bq k1 q1) (hk1:k1<=40000):
  Calls Tryz.prog 29 #[.agg #[.slice a1 n1 c1,.bool m1,.slice d1 e1 f1],.agg #[.int .i64 s2,.slice a2 n2 c2,.int .i64 t2,.slice d2 e2 f2]] w (fun e w'=>e= .returned (.bool true)/\Below w.heap.size w w'):=same_any _ _ _ _ _ _ _ _ _ _ _ _ _ _ _ _ _ h1 h2 _ b1 hk1
end
end Go.Proofs.YthmdhlopeponcaaGreatDoor

/- part -/
import Derived.Test.YtjpojeapdgjbhaaGreatDoorQ8
namespace Go.Proofs.YtjpojeapdgjbhaaGreatDoor
open Go.RowKit Dig
set_option maxHeartbeats 1000000 in
theorem gcd_any (a:OA) (n c:Nat) (m:Bool) (z:Int) (a2:OA) (n2 c2:Nat) (m2:Bool) (z2:Int) (w:World) (h:Zd w (.slice a n c) m z) (h2:Zd w (.slice a2 n2 c2) m2 z2)
  (hl:(dg 16777216 z.natAbs).length<=400000) (hl2:(dg 16777216 z2.natAbs).length<=400000):
  Calls Tryz.prog 172 #[.agg #[.slice a n c,.bool m],.agg #[.slice a2 n2 c2,.bool m2]] w (RetZ w (Int.gcd z z2)):=by
 go_enter Tryz.func172,Tryz.ntmps172;have hC:=ζ (Z2.start h h2);clear h h2;go_wp2_with fail
 refine(common_any _ _ _ _ _ _ z.natAbs z2.natAbs _ hC.out.d1.d hC.out.d2.d hl hl2).mono ?_;rintro e wa ⟨b1,k1,d1,rfl,hd,hb⟩;have AB:=ζ (hC.out.later hb);have AC:=ζ hd;clear hd hb;go_wp2_with fail
 refine(made_any false b1 k1 d1 _ _ AC.out (Int.gcd z z2) rfl).mono ?_;rintro e wb ⟨b2,k2,d2,mb,rfl,hz,hb⟩;have AA:=ζ (AB.out.later hb);have AD:=ζ hz;have HBb:=ζ hb;clear hz hb;have c0:=AA.out.x3.c0;have c1:=AA.out.x3.c1;have f0:=AA.out.x3.f0;have f1:=AA.out.x3.f1;go_wp2;have bs:=fun u u'=>(AA.out.x3.set u u').c0;have bs1:=fun u u'=>(AA.out.x3.set u u').c1;exact bodyPost_ret (v:= .agg #[.slice b2 k2 d2,.bool mb]) (by simp [results,Tryz.results172,go_sem,bs,bs1]) rfl (fin_Z AB.out.be HBb.out AA.out.x3 (Nat.le_add_right _ 2) AD.out)
end Go.Proofs.YtjpojeapdgjbhaaGreatDoor

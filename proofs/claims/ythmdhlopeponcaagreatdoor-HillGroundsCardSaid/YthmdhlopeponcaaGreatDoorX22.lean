/- ratios: Floor, Ceil, Text -/
import Derived.Test.YthmdhlopeponcaaGreatDoorX0
import Derived.Test.YthmdhlopeponcaaGreatDoorX18
set_option maxRecDepth 100000
set_option maxHeartbeats 4000000
namespace Go.Proofs.YthmdhlopeponcaaGreatDoor
open Go.RowKit Dig
theorem rfloor_any (a1:Option Addr) (n1 c1:Nat) (m1:Bool) (d1:Option Addr) (e1 f1:Nat) (q1:Rat) (w:World) (h1:Rd w (.slice a1 n1 c1) m1 (.slice d1 e1 f1) q1) (k1:Nat) (b1:Bq k1 q1) (hk1:k1≤40000):
  Calls Tryz.prog 117 #[.agg #[.slice a1 n1 c1,.bool m1,.slice d1 e1 f1]] w (RetZ w (q1.num / (q1.den:Int))):=by
 have B1:=ζ b1
 clear b1
 have hC:=ζ ((((St.enter w).pr h1).al (w.heap.size) #[.slice a1 n1 c1,.bool m1,.slice d1 e1 f1] 42 rfl rfl).al (w.heap.size+1) #[.slice none 0 0,.bool false] 40 (by simp) rfl)
 clear h1
 go_enter Tryz.func117,Tryz.ntmps117
 go_upto_region 1 with fail
 go_cut [3] (fun s3 wx=>∃bx a4 n4 c4 m4,s3= .pointer (some ⟨bx,0,none⟩)∧Hid (St w wx [(w.heap.size,#[.slice a1 n1 c1,.bool m1,.slice d1 e1 f1],42),(w.heap.size+1,#[.slice none 0 0,.bool false],40),(bx,#[.slice a4 n4 c4,.bool m4],40)] [fun V=>Zd V (.slice a4 n4 c4) m4 (q1.num / (q1.den:Int))]))
 case first=>
  refine wp_gen hC.out ?_
  intro W1 hc
  clear hC
  have hC:=ζ hc
  have HK1:=ζ (show k1≤1000000 by omega)
  have HD:=ζ (den_ne q1)
  clear hc
  go_region_held3 (fun w'=>w'.cell? ⟨w.heap.size,0,none⟩=some (.slice a1 n1 c1)∧w'.cell? ⟨w.heap.size,1,none⟩=some (.bool m1)∧w'.cell? ⟨w.heap.size,2,none⟩=some (.slice d1 e1 f1)∧True)
   (first
    | (with_reducible refine And.intro (?_:World.cell? (World.setCell (World.setCell (World.setCell (World.setCell (World.alloc (World.alloc wb _) _) _ _) _ _) _ _) _ _) _=_) ?_;exact((((hCb.out.al (wb.heap.size) #[.slice none 0 0,.bool false] 40 rfl rfl).al (wb.heap.size+1) #[.slice none 0 0,.bool false] 40 (by simp) rfl)|>.set 2 rfl|>.set 2 rfl)|>.set 3 rfl|>.set 3 rfl).cell 0 0 rfl rfl;exact⟨((((hCb.out.al (wb.heap.size) #[.slice none 0 0,.bool false] 40 rfl rfl).al (wb.heap.size+1) #[.slice none 0 0,.bool false] 40 (by simp) rfl)|>.set 2 rfl|>.set 2 rfl)|>.set 3 rfl|>.set 3 rfl).cell 0 1 rfl rfl,((((hCb.out.al (wb.heap.size) #[.slice none 0 0,.bool false] 40 rfl rfl).al (wb.heap.size+1) #[.slice none 0 0,.bool false] 40 (by simp) rfl)|>.set 2 rfl|>.set 2 rfl)|>.set 3 rfl|>.set 3 rfl).cell 0 2 rfl rfl,trivial⟩)
    | (with_reducible refine And.intro (?_:World.cell? (World.setCell (World.setCell (World.setCell (World.setCell (World.alloc (World.alloc wb _) _) _ _) _ _) _ _) _ _) _=_) ?_;exact((((hCb.out.al (wb.heap.size) #[.slice none 0 0,.bool false] 40 rfl rfl).al (wb.heap.size+1) #[.slice none 0 0,.bool false] 40 (by simp) rfl)|>.set 3 rfl|>.set 3 rfl)|>.set 2 rfl|>.set 2 rfl).cell 0 0 rfl rfl;exact⟨((((hCb.out.al (wb.heap.size) #[.slice none 0 0,.bool false] 40 rfl rfl).al (wb.heap.size+1) #[.slice none 0 0,.bool false] 40 (by simp) rfl)|>.set 3 rfl|>.set 3 rfl)|>.set 2 rfl|>.set 2 rfl).cell 0 1 rfl rfl,((((hCb.out.al (wb.heap.size) #[.slice none 0 0,.bool false] 40 rfl rfl).al (wb.heap.size+1) #[.slice none 0 0,.bool false] 40 (by simp) rfl)|>.set 3 rfl|>.set 3 rfl)|>.set 2 rfl|>.set 2 rfl).cell 0 2 rfl rfl,trivial⟩)
    | (with_reducible refine And.intro (?_:World.cell? (World.setCell (World.setCell (World.setCell (World.setCell (World.alloc wb _) _ _) _ _) _ _) _ _) _=_) ?_;exact(((hCb.out.al (wb.heap.size) #[.slice none 0 0,.bool false] 40 rfl rfl)|>.set 2 rfl|>.set 2 rfl)|>.set 3 rfl|>.set 3 rfl).cell 0 0 rfl rfl;exact⟨(((hCb.out.al (wb.heap.size) #[.slice none 0 0,.bool false] 40 rfl rfl)|>.set 2 rfl|>.set 2 rfl)|>.set 3 rfl|>.set 3 rfl).cell 0 1 rfl rfl,(((hCb.out.al (wb.heap.size) #[.slice none 0 0,.bool false] 40 rfl rfl)|>.set 2 rfl|>.set 2 rfl)|>.set 3 rfl|>.set 3 rfl).cell 0 2 rfl rfl,trivial⟩)
    | (with_reducible refine And.intro (?_:World.cell? (World.setCell (World.setCell (World.setCell (World.setCell (World.alloc wb _) _ _) _ _) _ _) _ _) _=_) ?_;exact(((hCb.out.al (wb.heap.size) #[.slice none 0 0,.bool false] 40 rfl rfl)|>.set 3 rfl|>.set 3 rfl)|>.set 2 rfl|>.set 2 rfl).cell 0 0 rfl rfl;exact⟨(((hCb.out.al (wb.heap.size) #[.slice none 0 0,.bool false] 40 rfl rfl)|>.set 3 rfl|>.set 3 rfl)|>.set 2 rfl|>.set 2 rfl).cell 0 1 rfl rfl,(((hCb.out.al (wb.heap.size) #[.slice none 0 0,.bool false] 40 rfl rfl)|>.set 3 rfl|>.set 3 rfl)|>.set 2 rfl|>.set 2 rfl).cell 0 2 rfl rfl,trivial⟩)
    | (with_reducible refine And.intro (?_:World.cell? (World.alloc (World.setCell (World.setCell (World.alloc (World.alloc wb _) _) _ _) _ _) _) _=_) ?_;exact(((hCb.out.al (wb.heap.size) #[.slice none 0 0,.bool false] 40 rfl rfl).al (wb.heap.size+1) #[.slice none 0 0,.bool false] 40 (by simp) rfl)|>.set 2 rfl|>.set 2 rfl).row.cell 0 0 rfl rfl;exact⟨(((hCb.out.al (wb.heap.size) #[.slice none 0 0,.bool false] 40 rfl rfl).al (wb.heap.size+1) #[.slice none 0 0,.bool false] 40 (by simp) rfl)|>.set 2 rfl|>.set 2 rfl).row.cell 0 1 rfl rfl,(((hCb.out.al (wb.heap.size) #[.slice none 0 0,.bool false] 40 rfl rfl).al (wb.heap.size+1) #[.slice none 0 0,.bool false] 40 (by simp) rfl)|>.set 2 rfl|>.set 2 rfl).row.cell 0 2 rfl rfl,trivial⟩)
    | (with_reducible refine And.intro (?_:World.cell? (World.alloc (World.setCell (World.setCell (World.alloc (World.alloc wb _) _) _ _) _ _) _) _=_) ?_;exact(((hCb.out.al (wb.heap.size) #[.slice none 0 0,.bool false] 40 rfl rfl).al (wb.heap.size+1) #[.slice none 0 0,.bool false] 40 (by simp) rfl)|>.set 3 rfl|>.set 3 rfl).row.cell 0 0 rfl rfl;exact⟨(((hCb.out.al (wb.heap.size) #[.slice none 0 0,.bool false] 40 rfl rfl).al (wb.heap.size+1) #[.slice none 0 0,.bool false] 40 (by simp) rfl)|>.set 3 rfl|>.set 3 rfl).row.cell 0 1 rfl rfl,(((hCb.out.al (wb.heap.size) #[.slice none 0 0,.bool false] 40 rfl rfl).al (wb.heap.size+1) #[.slice none 0 0,.bool false] 40 (by simp) rfl)|>.set 3 rfl|>.set 3 rfl).row.cell 0 2 rfl rfl,trivial⟩)
    | (with_reducible refine And.intro (?_:World.cell? (World.setCell (World.setCell (World.setCell (World.setCell wb _ _) _ _) _ _) _ _) _=_) ?_;exact((hCb.out|>.set 2 rfl|>.set 2 rfl)|>.set 3 rfl|>.set 3 rfl).cell 0 0 rfl rfl;exact⟨((hCb.out|>.set 2 rfl|>.set 2 rfl)|>.set 3 rfl|>.set 3 rfl).cell 0 1 rfl rfl,((hCb.out|>.set 2 rfl|>.set 2 rfl)|>.set 3 rfl|>.set 3 rfl).cell 0 2 rfl rfl,trivial⟩)
    | (with_reducible refine And.intro (?_:World.cell? (World.setCell (World.setCell (World.setCell (World.setCell wb _ _) _ _) _ _) _ _) _=_) ?_;exact((hCb.out|>.set 3 rfl|>.set 3 rfl)|>.set 2 rfl|>.set 2 rfl).cell 0 0 rfl rfl;exact⟨((hCb.out|>.set 3 rfl|>.set 3 rfl)|>.set 2 rfl|>.set 2 rfl).cell 0 1 rfl rfl,((hCb.out|>.set 3 rfl|>.set 3 rfl)|>.set 2 rfl|>.set 2 rfl).cell 0 2 rfl rfl,trivial⟩)
    | (with_reducible refine And.intro (?_:World.cell? (World.alloc (World.setCell (World.setCell (World.alloc wb _) _ _) _ _) _) _=_) ?_;exact((hCb.out.al (wb.heap.size) #[.slice none 0 0,.bool false] 40 rfl rfl)|>.set 2 rfl|>.set 2 rfl).row.cell 0 0 rfl rfl;exact⟨((hCb.out.al (wb.heap.size) #[.slice none 0 0,.bool false] 40 rfl rfl)|>.set 2 rfl|>.set 2 rfl).row.cell 0 1 rfl rfl,((hCb.out.al (wb.heap.size) #[.slice none 0 0,.bool false] 40 rfl rfl)|>.set 2 rfl|>.set 2 rfl).row.cell 0 2 rfl rfl,trivial⟩)
    | (with_reducible refine And.intro (?_:World.cell? (World.alloc (World.setCell (World.setCell (World.alloc wb _) _ _) _ _) _) _=_) ?_;exact((hCb.out.al (wb.heap.size) #[.slice none 0 0,.bool false] 40 rfl rfl)|>.set 3 rfl|>.set 3 rfl).row.cell 0 0 rfl rfl;exact⟨((hCb.out.al (wb.heap.size) #[.slice none 0 0,.bool false] 40 rfl rfl)|>.set 3 rfl|>.set 3 rfl).row.cell 0 1 rfl rfl,((hCb.out.al (wb.heap.size) #[.slice none 0 0,.bool false] 40 rfl rfl)|>.set 3 rfl|>.set 3 rfl).row.cell 0 2 rfl rfl,trivial⟩)
    | (with_reducible refine And.intro (?_:World.cell? (World.setCell (World.setCell (World.alloc (World.alloc wb _) _) _ _) _ _) _=_) ?_;exact(((hCb.out.al (wb.heap.size) #[.slice none 0 0,.bool false] 40 rfl rfl).al (wb.heap.size+1) #[.slice none 0 0,.bool false] 40 (by simp) rfl)|>.set 2 rfl|>.set 2 rfl).cell 0 0 rfl rfl;exact⟨(((hCb.out.al (wb.heap.size) #[.slice none 0 0,.bool false] 40 rfl rfl).al (wb.heap.size+1) #[.slice none 0 0,.bool false] 40 (by simp) rfl)|>.set 2 rfl|>.set 2 rfl).cell 0 1 rfl rfl,(((hCb.out.al (wb.heap.size) #[.slice none 0 0,.bool false] 40 rfl rfl).al (wb.heap.size+1) #[.slice none 0 0,.bool false] 40 (by simp) rfl)|>.set 2 rfl|>.set 2 rfl).cell 0 2 rfl rfl,trivial⟩)
    | (with_reducible refine And.intro (?_:World.cell? (World.setCell (World.setCell (World.alloc (World.alloc wb _) _) _ _) _ _) _=_) ?_;exact(((hCb.out.al (wb.heap.size) #[.slice none 0 0,.bool false] 40 rfl rfl).al (wb.heap.size+1) #[.slice none 0 0,.bool false] 40 (by simp) rfl)|>.set 3 rfl|>.set 3 rfl).cell 0 0 rfl rfl;exact⟨(((hCb.out.al (wb.heap.size) #[.slice none 0 0,.bool false] 40 rfl rfl).al (wb.heap.size+1) #[.slice none 0 0,.bool false] 40 (by simp) rfl)|>.set 3 rfl|>.set 3 rfl).cell 0 1 rfl rfl,(((hCb.out.al (wb.heap.size) #[.slice none 0 0,.bool false] 40 rfl rfl).al (wb.heap.size+1) #[.slice none 0 0,.bool false] 40 (by simp) rfl)|>.set 3 rfl|>.set 3 rfl).cell 0 2 rfl rfl,trivial⟩)
    | (with_reducible refine And.intro (?_:World.cell? (World.alloc (World.setCell (World.setCell wb _ _) _ _) _) _=_) ?_;exact(hCb.out|>.set 2 rfl|>.set 2 rfl).row.cell 0 0 rfl rfl;exact⟨(hCb.out|>.set 2 rfl|>.set 2 rfl).row.cell 0 1 rfl rfl,(hCb.out|>.set 2 rfl|>.set 2 rfl).row.cell 0 2 rfl rfl,trivial⟩)
    | (with_reducible refine And.intro (?_:World.cell? (World.alloc (World.setCell (World.setCell wb _ _) _ _) _) _=_) ?_;exact(hCb.out|>.set 3 rfl|>.set 3 rfl).row.cell 0 0 rfl rfl;exact⟨(hCb.out|>.set 3 rfl|>.set 3 rfl).row.cell 0 1 rfl rfl,(hCb.out|>.set 3 rfl|>.set 3 rfl).row.cell 0 2 rfl rfl,trivial⟩)
    | (with_reducible refine And.intro (?_:World.cell? (World.setCell (World.setCell (World.alloc wb _) _ _) _ _) _=_) ?_;exact((hCb.out.al (wb.heap.size) #[.slice none 0 0,.bool false] 40 rfl rfl)|>.set 2 rfl|>.set 2 rfl).cell 0 0 rfl rfl;exact⟨((hCb.out.al (wb.heap.size) #[.slice none 0 0,.bool false] 40 rfl rfl)|>.set 2 rfl|>.set 2 rfl).cell 0 1 rfl rfl,((hCb.out.al (wb.heap.size) #[.slice none 0 0,.bool false] 40 rfl rfl)|>.set 2 rfl|>.set 2 rfl).cell 0 2 rfl rfl,trivial⟩)
    | (with_reducible refine And.intro (?_:World.cell? (World.setCell (World.setCell (World.alloc wb _) _ _) _ _) _=_) ?_;exact((hCb.out.al (wb.heap.size) #[.slice none 0 0,.bool false] 40 rfl rfl)|>.set 3 rfl|>.set 3 rfl).cell 0 0 rfl rfl;exact⟨((hCb.out.al (wb.heap.size) #[.slice none 0 0,.bool false] 40 rfl rfl)|>.set 3 rfl|>.set 3 rfl).cell 0 1 rfl rfl,((hCb.out.al (wb.heap.size) #[.slice none 0 0,.bool false] 40 rfl rfl)|>.set 3 rfl|>.set 3 rfl).cell 0 2 rfl rfl,trivial⟩)
    | (with_reducible refine And.intro (?_:World.cell? (World.setCell (World.setCell wb _ _) _ _) _=_) ?_;exact(hCb.out|>.set 2 rfl|>.set 2 rfl).cell 0 0 rfl rfl;exact⟨(hCb.out|>.set 2 rfl|>.set 2 rfl).cell 0 1 rfl rfl,(hCb.out|>.set 2 rfl|>.set 2 rfl).cell 0 2 rfl rfl,trivial⟩)
    | (with_reducible refine And.intro (?_:World.cell? (World.setCell (World.setCell wb _ _) _ _) _=_) ?_;exact(hCb.out|>.set 3 rfl|>.set 3 rfl).cell 0 0 rfl rfl;exact⟨(hCb.out|>.set 3 rfl|>.set 3 rfl).cell 0 1 rfl rfl,(hCb.out|>.set 3 rfl|>.set 3 rfl).cell 0 2 rfl rfl,trivial⟩)
    | (with_reducible refine And.intro (?_:World.cell? (World.alloc (World.alloc wb _) _) _=_) ?_;exact((hCb.out.al (wb.heap.size) #[.slice none 0 0,.bool false] 40 rfl rfl).al (wb.heap.size+1) #[.slice none 0 0,.bool false] 40 (by simp) rfl).cell 0 0 rfl rfl;have Yx:=(hCb.out.al (wb.heap.size) #[.slice none 0 0,.bool false] 40 rfl rfl).al (wb.heap.size+1) #[.slice none 0 0,.bool false] 40 (by simp) rfl;exact⟨Yx.cell 0 1 rfl rfl,Yx.cell 0 2 rfl rfl,trivial⟩)
    | (with_reducible refine And.intro (?_:World.cell? (World.alloc wb _) _=_) ?_;exact(hCb.out.al (wb.heap.size) #[.slice none 0 0,.bool false] 40 rfl rfl).cell 0 0 rfl rfl;have Yx:=hCb.out.al (wb.heap.size) #[.slice none 0 0,.bool false] 40 rfl rfl;exact⟨Yx.cell 0 1 rfl rfl,Yx.cell 0 2 rfl rfl,trivial⟩)
    | (with_reducible refine And.intro (?_:World.cell? wb _=_) ?_;exact hCb.out.cell 0 0 rfl rfl;exact⟨hCb.out.cell 0 1 rfl rfl,hCb.out.cell 0 2 rfl rfl,trivial⟩)
    | (with_reducible refine And.intro (?_:World.cell? (World.alloc (World.alloc wa _) _) _=_) ?_;exact((hCa.out.al (wa.heap.size) #[.slice none 0 0,.bool false] 40 rfl rfl).al (wa.heap.size+1) #[.slice none 0 0,.bool false] 40 (by simp) rfl).cell 0 0 rfl rfl;have Yx:=(hCa.out.al (wa.heap.size) #[.slice none 0 0,.bool false] 40 rfl rfl).al (wa.heap.size+1) #[.slice none 0 0,.bool false] 40 (by simp) rfl;exact⟨Yx.cell 0 1 rfl rfl,Yx.cell 0 2 rfl rfl,trivial⟩)
    | (with_reducible refine And.intro (?_:World.cell? (World.alloc wa _) _=_) ?_;exact(hCa.out.al (wa.heap.size) #[.slice none 0 0,.bool false] 40 rfl rfl).cell 0 0 rfl rfl;have Yx:=hCa.out.al (wa.heap.size) #[.slice none 0 0,.bool false] 40 rfl rfl;exact⟨Yx.cell 0 1 rfl rfl,Yx.cell 0 2 rfl rfl,trivial⟩)
    | (with_reducible refine And.intro (?_:World.cell? wa _=_) ?_;exact hCa.out.cell 0 0 rfl rfl;exact⟨hCa.out.cell 0 1 rfl rfl,hCa.out.cell 0 2 rfl rfl,trivial⟩)
    | (with_reducible refine And.intro (?_:World.cell? (World.drew (World.alloc (World.alloc W1 _) _)) _=_) ?_;exact((hC.out.al (W1.heap.size) #[.slice none 0 0,.bool false] 40 rfl rfl).al (W1.heap.size+1) #[.slice none 0 0,.bool false] 40 (by simp) rfl).drew.cell 0 0 rfl rfl;have Yx:=((hC.out.al (W1.heap.size) #[.slice none 0 0,.bool false] 40 rfl rfl).al (W1.heap.size+1) #[.slice none 0 0,.bool false] 40 (by simp) rfl).drew;exact⟨Yx.cell 0 1 rfl rfl,Yx.cell 0 2 rfl rfl,trivial⟩)
    | (with_reducible refine And.intro (?_:World.cell? (World.drew (World.alloc W1 _)) _=_) ?_;exact(hC.out.al (W1.heap.size) #[.slice none 0 0,.bool false] 40 rfl rfl).drew.cell 0 0 rfl rfl;have Yx:=(hC.out.al (W1.heap.size) #[.slice none 0 0,.bool false] 40 rfl rfl).drew;exact⟨Yx.cell 0 1 rfl rfl,Yx.cell 0 2 rfl rfl,trivial⟩)
    | (with_reducible refine And.intro (?_:World.cell? (World.drew W1) _=_) ?_;exact hC.out.drew.cell 0 0 rfl rfl;exact⟨hC.out.drew.cell 0 1 rfl rfl,hC.out.drew.cell 0 2 rfl rfl,trivial⟩)
    | (with_reducible refine And.intro (?_:World.cell? (World.alloc (World.alloc wb _) _) _=_) ?_;exact hCb.out.row.row.cell 0 0 rfl rfl;exact⟨hCb.out.row.row.cell 0 1 rfl rfl,hCb.out.row.row.cell 0 2 rfl rfl,trivial⟩)
    | (with_reducible refine And.intro (?_:World.cell? (World.alloc wb _) _=_) ?_;exact hCb.out.row.cell 0 0 rfl rfl;exact⟨hCb.out.row.cell 0 1 rfl rfl,hCb.out.row.cell 0 2 rfl rfl,trivial⟩))
   (first
    | (have _t:=hCa;go_at_call 148;(first | (have P:=(hCa.out.r 0 rfl).z;have P2:=hCa.out.z 1 rfl;(with_reducible refine(quo_b P P2 HD.out B1.out.num B1.out.den HK1.out HK1.out).mono ?_);rintro e wb ⟨a4,n4,c4,m4,a5,n5,c5,m5,rfl,hz,hr,hb⟩;have hCb:=ζ ((hCa.out.call hb).pz hz);clear hz hb P P2 hr) | (have P:=((hCa.out.al (wa.heap.size) #[.slice none 0 0,.bool false] 40 rfl rfl).r 0 rfl).z;have P2:=(hCa.out.al (wa.heap.size) #[.slice none 0 0,.bool false] 40 rfl rfl).z 1 rfl;(with_reducible refine(quo_b P P2 HD.out B1.out.num B1.out.den HK1.out HK1.out).mono ?_);rintro e wb ⟨a4,n4,c4,m4,a5,n5,c5,m5,rfl,hz,hr,hb⟩;have hCb:=ζ (((hCa.out.al (wa.heap.size) #[.slice none 0 0,.bool false] 40 rfl rfl).call hb).pz hz);clear hz hb P P2 hr) | (have P:=(((hCa.out.al (wa.heap.size) #[.slice none 0 0,.bool false] 40 rfl rfl).al (wa.heap.size+1) #[.slice none 0 0,.bool false] 40 (by simp) rfl).r 0 rfl).z;have P2:=((hCa.out.al (wa.heap.size) #[.slice none 0 0,.bool false] 40 rfl rfl).al (wa.heap.size+1) #[.slice none 0 0,.bool false] 40 (by simp) rfl).z 1 rfl;(with_reducible refine(quo_b P P2 HD.out B1.out.num B1.out.den HK1.out HK1.out).mono ?_);rintro e wb ⟨a4,n4,c4,m4,a5,n5,c5,m5,rfl,hz,hr,hb⟩;have hCb:=ζ ((((hCa.out.al (wa.heap.size) #[.slice none 0 0,.bool false] 40 rfl rfl).al (wa.heap.size+1) #[.slice none 0 0,.bool false] 40 (by simp) rfl).call hb).pz hz);clear hz hb P P2 hr));(try have c20:=hCb.out.cell 2 0 rfl rfl);(try have c21:=hCb.out.cell 2 1 rfl rfl);(try have c30:=hCb.out.cell 3 0 rfl rfl);(try have c31:=hCb.out.cell 3 1 rfl rfl);(try have f20:=hCb.out.free 2 0 rfl);(try have f21:=hCb.out.free 2 1 rfl);(try have f30:=hCb.out.free 3 0 rfl);(try have f31:=hCb.out.free 3 1 rfl);(try have l2:=hCb.out.lt 2 rfl);(try have l3:=hCb.out.lt 3 rfl);(try have l23:=hCb.out.apart 2 3 rfl rfl (by omega));(try have l32:=(hCb.out.apart 2 3 rfl rfl (by omega)).symm);clear _t hCa)
    | (have _t:=hC;go_at_call 91;(first | (have P:=(hC.out.drew).r 0 rfl;(with_reducible refine(bottom_b P B1.out HK1.out).mono ?_);rintro e wa ⟨a3,n3,c3,m3,rfl,hz,hb⟩;have hCa:=ζ ((hC.out.drew.call hb).pz hz);clear hz hb P) | (have P:=((hC.out.al (W1.heap.size) #[.slice none 0 0,.bool false] 40 rfl rfl).drew).r 0 rfl;(with_reducible refine(bottom_b P B1.out HK1.out).mono ?_);rintro e wa ⟨a3,n3,c3,m3,rfl,hz,hb⟩;have hCa:=ζ (((hC.out.al (W1.heap.size) #[.slice none 0 0,.bool false] 40 rfl rfl).drew.call hb).pz hz);clear hz hb P) | (have P:=(((hC.out.al (W1.heap.size) #[.slice none 0 0,.bool false] 40 rfl rfl).al (W1.heap.size+1) #[.slice none 0 0,.bool false] 40 (by simp) rfl).drew).r 0 rfl;(with_reducible refine(bottom_b P B1.out HK1.out).mono ?_);rintro e wa ⟨a3,n3,c3,m3,rfl,hz,hb⟩;have hCa:=ζ ((((hC.out.al (W1.heap.size) #[.slice none 0 0,.bool false] 40 rfl rfl).al (W1.heap.size+1) #[.slice none 0 0,.bool false] 40 (by simp) rfl).drew.call hb).pz hz);clear hz hb P));clear _t hC)
    | fail)
  all_goals (go_wp2_with fail;go_meet)
  all_goals (first
   | (refine⟨_,a4,n4,c4,m4,rfl,?_⟩;(with_reducible refine(?_:Hid (St w (World.alloc (World.alloc wb _) _) _ _)));exact ζ (St.pick (St.bpick ((hCb.out.al (wb.heap.size) #[.slice a4 n4 c4,.bool m4] 40 rfl rfl).al (wb.heap.size+1) #[.slice a5 n5 c5,.bool m5] 40 (by simp) rfl) [0,1,2] (by decide) rfl) [2] rfl))
   | (refine⟨_,a4,n4,c4,m4,rfl,?_⟩;(with_reducible refine(?_:Hid (St w (World.alloc (World.setCell (World.setCell wb _ _) _ _) _) _ _)));exact ζ (St.pick (St.bpick ((hCb.out|>.set 2 rfl|>.set 2 rfl).al (wb.heap.size) #[.slice a5 n5 c5,.bool m5] 40 (by simp [World.setCell]) rfl) [0,1,2] (by decide) rfl) [2] rfl))
   | (refine⟨_,a4,n4,c4,m4,rfl,?_⟩;(with_reducible refine(?_:Hid (St w (World.alloc (World.alloc wb _) _) _ _)));exact ζ (St.pick (St.bpick ((hCb.out.al (wb.heap.size) #[.slice a5 n5 c5,.bool m5] 40 rfl rfl).al (wb.heap.size+1) #[.slice a4 n4 c4,.bool m4] 40 (by simp) rfl) [0,1,3] (by decide) rfl) [2] rfl))
   | (refine⟨_,a4,n4,c4,m4,rfl,?_⟩;(with_reducible refine(?_:Hid (St w (World.alloc (World.setCell (World.setCell wb _ _) _ _) _) _ _)));exact ζ (St.pick (St.bpick ((hCb.out|>.set 2 rfl|>.set 2 rfl).al (wb.heap.size) #[.slice a4 n4 c4,.bool m4] 40 (by simp [World.setCell]) rfl) [0,1,3] (by decide) rfl) [2] rfl))
   | (refine⟨_,a4,n4,c4,m4,rfl,?_⟩;(with_reducible refine(?_:Hid (St w (World.setCell (World.setCell (World.setCell (World.setCell wb _ _) _ _) _ _) _ _) _ _)));exact ζ (St.pick (St.bpick ((hCb.out|>.set 2 rfl|>.set 2 rfl)|>.set 3 rfl|>.set 3 rfl) [0,1,2] (by decide) rfl) [2] rfl))
   | (refine⟨_,a4,n4,c4,m4,rfl,?_⟩;(with_reducible refine(?_:Hid (St w (World.setCell (World.setCell (World.setCell (World.setCell wb _ _) _ _) _ _) _ _) _ _)));exact ζ (St.pick (St.bpick ((hCb.out|>.set 3 rfl|>.set 3 rfl)|>.set 2 rfl|>.set 2 rfl) [0,1,3] (by decide) rfl) [2] rfl)))
 case rest=>
  obtain ⟨bx,a4,n4,c4,m4,rfl,hD⟩:=hcut
  clear hC
  have hD_c10:=hD.out.cell 1 0 rfl rfl
  have hD_f10:=hD.out.free 1 0 rfl
  have hD_c11:=hD.out.cell 1 1 rfl rfl
  have hD_f11:=hD.out.free 1 1 rfl
  have hD_c20:=hD.out.cell 2 0 rfl rfl
  have hD_f20:=hD.out.free 2 0 rfl
  have hD_c21:=hD.out.cell 2 1 rfl rfl
  have hD_f21:=hD.out.free 2 1 rfl
  go_wp2
  refine ret_st (hD.out|>.set 1 rfl|>.set 1 rfl) (v:= .agg #[.slice a4 n4 c4,.bool m4]) (fun hF=>?_) rfl (fun hF=>⟨_,_,_,_,rfl,hF.z 0 rfl,hF.be⟩)
  ·have e0:=hF.cell 1 0 rfl rfl
   have e1:=hF.cell 1 1 rfl rfl
   simp [results,Tryz.results117,go_sem,e0,e1]
section
variable {w:World} {a1:Option Addr} {n1 c1:Nat} {m1:Bool} {d1:Option Addr} {e1 f1:Nat} {q1:Rat} {k1:Nat}
theorem rfloor_b (h1:Rd w (.slice a1 n1 c1) m1 (.slice d1 e1 f1) q1) (b1:Bq k1 q1) (hk1:k1≤40000):
  Calls Tryz.prog 117 #[.agg #[.slice a1 n1 c1,.bool m1,.slice d1 e1 f1]] w (RetZ w q1.floor):=by
 rw [←floor_eq];exact rfloor_any _ _ _ _ _ _ _ _ _ h1 k1 b1 hk1
end
theorem rceil_any (a1:Option Addr) (n1 c1:Nat) (m1:Bool) (d1:Option Addr) (e1 f1:Nat) (q1:Rat) (w:World) (h1:Rd w (.slice a1 n1 c1) m1 (.slice d1 e1 f1) q1) (k1:Nat) (b1:Bq k1 q1) (hk1:k1≤40000):
  Calls Tryz.prog 123 #[.agg #[.slice a1 n1 c1,.bool m1,.slice d1 e1 f1]] w (RetZ w (-((-q1).floor))):=by
 have B1:=ζ b1
 clear b1
 have hC:=ζ ((((St.enter w).pr h1).al (w.heap.size) #[.slice a1 n1 c1,.bool m1,.slice d1 e1 f1] 42 rfl rfl).al (w.heap.size+1) #[.slice none 0 0,.bool false] 40 (by simp) rfl)
 clear h1
 go_enter Tryz.func123,Tryz.ntmps123
 have hC_c00:=hC.out.cell 0 0 rfl rfl
 have hC_f00:=hC.out.free 0 0 rfl
 have hC_c01:=hC.out.cell 0 1 rfl rfl
 have hC_f01:=hC.out.free 0 1 rfl
 have hC_c02:=hC.out.cell 0 2 rfl rfl
 have hC_f02:=hC.out.free 0 2 rfl
 go_wp2_with fail
 refine(rneg_b (hC.out.r 0 rfl)).mono ?_
 rintro e w3 ⟨a3,n3,c3,m3,d3,e3,f3,rfl,hz,hb⟩
 have hC3:=ζ ((hC.out.call hb).pr hz)
 clear hb hz
 clear hC
 go_wp2_with fail
 refine(rfloor_b (hC3.out.r 1 rfl) B1.out.neg (by omega)).mono ?_
 rintro e w4 ⟨a4,n4,c4,m4,rfl,hz,hb⟩
 have hC4:=ζ ((hC3.out.call hb).pz hz)
 clear hb hz
 clear hC3
 go_wp2_with fail
 refine(neg_b (hC4.out.z 2 rfl)).mono ?_
 rintro e w5 ⟨a5,n5,c5,m5,rfl,hz,hb⟩
 have hC5:=ζ ((hC4.out.call hb).pz hz)
 clear hb hz
 have hC5_c10:=hC5.out.cell 1 0 rfl rfl
 have hC5_f10:=hC5.out.free 1 0 rfl
 have hC5_c11:=hC5.out.cell 1 1 rfl rfl
 have hC5_f11:=hC5.out.free 1 1 rfl
 clear hC4
 go_wp2
 refine ret_st (hC5.out|>.set 1 rfl|>.set 1 rfl) (v:= .agg #[.slice a5 n5 c5,.bool m5]) (fun hF=>?_) rfl (fun hF=>⟨_,_,_,_,rfl,hF.z 3 rfl,hF.be⟩)
 ·have e0:=hF.cell 1 0 rfl rfl
  have e1:=hF.cell 1 1 rfl rfl
  simp [results,Tryz.results123,go_sem,e0,e1]
def rtext (q:Rat):List UInt8:=if q.den=1 then Dec.ztext q.num else Dec.ztext q.num++ [47]++Dec.ztext q.den
theorem rtext_one (a1:Option Addr) (n1 c1:Nat) (m1:Bool) (d1:Option Addr) (e1 f1:Nat) (q1:Rat) (w:World) (h1:Rd w (.slice a1 n1 c1) m1 (.slice d1 e1 f1) q1) (k1:Nat) (b1:Bq k1 q1) (hk1:k1≤40000) (hd:q1.den=1):
  Calls Tryz.prog 59 #[.agg #[.slice a1 n1 c1,.bool m1,.slice d1 e1 f1]] w (fun e w'=>e= .returned (.string ⟨(rtext q1).toArray⟩)∧Below w.heap.size w w'):=by
 have hn:=Sl.len h1.d
 have e0:(e1=0)↔q1.den=1:=by
  rw [hn,List.length_eq_zero_iff,dg_nil_iff (b:=16777216) (by omega)];have:=q1.den_nz;omega
 have hl1:=ztext_len b1.num (by omega)
 have hl2:=ztext_len b1.den (by omega)
 have hn0:((e1:Int)==0)=true:=by simpa using e0.2 hd
 have HN:=ζ hn0
 have HT:=ζ (show rtext q1=Dec.ztext q1.num from if_pos hd)
 clear hn0 hd e0 hn
 have B1:=ζ b1
 clear b1
 have hC:=ζ (((St.enter w).pr h1).al (w.heap.size) #[.slice a1 n1 c1,.bool m1,.slice d1 e1 f1] 42 rfl rfl)
 clear h1
 go_enter Tryz.func59,Tryz.ntmps59
 have hC_c02:=hC.out.cell 0 2 rfl rfl
 have hC_f02:=hC.out.free 0 2 rfl
 go_wp2_with fail
 refine(none_any _ _ _ _).mono ?_
 rintro e w3 ⟨rfl,hw⟩
 have hC3:=ζ (hC.out.call (W':=w3) (by rw [hw];exact(Below.refl _ _).alloc (Nat.le_refl _) _))
 clear hC hw
 rw [HN.out]
 have hC3_c00:=hC3.out.cell 0 0 rfl rfl
 have hC3_f00:=hC3.out.free 0 0 rfl
 have hC3_c01:=hC3.out.cell 0 1 rfl rfl
 have hC3_f01:=hC3.out.free 0 1 rfl
 go_wp2_with fail
 refine(ztext_any _ _ _ _ _ _ (hC3.out.r 0 rfl).z _ B1.out.num (by omega)).mono ?_
 rintro e w4 ⟨rfl,hb⟩
 have hC4:=ζ ((hC3.out.call hb))
 clear hb
 clear hC3
 go_wp2
 go_ret
 exact⟨ret_str (by rw [HT.out]),hC4.out.be⟩
theorem rtext_more (a1:Option Addr) (n1 c1:Nat) (m1:Bool) (d1:Option Addr) (e1 f1:Nat) (q1:Rat) (w:World) (h1:Rd w (.slice a1 n1 c1) m1 (.slice d1 e1 f1) q1) (k1:Nat) (b1:Bq k1 q1) (hk1:k1≤40000) (hd:q1.den≠1):
  Calls Tryz.prog 59 #[.agg #[.slice a1 n1 c1,.bool m1,.slice d1 e1 f1]] w (fun e w'=>e= .returned (.string ⟨(rtext q1).toArray⟩)∧Below w.heap.size w w'):=by
 have hn:=Sl.len h1.d
 have e0:(e1=0)↔q1.den=1:=by
  rw [hn,List.length_eq_zero_iff,dg_nil_iff (b:=16777216) (by omega)];have:=q1.den_nz;omega
 have hl1:=ztext_len b1.num (by omega)
 have hl2:=ztext_len b1.den (by omega)
 have hn0:((e1:Int)==0)=false:=by simpa using fun e=>hd (e0.1 e)
 have HN:=ζ hn0
 have HT:=ζ (show rtext q1=Dec.ztext q1.num++ [47]++Dec.ztext q1.den from if_neg hd)
 clear hn0 hd e0 hn
 obtain ⟨T1,hT1⟩:∃T:ByteArray,T=⟨(Dec.ztext q1.num).toArray⟩:=⟨_,rfl⟩
 obtain ⟨T2,hT2⟩:∃T:ByteArray,T=⟨(Dec.ztext q1.den).toArray⟩:=⟨_,rfl⟩
 have hs1:T1.size≤1000002:=by rw [hT1];show(Dec.ztext q1.num).toArray.size≤_;simpa using hl1
 have hs2:T2.size≤1000002:=by rw [hT2];show(Dec.ztext q1.den).toArray.size≤_;simpa using hl2
 have hb1:¬ 9223372036854775807≤T1.size:=by omega
 have hb2:¬ 9223372036854775807 < T1.size+1:=by omega
 have hb3:¬ 9223372036854775807 < T1.size+1+T2.size:=by omega
 have HT1:=ζ hT1
 have HT2:=ζ hT2
 clear hT1 hT2 hl1 hl2
 have B1:=ζ b1
 clear b1
 have hC:=ζ (((St.enter w).pr h1).al (w.heap.size) #[.slice a1 n1 c1,.bool m1,.slice d1 e1 f1] 42 rfl rfl)
 clear h1
 go_enter Tryz.func59,Tryz.ntmps59
 have hC_c02:=hC.out.cell 0 2 rfl rfl
 have hC_f02:=hC.out.free 0 2 rfl
 go_wp2_with fail
 refine(none_any _ _ _ _).mono ?_
 rintro e w3 ⟨rfl,hw⟩
 have hC3:=ζ (hC.out.call (W':=w3) (by rw [hw];exact(Below.refl _ _).alloc (Nat.le_refl _) _))
 clear hC hw
 rw [HN.out]
 go_wp2
 go_region_held3 (fun w'=>w'.cell? ⟨w.heap.size,0,none⟩=some (.slice a1 n1 c1)∧w'.cell? ⟨w.heap.size,1,none⟩=some (.bool m1)∧w'.cell? ⟨w.heap.size,2,none⟩=some (.slice d1 e1 f1)∧True)
  (first
   | (with_reducible refine And.intro (?_:World.cell? w6 _=_) ?_;exact hC6.out.cell 0 0 rfl rfl;exact⟨hC6.out.cell 0 1 rfl rfl,hC6.out.cell 0 2 rfl rfl,trivial⟩)
   | (with_reducible refine And.intro (?_:World.cell? w5 _=_) ?_;exact hC5.out.cell 0 0 rfl rfl;exact⟨hC5.out.cell 0 1 rfl rfl,hC5.out.cell 0 2 rfl rfl,trivial⟩)
   | (with_reducible refine And.intro (?_:World.cell? w4 _=_) ?_;exact hC4.out.cell 0 0 rfl rfl;exact⟨hC4.out.cell 0 1 rfl rfl,hC4.out.cell 0 2 rfl rfl,trivial⟩)
   | (with_reducible refine And.intro (?_:World.cell? _ _=_) ?_;exact hC3.out.drew.cell 0 0 rfl rfl;exact⟨hC3.out.drew.cell 0 1 rfl rfl,hC3.out.drew.cell 0 2 rfl rfl,trivial⟩))
  (first
   | (have _t:=hC5;go_at_call 120;refine(ztext_any _ _ _ _ _ _ (hC5.out.z 1 rfl) _ B1.out.den (by omega)).mono ?_;rintro e w6 ⟨rfl,hb⟩;have hC6:=ζ ((hC5.out.call hb));clear hb;rw [←HT2.out];clear _t hC5)
   | (have _t:=hC4;go_at_call 91;refine(bottom_b (hC4.out.r 0 rfl) B1.out (by omega)).mono ?_;rintro e w5 ⟨a5,n5,c5,m5,rfl,hz,hb⟩;have hC5:=ζ ((hC4.out.call hb).pz hz);clear hb hz;clear _t hC4)
   | (have _t:=hC3;go_at_call 120;refine(ztext_any _ _ _ _ _ _ (hC3.out.drew.r 0 rfl).z _ B1.out.num (by omega)).mono ?_;rintro e w4 ⟨rfl,hb⟩;have hC4:=ζ ((hC3.out.drew.call hb));clear hb;rw [←HT1.out];clear _t hC3)
   | fail)
 go_wp2
 go_ret
 exact⟨by rw [HT.out,←ba_append,←ba_append,←HT1.out,←HT2.out];rfl,hC6.out.be⟩
structure Vd (w:World) (s:Value) (m:Bool) (s' t:Value) (p:Bool) (t':Value) (v:Rat×Rat):Prop where
 x:Rd w s m s' v.1
 y:Rd w t p t' v.2
theorem Vd.keep {w w':World} {s s' t t':Value} {m p:Bool} {v:Rat×Rat} (h:Vd w s m s' t p t' v) (hk:Keeps w w'):Vd w' s m s' t p t' v:=⟨h.x.keep hk,h.y.keep hk⟩
section
variable {w W:World} {bs:List (Nat×Array Value×TypeId)} {rs:List (World→Prop)}
theorem St.pv (h:St w W bs rs) {s s' t t':Value} {m p:Bool} {v:Rat×Rat} (hz:Vd W s m s' t p t' v):St w W bs (rs++ [fun V=>Vd V s m s' t p t' v]):=h.push (fun _ _ k hz=>hz.keep k) hz
theorem St.v (h:St w W bs rs) (i:Nat) {s s' t t':Value} {m p:Bool} {v:Rat×Rat} (hx:rs[i]? =some (fun V=>Vd V s m s' t p t' v)):Vd W s m s' t p t' v:=(h.rd _ (List.mem_of_getElem? hx)).2
end
section
variable {w:World} {a1:Option Addr} {n1 c1:Nat} {m1:Bool} {d1:Option Addr} {e1 f1:Nat} {q1:Rat} {a2:Option Addr} {n2 c2:Nat} {m2:Bool} {d2:Option Addr} {e2 f2:Nat} {q2:Rat} {k1 k2:Nat}
theorem rsub_b (h1:Rd w (.slice a1 n1 c1) m1 (.slice d1 e1 f1) q1) (h2:Rd w (.slice a2 n2 c2) m2 (.slice d2 e2 f2) q2) (b1:Bq k1 q1) (b2:Bq k2 q2) (hk1:k1≤40000) (hk2:k2≤40000):
  Calls Tryz.prog 44 #[.agg #[.slice a1 n1 c1,.bool m1,.slice d1 e1 f1],.agg #[.slice a2 n2 c2,.bool m2,.slice d2 e2 f2]] w (RetR w (q1 - q2)):=by
 rw [Rat.sub_eq_add_neg];exact rsub_any _ _ _ _ _ _ _ _ _ _ _ _ _ _ _ _ _ h1 h2 k1 k2 b1 b2 hk1 hk2
theorem rtext_b (h1:Rd w (.slice a1 n1 c1) m1 (.slice d1 e1 f1) q1) (b1:Bq k1 q1) (hk1:k1≤40000):
  Calls Tryz.prog 59 #[.agg #[.slice a1 n1 c1,.bool m1,.slice d1 e1 f1]] w fun e w'=>e= .returned (.string ⟨(rtext q1).toArray⟩)∧Below w.heap.size w w':=by
 by_cases hd:q1.den=1
 ·exact rtext_one _ _ _ _ _ _ _ _ _ h1 k1 b1 hk1 hd
 ·exact rtext_more _ _ _ _ _ _ _ _ _ h1 k1 b1 hk1 hd
end
end Go.Proofs.YthmdhlopeponcaaGreatDoor

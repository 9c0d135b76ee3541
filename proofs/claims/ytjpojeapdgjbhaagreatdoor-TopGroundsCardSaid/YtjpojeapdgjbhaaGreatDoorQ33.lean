/- part -/
import Derived.Test.YtjpojeapdgjbhaaGreatDoorQ30
set_option maxRecDepth 100000
set_option maxHeartbeats 16000000
namespace Go.Proofs.YtjpojeapdgjbhaaGreatDoor
def lowL (x z a:Int):List Pt:=[(x,z),(x+a,z)]
theorem low_prof {x z a:Int} (ha:1<=a) (h1: -100000<=x) (h2:x+a<=100000) (h3: -100000<=z/\z<=100000):Prof (lowL x z a) where
 two:=by simp [lowL]
 forty:=by simp [lowL]
 far:=by
  intro p hp;simp only [lowL,List.mem_cons,List.not_mem_nil,or_false]at hp;rcases hp with rfl | rfl
  ·exact⟨⟨h1,by simp only [Pt.x];omega⟩,h3⟩
  ·exact⟨⟨by simp only [Pt.x];omega,h2⟩,h3⟩
 up:=by
  intro i hi;simp only [lowL,List.length_cons,List.length_nil]at hi;obtain rfl:i=0:=by omega
  show x < x+a;omega
theorem low_grd {x z a t:Int} (ha:1<=a) (h1: -100000<=x) (h2:x+a<=100000) (h3: -100000<=z/\z<=100000) (ht:x<=t) (ht2:t<=x+a):grd (lowL x z a) t=(z:Rat):=by
 rw [(low_prof ha h1 h2 h3).grd_at (i:=0) (by simp [lowL]) ht ht2];show((z:Int):Rat)+((z - z:Int):Rat)*((t - x:Int):Rat) / ((x+a - x:Int):Rat)=z;rw [show z - z=0 by omega];simp only [Rat.intCast_zero];grind
theorem gap_fold (c:Rat):∀ (qs:List Rat) (q:Rat),(qs.map fun t=>c - t).foldl minQ (c - q)=c - qs.foldl maxQ q
 | [],q=>rfl
 | t::qs,q=>by
   rw [List.map_cons,List.foldl_cons,List.foldl_cons,show minQ (c - q) (c - t)=c - maxQ q t from ?_,gap_fold c qs];unfold minQ maxQ;by_cases h:q < t
   ·rw [if_pos h,if_pos (by grind)]
   ·rw [if_neg h,if_neg (by grind)]
theorem gap_least {l:List Pt} {a b:Int} (h:Strt l a b) (c:Rat):((ins l a b++ [b]).map fun t=>c - grd l t).foldl minQ (c - grd l a)=c - hiQ l a b:=by
 rw [h.hi_eq,<-gap_fold,List.map_map];rfl
theorem floor_less (z:Int) (q:Rat):((z:Rat) - q).floor=z - q.ceil:=by
 have key:∀k:Int,k<=((z:Rat) - q).floor↔k<=z - q.ceil:=fun k=>by
  rw [Rat.le_floor_iff];constructor
  ·intro h;have h2:q<=((z - k:Int):Rat):=(by rw [Rat.intCast_sub];grind);have:=Rat.ceil_le_iff.2 h2;omega
  ·intro h;have h2:=Rat.ceil_le_iff.1 (show q.ceil<=z - k by omega);rw [Rat.intCast_sub]at h2;grind
 have h1:=(key _).1 (Int.le_refl _);have h2:=(key _).2 (Int.le_refl _);omega
theorem sorted_eq:∀ {xs ys:List Int},xs.Perm ys->xs.Pairwise (· <= ·)->ys.Pairwise (· <= ·)->xs=ys
 | [],ys,hp,_,_=>by rw [List.nil_perm]at hp;exact hp.symm
 | x::xs,[],hp,_,_=>by have:=hp.length_eq;simp at this
 | x::xs,y::ys,hp,h1,h2=>by
   have hx:=List.pairwise_cons.1 h1;have hy:=List.pairwise_cons.1 h2;have e:x=y:=by
    have m1:x∈y::ys:=hp.mem_iff.1 (List.mem_cons_self ..);have m2:y∈x::xs:=hp.mem_iff.2 (List.mem_cons_self ..);rcases List.mem_cons.1 m1 with e | m1
    ·exact e
    ·rcases List.mem_cons.1 m2 with e | m2
     ·exact e.symm
     ·have:=hy.1 _ m1;have:=hx.1 _ m2;omega
   subst e;rw [sorted_eq hp.cons_inv hx.2 hy.2]
theorem Prof.ins_pw {l:List Pt} (h:Prof l) (a b:Int):(ins l a b).Pairwise (· < ·):=by
 unfold ins;exact h.pw.filter _
theorem Strt.cor_pw {l:List Pt} {a b:Int} (h:Strt l a b):(cor l a b).Pairwise (· < ·):=by
 unfold cor;rw [List.pairwise_cons];refine⟨fun x hx=>?_,?_⟩
 ·rcases List.mem_append.1 hx with hx | hx
  ·exact(mem_ins.1 hx).1
  ·rw [List.mem_singleton.1 hx];exact h.lt
 ·rw [List.pairwise_append];refine⟨h.ok.ins_pw a b,List.pairwise_singleton _ _,fun x hx y hy=>?_⟩;rw [List.mem_singleton.1 hy];exact(mem_ins.1 hx).2.1
theorem Strt.stops {l:List Pt} {a b:Int} (h:Strt l a b):(([a,b]++ins l a b).mergeSort fun x y=>decide (x<=y))=cor l a b:=by
 refine sorted_eq ((List.mergeSort_perm _ _).trans ?_) ?_ (h.cor_pw.imp fun h=>Int.le_of_lt h)
 ·unfold cor;show(a::b::ins l a b).Perm _;refine List.Perm.cons _ ?_;exact(List.perm_append_comm (l₁:=ins l a b) (l₂:=[b])).symm
 ·have:=List.pairwise_mergeSort (le:=fun x y:Int=>decide (x<=y)) (fun a b c h1 h2=>by simp at*;omega) (fun a b=>by simp;omega) ([a,b]++ins l a b);exact this.imp fun h=>of_decide_eq_true h
section
open Go.RowKit Go.Shelf Dig
def laidB (nm:ByteArray) (l:List Pt) (dep den:Int) (g:Pt) (way ax az skin:Int):Bool:=stoneB nm l dep den g && (inB way 0 7 && (inB ax (-100000) 100000 && (inB az (-100000) 100000 && inB skin 1 3)))
section
variable (w:World)
theorem mTs5_2 {P_:Prop} (h:P_:=by
 rintro e wz ⟨rfl,hz⟩;subst wz;go_wp2;go_ret;exact⟨ret_int HR.out,hF.out.be⟩):P_:=h
theorem mTs5_0 {P_:Prop} (h:P_:=by
 cases v1
 ·go_wp2_with fail
  refine(AD.out _).mono ?_;rintro e w1 ⟨rfl,hb⟩;have hE:=ζ (hC.out.call hb);clear hb hC;go_wp2;go_ret;exact⟨ret_int HR.out,hE.out.be⟩
 ·go_wp2_with fail
  refine(AD.out _).mono ?_;rintro e w1 ⟨rfl,hb⟩;have hE:=ζ (hC.out.call hb);clear hb hC;have AC:=hE.out.c 0 1;have AA:=hE.out.c 0 2;have AB:=hE.out.c 0 3;cases v2
  ·go_wp2_with fail
   refine(AE.out _ hE.out.be).mono ?_;rintro e w2 ⟨rfl,hb⟩;have hF:=ζ (hE.out.call hb);clear hb hE;clear AC AA AB;have AA:=hF.out.c 0 2;have AB:=hF.out.c 0 3;go_wp2;go_ret;exact⟨ret_int HR.out,hF.out.be⟩
  ·go_wp2_with fail
   refine(AE.out _ hE.out.be).mono ?_;rintro e w2 ⟨rfl,hb⟩;have hF:=ζ (hE.out.call hb);clear hb hE;clear AC AA AB;have AA:=hF.out.c 0 2;have AB:=hF.out.c 0 3;cases v3
   ·go_wp2_with fail
    refine(HD.out _).mono ?_;exact mTs5_2
   ·go_wp2_with fail
    refine(HD.out _).mono ?_;rintro e wz ⟨rfl,hz⟩;subst wz;cases v4
    ·go_wp2_with fail
     refine(HE.out _).mono ?_;exact mTs5_2
    ·go_wp2_with fail
     refine(HE.out _).mono ?_;exact mTs5_2):P_:=h
theorem mTs5_1 {P_:Prop} (h:P_:=by
 clear hdg;go_enter Tryz.func118,Tryz.ntmps118;cases v5
 ·go_wp2_with fail
  refine(HX.out _).mono ?_;rintro e wz ⟨rfl,hz⟩;subst wz;exact mTs5_0
 ·go_wp2_with fail
  refine(HX.out _).mono ?_;rintro e wz ⟨rfl,hz⟩;subst wz;cases v6
  ·go_wp2_with fail
   refine(HZ.out _).mono ?_;rintro e wz ⟨rfl,hz⟩;subst wz;exact mTs5_0
  ·go_wp2_with fail
   refine(HZ.out _).mono ?_;rintro e wz ⟨rfl,hz⟩;subst wz;exact mTs5_0):P_:=h
theorem scheck_any (nm:ByteArray) (a:OA) (n c:Nat) (l:List Pt) (dep den gx gz:Int) (hnm:nm.size<=1000000) (hs:Sx 2 w a n c (L2 l)):
  Calls Tryz.prog 118 #[.agg #[.string nm,.slice a n c,.int .i64 dep,.int .i64 den,.int .i64 gx,.int .i64 gz]] w (Gives (.int .i64 (if stoneB nm l dep den (gx,gz)=true then 0 else 2)) w):=by
 unfold stoneB grainB;dsimp only;have AD:=ζ (fun W=>snamed_any W nm hnm);have AE:=ζ (fun W (hW:Below w.heap.size w W)=>splaced_any W a n c l (hs.below hW));have HD:=ζ (fun W=>swithin_any W dep 1 2000);have HE:=ζ (fun W=>swithin_any W den 1 10000);have HX:=ζ (fun W=>swithin_any W gx (-100) 100);have HZ:=ζ (fun W=>swithin_any W gz (-100) 100);generalize namedB nm=v1 at*;generalize placedB l=v2 at*;generalize inB dep 1 2000=v3 at*;generalize inB den 1 10000=v4 at*;generalize inB gx (-100) 100=v5 at*;generalize inB gz (-100) 100=v6 at*;obtain ⟨dg,hdg⟩:∃b,decide ((gx,gz)≠(0,0))=b:=⟨_,rfl⟩
 rw [hdg];obtain ⟨r,hr⟩:∃r:Int,(if (v1 && (v2 && (v3 && (v4 && (dg && (v5 && v6))))))=true then 0 else 2)=r:=⟨_,rfl⟩
 rw [hr];have HR:=ζ hr;have hC:=ζ (((Sy.enter w).al w.heap.size #[.string nm,.slice a n c,.int .i64 dep,.int .i64 den,.int .i64 gx,.int .i64 gz] 85 rfl).al (w.heap.size+1) #[.int .i64 gx,.int .i64 gz] 47 (by simp));clear hs hr hnm;by_cases hg:gx=0
 ·subst hg;by_cases hh:gz=0
  ·subst hh;obtain rfl:dg=false:=by rw [<-hdg];decide
   clear hdg HX HZ;go_enter Tryz.func118,Tryz.ntmps118;exact mTs5_0
  ·obtain rfl:dg=true:=by rw [<-hdg];simp [hh]
   exact mTs5_1
 ·obtain rfl:dg=true:=by rw [<-hdg];simp [hg]
  exact mTs5_1
theorem pcheckPl_any (nm:ByteArray) (a:OA) (n c:Nat) (l:List Pt) (dep den gx gz way ax az skin:Int) (hnm:nm.size<=1000000) (hs:Sx 2 w a n c (L2 l)) (hok:laidB nm l dep den (gx,gz) way ax az skin=true):
  Calls Tryz.prog 63 #[.agg #[.string nm,.slice a n c,.int .i64 dep,.int .i64 den,.int .i64 gx,.int .i64 gz,.int .i64 way,.int .i64 ax,.int .i64 az,.int .u8 skin]] w (Gives (.int .i64 0) w):=by
 unfold laidB at hok;simp only [Bool.and_eq_true]at hok;obtain ⟨h1,h2,h3,h4,h5⟩:=hok;have AF:=ζ (fun W (hW:Below w.heap.size w W)=>scheck_any W nm a n c l dep den gx gz hnm (hs.below hW));rw [if_pos h1]at AF;have h2:=inB_iff.1 h2;have h3:=inB_iff.1 h3;have h4:=inB_iff.1 h4;have h5:=inB_iff.1 h5;have HA:=ζ (fun W=>pfar_any W ax h3);have HB:=ζ (fun W=>pfar_any W az h4);have j1:¬ way < 0:=by omega
 have j2:¬ 7 < way:=by omega
 have j3:¬ skin < 1:=by omega
 have j4:¬ 3 < skin:=by omega
 have hC:=ζ ((Sy.enter w).al w.heap.size #[.string nm,.slice a n c,.int .i64 dep,.int .i64 den,.int .i64 gx,.int .i64 gz,.int .i64 way,.int .i64 ax,.int .i64 az,.int .u8 skin] 89 rfl);clear hs h1 h2 h3 h4 h5 hnm;go_enter Tryz.func63,Tryz.ntmps63;go_wp2_with fail
 refine(AF.out _ hC.out.be).mono ?_;rintro e w1 ⟨rfl,hb⟩;have hD:=ζ (hC.out.call hb);clear hb hC;have AG:=hD.out.c 0 6;have AH:=hD.out.c 0 7;have AI:=hD.out.c 0 8;have AJ:=hD.out.c 0 9;go_wp2_with fail
 refine(HA.out _).mono ?_;rintro e wz ⟨rfl,hz⟩;subst wz;go_wp2_with fail
 refine(HB.out _).mono ?_;rintro e wz ⟨rfl,hz⟩;subst wz;go_wp2;go_ret;exact⟨rfl,hD.out.be⟩
end
def Ways (w:World):Prop:=w.cell? ⟨0,0,none⟩=some (.func (.func 279) #[] #[])
theorem Ways.below {w W:World} (h:Ways w) (hb:Below w.heap.size w W):Ways W:=(hb.cell (World.block_lt_of_cell? _ _ h)).trans h
def RetStone (w:World) (nm:ByteArray) (n:Nat) (dep den gx gz:Int) (L:List Pt) (e:Ending) (w':World):Prop:=∃a c,e= .returned (.tuple #[.agg #[.string nm,.slice a n c,.int .i64 dep,.int .i64 den,.int .i64 gx,.int .i64 gz],.int .i64 0])/\w'.ownsRow w.heap.size 47 2 (.slice a n c) n (L2 L)/\Below w.heap.size w w'
section
variable (w:World)
theorem ways0_any (p0 p1:Int):Calls Tryz.prog 279 #[.agg #[.int .i64 p0,.int .i64 p1]] w (Gives (.agg #[.int .i64 p0,.int .i64 p1]) w):=by
 have hC:=ζ (((Sy.enter w).al w.heap.size #[.int .i64 p0,.int .i64 p1] 47 rfl).al (w.heap.size+1) #[.int .i64 p0,.int .i64 p1] 47 (by simp));go_enter Tryz.func279,Tryz.ntmps279;go_wp2;refine ret_sy hC.out (v:= .agg #[.int .i64 p0,.int .i64 p1]) (fun hF=>?_) rfl (fun hF=>⟨rfl,hF.be⟩);have g0:=hF.c 1 0;have g1:=hF.c 1 1;simp [results,Tryz.results279,go_sem,g0,g1]
theorem turned1_zero (p0 p1:Int) (bw:Nat) (hw:w.cell? ⟨bw,0,none⟩=some (.int .i64 0)) (hg:Ways w):
  Calls Tryz.prog 182 #[.agg #[.int .i64 p0,.int .i64 p1],.pointer (some ⟨bw,0,none⟩)] w (Gives (.agg #[.int .i64 p0,.int .i64 p1]) w):=by
 have hbw:=World.block_lt_of_cell? _ _ hw;dsimp only at hbw;have HW:=ζ (fun W (hW:Below w.heap.size w W)=>show W.cell? ⟨bw,0,none⟩=some (.int .i64 0)from(hW.cell (World.block_lt_of_cell? _ _ hw)).trans hw);have HG:=ζ (fun W (hW:Below w.heap.size w W)=>show W.cell? ⟨0,0,none⟩=some (.func (.func 279) #[] #[])from hg.below hW);have hC:=ζ (((Sy.enter w).al w.heap.size #[.int .i64 p0,.int .i64 p1] 47 rfl).al (w.heap.size+1) #[.int .i64 0,.int .i64 0] 47 (by simp));clear hw hg;go_enter Tryz.func182,Tryz.ntmps182;go_upto_region 1 with fail
 obtain ⟨b2,hb2⟩:∃b,w.heap.size+1=b:=⟨_,rfl⟩
 obtain ⟨b1,hb1⟩:∃b,w.heap.size=b:=⟨_,rfl⟩
 rw [hb2,hb1]at hC⊢;refine wp_geny (show Sy w _ [(b1,#[.int .i64 p0,.int .i64 p1],47),(b2,#[.int .i64 0,.int .i64 0],47)] [] []from hC.out) ?_;intro V0 hc;have hD:=ζ hc;clear hc hC hb1 hb2 hbw;have x0:=HW.out _ hD.out.be;go_upto_region 3 with fail
 clear x0;refine wp_region_held_drew (S:=(fun w'=>w'.cell? ⟨b1,0,none⟩=some (.int .i64 p0)/\w'.cell? ⟨b1,1,none⟩=some (.int .i64 p1)/\w'.cell? ⟨bw,0,none⟩=some (.int .i64 0)/\w'.cell? ⟨0,0,none⟩=some (.func (.func 279) #[] #[])/\True)) (by kernel_rfl) ⟨hD.out.drew.c 0 0,hD.out.drew.c 0 1,HW.out _ hD.out.drew.be,HG.out _ hD.out.drew.be,trivial⟩ (fun hH=>?_);refine wpAnyH_geny (show Sy w _ [(b1,#[.int .i64 p0,.int .i64 p1],47),(b2,#[.int .i64 0,.int .i64 0],47)] [] []from hD.out.drew) hH ?_;intro Av hc AM;have A2:=ζ hc;clear hc hH hD;refine tkA 0 rfl AM ?_;try simp only [zP]
 refine tkA 1 rfl AM ?_;try simp only [zP]
 refine tkA 2 rfl AM ?_;try simp only [zP]
 refine tkA 3 rfl AM ?_;try simp only [zP]
 refine tkA 4 rfl AM ?_;try simp only [zP]
 refine rdy1 5 rfl (fun Kq AC=>?_);go_simp;go_at_call 279;refine(ways0_any _ _ _).mono ?_;rintro e wT ⟨rfl,hb⟩;(try go_wp2_with fail);refine stepZ AC (show Sy w _ [(b1,#[.int .i64 p0,.int .i64 p1],47),(b2,#[.int .i64 0,.int .i64 0],47)] [] []from(A2.out.call hb)) (fun _ hX=>⟨hX.c 0 0,hX.c 0 1,HW.out _ hX.be,HG.out _ hX.be,trivial⟩) ?_;intro Ax AN Ab;clear AC Kq A2 hb AM;try simp only [zP]
 refine rdy1 6 rfl (fun Kq AC=>?_);have cQ0:=AN.out.c 1 0;have fQ0:=AN.out.f 1 0;have cQ1:=AN.out.c 1 1;have fQ1:=AN.out.f 1 1;go_simp;refine stepZ AC (show Sy w _ [(b1,#[.int .i64 p0,.int .i64 p1],47),(b2,#[.int .i64 p0,.int .i64 p1],47)] [] []from(AN.out|>.set (j:=0) (v:= .int .i64 p0) 1 rfl|>.set (j:=1) (v:= .int .i64 p1) 1 rfl)) (fun _ hX=>⟨hX.c 0 0,hX.c 0 1,HW.out _ hX.be,HG.out _ hX.be,trivial⟩) ?_;intro Az Ac Ar;clear AC Kq AN cQ0 fQ0 cQ1 fQ1 Ab;try simp only [Act.put]
 refine wpAnyH_done (by kernel_rfl) ?_ _;go_wp2;refine ret_sy Ac.out (v:= .agg #[.int .i64 p0,.int .i64 p1]) (fun hF=>?_) rfl (fun hF=>⟨rfl,hF.be⟩);have g0:=hF.c 1 0;have g1:=hF.c 1 1;simp [results,Tryz.results182,go_sem,g0,g1]
theorem mTs8_1 {P_:Prop} (h:P_:=by
 intro AZ AJ AS;clear AC Kq AE cQ0 fQ0 AI;try simp only [Act.put]
 refine wpAnyH_done (by kernel_rfl) ?_ _;have hJ:Hid (Sy w AZ [(b1,#[.string nm,.slice (some ⟨g0,o0,none⟩) l.length c,.int .i64 dep,.int .i64 den,.int .i64 gx,.int .i64 gz],85),(b2,#[.int .i64 0],3),(b3,#[.string { data:=#[] },.slice none 0 0,.int .i64 0,.int .i64 0,.int .i64 0,.int .i64 0],85),(b4,#[.string nm,.slice AA (k+1) AB,.int .i64 dep,.int .i64 den,.int .i64 gx,.int .i64 gz],85)] [⟨.slice AA (k+1) AB,47,2,(k+1),L2 (l.take (k+1))⟩] []):=ζ (by rw [An.out];exact(AJ.out.thin (List.Sublist.refl _|>.trans (tkSub 4 _ rfl)) (tkSub 1 _ rfl)));clear AJ AS;go_wp2;go_roundw
 case rel=>exact⟨k+1,AA,AB,by omega,by go_num,hJ⟩
 case measure=>simp [intOf];omega):P_:=h
theorem mTs8_0 {P_:Prop} (h:P_:=by
 try simp only [zP]
 refine rdy1 5 rfl (fun Kq AC=>?_);go_simp;refine stepZ AC (show Sy w _ [(b1,#[.string nm,.slice (some ⟨g0,o0,none⟩) l.length c,.int .i64 dep,.int .i64 den,.int .i64 gx,.int .i64 gz],85),(b2,#[.int .i64 0],3),(b3,#[.string { data:=#[] },.slice none 0 0,.int .i64 0,.int .i64 0,.int .i64 0,.int .i64 0],85),(b4,#[.string nm,.slice bo k co,.int .i64 dep,.int .i64 den,.int .i64 gx,.int .i64 gz],85),(b5,#[.int .i64 p0,.int .i64 p1],47)] [⟨.slice bo k co,47,2,k,L2 (l.take k)⟩,⟨.slice (some ⟨AL.heap.size,0,none⟩) 1 1,47,2,1,[.int .i64 p0,.int .i64 p1]⟩] []from(AG.out.onew AL.heap.size #[.int .i64 p0,.int .i64 p1] 47 2 1 rfl (by omega) rfl)) (fun _ hX=>⟨hX.c 4 0,hX.c 4 1,trivial⟩) ?_;intro Ad AH AR;clear AC Kq AG AQ;try simp only [zP]
 refine rdy1 6 rfl (fun Kq AC=>?_);rw [if_pos (by rfl)];refine op_append_sy AH.out 0 1 rfl rfl _ _ _ rfl und_PtS info_PtS rfl (by omega) rfl rfl (by intro u hu;simp at hu;rcases hu with rfl | rfl<;>rfl) (by omega) (by omega) (fun AA AB _ hc=>?_);refine stepZ AC (show Sy w _ [(b1,#[.string nm,.slice (some ⟨g0,o0,none⟩) l.length c,.int .i64 dep,.int .i64 den,.int .i64 gx,.int .i64 gz],85),(b2,#[.int .i64 0],3),(b3,#[.string { data:=#[] },.slice none 0 0,.int .i64 0,.int .i64 0,.int .i64 0,.int .i64 0],85),(b4,#[.string nm,.slice bo k co,.int .i64 dep,.int .i64 den,.int .i64 gx,.int .i64 gz],85),(b5,#[.int .i64 p0,.int .i64 p1],47)] [⟨.slice AA (k+1) AB,47,2,k+1,L2 (l.take k)++ [.int .i64 p0,.int .i64 p1]⟩,⟨.slice (some ⟨AL.heap.size,0,none⟩) 1 1,47,2,1,[.int .i64 p0,.int .i64 p1]⟩] []from hc) (fun _ hX=>⟨hX.c 4 0,hX.c 4 1,trivial⟩) ?_;intro Af AE AI;clear AC Kq AH hc AR;try simp only [zP]
 refine tkA 7 rfl AI ?_;try simp only [zP]
 refine rdy1 8 rfl (fun Kq AC=>?_);have cQ0:=AE.out.c 3 1;have fQ0:=AE.out.f 3 1;go_simp;refine stepZ AC (show Sy w _ [(b1,#[.string nm,.slice (some ⟨g0,o0,none⟩) l.length c,.int .i64 dep,.int .i64 den,.int .i64 gx,.int .i64 gz],85),(b2,#[.int .i64 0],3),(b3,#[.string { data:=#[] },.slice none 0 0,.int .i64 0,.int .i64 0,.int .i64 0,.int .i64 0],85),(b4,#[.string nm,.slice AA (k+1) AB,.int .i64 dep,.int .i64 den,.int .i64 gx,.int .i64 gz],85),(b5,#[.int .i64 p0,.int .i64 p1],47)] [⟨.slice AA (k+1) AB,47,2,k+1,L2 (l.take k)++ [.int .i64 p0,.int .i64 p1]⟩,⟨.slice (some ⟨AL.heap.size,0,none⟩) 1 1,47,2,1,[.int .i64 p0,.int .i64 p1]⟩] []from(AE.out|>.set (j:=1) (v:= .slice AA (k+1) AB) 3 rfl)) (fun _ hX=>⟨hX.c 4 0,hX.c 4 1,trivial⟩) ?_;exact mTs8_1):P_:=h
theorem turned_zero (nm:ByteArray) (a:OA) (n c:Nat) (l:List Pt) (dep den gx gz:Int) (hnm:nm.size<=1000000) (hs:Sx 2 w a n c (L2 l)) (hok:stoneB nm l dep den (gx,gz)=true) (hg:Ways w):
  Calls Tryz.prog 157 #[.agg #[.string nm,.slice a n c,.int .i64 dep,.int .i64 den,.int .i64 gx,.int .i64 gz],.int .i64 0] w (RetStone w nm n dep den gx gz (settledL l)):=by
 have As:=ζ (fun W (hW:Below w.heap.size w W)=>scheck_any W nm a n c l dep den gx gz hnm (hs.below hW));rw [if_pos hok]at As;have hpl:placedB l=true:=by
  unfold stoneB at hok;simp only [Bool.and_eq_true]at hok;exact hok.2.1
 have hfar:l.any farS=false:=by
  unfold placedB at hpl;simp only [Bool.and_eq_true,Bool.not_eq_true']at hpl;exact hpl.1
 have hl12:3<=l.length/\l.length<=12:=by
  unfold placedB convexB at hpl;simp only [Bool.and_eq_true]at hpl;have:=inB_iff.1 hpl.2.1.1;omega
 obtain rfl:=hs.n2;have BA:=ζ (farS_near hfar);have BB:=ζ (fun W (hW:Below w.heap.size w W) (i:Nat) (hi:i < l.length)=>show ∃g o,a=some ⟨g,o,none⟩/\W.cell? ⟨g,o+i*2,none⟩=some (.int .i64 l[i].1)/\W.cell? ⟨g,o+i*2+1,none⟩=some (.int .i64 l[i].2)by
  obtain ⟨g,o,rfl⟩:=hs.addr (by omega);exact⟨g,o,rfl,(hs.below hW).at2 hi⟩)
 have HG:=ζ (fun W (hW:Below w.heap.size w W)=>hg.below hW);have BC:=ζ (fun W a' c' (h:Sx 2 W a' l.length c' (L2 l))=>ssettled_any W a' l.length c' l h (by omega) (by omega) BA.out);have HW:=ζ (fun W=>swithin_any W 0 0 7);rw [show inB 0 0 7=true by decide]at HW;have hC:=ζ ((((Sy.enter w).al w.heap.size #[.string nm,.slice a l.length c,.int .i64 dep,.int .i64 den,.int .i64 gx,.int .i64 gz] 85 rfl).al (w.heap.size+1) #[.int .i64 0] 3 (by simp)).al (w.heap.size+1+1) #[.string { data:=#[] },.slice none 0 0,.int .i64 0,.int .i64 0,.int .i64 0,.int .i64 0] 85 (by simp));have hn0:=hl12.1;have hn1:=hl12.2;obtain ⟨g0,o0,rfl⟩:=hs.addr (by omega);have hcap:=hs.cap;unfold maxLen at hcap;clear hs hok hpl hfar hl12 hg hnm;go_enter Tryz.func157,Tryz.ntmps157;go_upto_region 1 with fail
 obtain ⟨b3,hb3⟩:∃b,w.heap.size+1+1=b:=⟨_,rfl⟩
 obtain ⟨b2,hb2⟩:∃b,w.heap.size+1=b:=⟨_,rfl⟩
 obtain ⟨b1,hb1⟩:∃b,w.heap.size=b:=⟨_,rfl⟩
 rw [hb3,hb2,hb1]at hC⊢;refine wp_geny (show Sy w _ [(b1,#[.string nm,.slice (some ⟨g0,o0,none⟩) l.length c,.int .i64 dep,.int .i64 den,.int .i64 gx,.int .i64 gz],85),(b2,#[.int .i64 0],3),(b3,#[.string { data:=#[] },.slice none 0 0,.int .i64 0,.int .i64 0,.int .i64 0,.int .i64 0],85)] [] []from hC.out) ?_;intro V0 hc;have hD:=ζ hc;clear hc hC hb1 hb2 hb3;have A5:=hD.out.c 0 0;have AY:=hD.out.c 0 1;have A6:=hD.out.c 0 2;have A7:=hD.out.c 0 3;have A8:=hD.out.c 0 4;have A9:=hD.out.c 0 5;go_wp2_with fail
 refine(As.out _ hD.out.be).mono ?_;rintro e w1 ⟨rfl,hb⟩;have hE:=ζ (hD.out.call hb);clear hb hD A5 AY A6 A7 A8 A9;have A5:=hE.out.c 0 0;have AY:=hE.out.c 0 1;have A6:=hE.out.c 0 2;have A7:=hE.out.c 0 3;have A8:=hE.out.c 0 4;have A9:=hE.out.c 0 5;have Am:=hE.out.c 1 0;go_wp2_with fail
 refine(HW.out _).mono ?_;rintro e wz ⟨rfl,hz⟩;subst wz;have hF:=ζ (hE.out.al w1.heap.size #[.string nm,.slice none 0 0,.int .i64 dep,.int .i64 den,.int .i64 gx,.int .i64 gz] 85 rfl);go_upto_region 9 with fail
 obtain ⟨b4,hb4⟩:∃b,w1.heap.size=b:=⟨_,rfl⟩
 rw [hb4]at hF⊢;refine wp_geny (show Sy w _ [(b1,#[.string nm,.slice (some ⟨g0,o0,none⟩) l.length c,.int .i64 dep,.int .i64 den,.int .i64 gx,.int .i64 gz],85),(b2,#[.int .i64 0],3),(b3,#[.string { data:=#[] },.slice none 0 0,.int .i64 0,.int .i64 0,.int .i64 0,.int .i64 0],85),(b4,#[.string nm,.slice none 0 0,.int .i64 dep,.int .i64 den,.int .i64 gx,.int .i64 gz],85)] [] []from hF.out) ?_;intro V1 hc;have hG:=ζ (hc.onil 47 2);clear hc hF hE hb4 A5 AY A6 A7 A8 A9 Am;have AY:=hG.out.c 0 1;go_wp2;clear AY;go_loopw [27] (fun iv wr=>∃ (k:Nat) (bo:OA) (co:Nat),k<=l.length/\iv= .int .i64 k/\Hid (Sy w wr [(b1,#[.string nm,.slice (some ⟨g0,o0,none⟩) l.length c,.int .i64 dep,.int .i64 den,.int .i64 gx,.int .i64 gz],85),(b2,#[.int .i64 0],3),(b3,#[.string { data:=#[] },.slice none 0 0,.int .i64 0,.int .i64 0,.int .i64 0,.int .i64 0],85),(b4,#[.string nm,.slice bo k co,.int .i64 dep,.int .i64 den,.int .i64 gx,.int .i64 gz],85)] [⟨.slice bo k co,47,2,k,L2 (l.take k)⟩] [])) (fun iv _=>l.length - (intOf iv).toNat)
 case atStart=>exact⟨0,none,0,Nat.zero_le _,rfl,hG⟩
 case round=>
  clear hG;obtain ⟨k,bo,co,hk,rfl,hS⟩:=hrel;have i0:(0:Int)<=(k:Int):=by omega
  by_cases hlt:k < l.length
  ·have i1:(k:Int) < (l.length:Int):=(by omega);obtain ⟨_,_,he,x0,x1⟩:=BB.out wr hS.out.be k hlt;simp only [Option.some.injEq,Addr.mk.injEq,and_true]at he;obtain ⟨rfl,rfl⟩:=he;have An:=ζ (L2_snoc l k hlt);generalize l[k]=p at*;obtain ⟨p0,p1⟩:=p;dsimp only at x0 x1;have hgl:=World.block_lt_of_cell? _ _ x0;dsimp only at hgl;have hX:=ζ (hS.out.al wr.heap.size #[.int .i64 p0,.int .i64 p1] 47 rfl);go_upto_region 12 with fail
   obtain ⟨b5,hb5⟩:∃b,wr.heap.size=b:=⟨_,rfl⟩
   rw [hb5]at hX⊢;refine wp_geny (show Sy w _ [(b1,#[.string nm,.slice (some ⟨g0,o0,none⟩) l.length c,.int .i64 dep,.int .i64 den,.int .i64 gx,.int .i64 gz],85),(b2,#[.int .i64 0],3),(b3,#[.string { data:=#[] },.slice none 0 0,.int .i64 0,.int .i64 0,.int .i64 0,.int .i64 0],85),(b4,#[.string nm,.slice bo k co,.int .i64 dep,.int .i64 den,.int .i64 gx,.int .i64 gz],85),(b5,#[.int .i64 p0,.int .i64 p1],47)] [⟨.slice bo k co,47,2,k,L2 (l.take k)⟩] []from hX.out) ?_;intro V2 hc;have Al:=ζ hc;clear hc hX hS hb5 x0 x1 hgl;refine wp_region_held_drew (S:=(fun w'=>w'.cell? ⟨b5,0,none⟩=some (.int .i64 p0)/\w'.cell? ⟨b5,1,none⟩=some (.int .i64 p1)/\True)) (by kernel_rfl) ⟨Al.out.drew.c 4 0,Al.out.drew.c 4 1,trivial⟩ (fun hH=>?_);refine wpAnyH_geny (show Sy w _ [(b1,#[.string nm,.slice (some ⟨g0,o0,none⟩) l.length c,.int .i64 dep,.int .i64 den,.int .i64 gx,.int .i64 gz],85),(b2,#[.int .i64 0],3),(b3,#[.string { data:=#[] },.slice none 0 0,.int .i64 0,.int .i64 0,.int .i64 0,.int .i64 0],85),(b4,#[.string nm,.slice bo k co,.int .i64 dep,.int .i64 den,.int .i64 gx,.int .i64 gz],85),(b5,#[.int .i64 p0,.int .i64 p1],47)] [⟨.slice bo k co,47,2,k,L2 (l.take k)⟩] []from Al.out.drew) hH ?_;intro Ap hc AP;have AK:=ζ hc;clear hc hH Al;refine tkA 0 rfl AP ?_;(try simp only [zP]);refine tkA 2 rfl AP ?_;(try simp only [zP]);refine tkA 3 rfl AP ?_;(try simp only [zP]);refine rdyL [1,4] ?_;refine arc rfl (fun Kq AC=>?_) ?_
   ·have cQ0:=AK.out.c 3 1;go_simp;refine stepZ AC (show Sy w _ [(b1,#[.string nm,.slice (some ⟨g0,o0,none⟩) l.length c,.int .i64 dep,.int .i64 den,.int .i64 gx,.int .i64 gz],85),(b2,#[.int .i64 0],3),(b3,#[.string { data:=#[] },.slice none 0 0,.int .i64 0,.int .i64 0,.int .i64 0,.int .i64 0],85),(b4,#[.string nm,.slice bo k co,.int .i64 dep,.int .i64 den,.int .i64 gx,.int .i64 gz],85),(b5,#[.int .i64 p0,.int .i64 p1],47)] [⟨.slice bo k co,47,2,k,L2 (l.take k)⟩] []from AK.out) (fun _ hX=>⟨hX.c 4 0,hX.c 4 1,trivial⟩) ?_;intro AU AF AV;clear AC Kq AK cQ0 AP;(try simp only [zP]);refine rdy1 4 rfl (fun Kq AC=>?_);go_simp;go_at_call 182;refine(turned1_zero AU p0 p1 b2 (AF.out.c 1 0) (HG.out _ AF.out.be)).mono ?_;rintro e wT ⟨rfl,hb⟩;(try go_wp2_with fail);refine stepZ AC (show Sy w _ [(b1,#[.string nm,.slice (some ⟨g0,o0,none⟩) l.length c,.int .i64 dep,.int .i64 den,.int .i64 gx,.int .i64 gz],85),(b2,#[.int .i64 0],3),(b3,#[.string { data:=#[] },.slice none 0 0,.int .i64 0,.int .i64 0,.int .i64 0,.int .i64 0],85),(b4,#[.string nm,.slice bo k co,.int .i64 dep,.int .i64 den,.int .i64 gx,.int .i64 gz],85),(b5,#[.int .i64 p0,.int .i64 p1],47)] [⟨.slice bo k co,47,2,k,L2 (l.take k)⟩] []from(AF.out.call hb)) (fun _ hX=>⟨hX.c 4 0,hX.c 4 1,trivial⟩) ?_;intro AL AG AQ;clear AC Kq AF hb AV;exact mTs8_0
   refine arc rfl (fun Kq AC=>?_) ?_
   ·go_simp;go_at_call 182;refine(turned1_zero Ap p0 p1 b2 (AK.out.c 1 0) (HG.out _ AK.out.be)).mono ?_;rintro e wT ⟨rfl,hb⟩;(try go_wp2_with fail);refine stepZ AC (show Sy w _ [(b1,#[.string nm,.slice (some ⟨g0,o0,none⟩) l.length c,.int .i64 dep,.int .i64 den,.int .i64 gx,.int .i64 gz],85),(b2,#[.int .i64 0],3),(b3,#[.string { data:=#[] },.slice none 0 0,.int .i64 0,.int .i64 0,.int .i64 0,.int .i64 0],85),(b4,#[.string nm,.slice bo k co,.int .i64 dep,.int .i64 den,.int .i64 gx,.int .i64 gz],85),(b5,#[.int .i64 p0,.int .i64 p1],47)] [⟨.slice bo k co,47,2,k,L2 (l.take k)⟩] []from(AK.out.call hb)) (fun _ hX=>⟨hX.c 4 0,hX.c 4 1,trivial⟩) ?_;intro AU AF AV;clear AC Kq AK hb AP;(try simp only [zP]);refine rdyL [1,5] ?_;refine arc rfl (fun Kq AC=>?_) ?_
    ·have cQ0:=AF.out.c 3 1;go_simp;refine stepZ AC (show Sy w _ [(b1,#[.string nm,.slice (some ⟨g0,o0,none⟩) l.length c,.int .i64 dep,.int .i64 den,.int .i64 gx,.int .i64 gz],85),(b2,#[.int .i64 0],3),(b3,#[.string { data:=#[] },.slice none 0 0,.int .i64 0,.int .i64 0,.int .i64 0,.int .i64 0],85),(b4,#[.string nm,.slice bo k co,.int .i64 dep,.int .i64 den,.int .i64 gx,.int .i64 gz],85),(b5,#[.int .i64 p0,.int .i64 p1],47)] [⟨.slice bo k co,47,2,k,L2 (l.take k)⟩] []from AF.out) (fun _ hX=>⟨hX.c 4 0,hX.c 4 1,trivial⟩) ?_;intro AL AG AQ;clear AC Kq AF cQ0 AV;exact mTs8_0
    refine arc rfl (fun Kq AC=>?_) ?_
    ·go_simp;refine stepZ AC (show Sy w _ [(b1,#[.string nm,.slice (some ⟨g0,o0,none⟩) l.length c,.int .i64 dep,.int .i64 den,.int .i64 gx,.int .i64 gz],85),(b2,#[.int .i64 0],3),(b3,#[.string { data:=#[] },.slice none 0 0,.int .i64 0,.int .i64 0,.int .i64 0,.int .i64 0],85),(b4,#[.string nm,.slice bo k co,.int .i64 dep,.int .i64 den,.int .i64 gx,.int .i64 gz],85),(b5,#[.int .i64 p0,.int .i64 p1],47)] [⟨.slice bo k co,47,2,k,L2 (l.take k)⟩,⟨.slice (some ⟨AU.heap.size,0,none⟩) 1 1,47,2,1,[.int .i64 p0,.int .i64 p1]⟩] []from(AF.out.onew AU.heap.size #[.int .i64 p0,.int .i64 p1] 47 2 1 rfl (by omega) rfl)) (fun _ hX=>⟨hX.c 4 0,hX.c 4 1,trivial⟩) ?_;intro AL AG AQ;clear AC Kq AF AV;(try simp only [zP]);refine rdy1 1 rfl (fun Kq AC=>?_);have cQ0:=AG.out.c 3 1;go_simp;refine stepZ AC (show Sy w _ [(b1,#[.string nm,.slice (some ⟨g0,o0,none⟩) l.length c,.int .i64 dep,.int .i64 den,.int .i64 gx,.int .i64 gz],85),(b2,#[.int .i64 0],3),(b3,#[.string { data:=#[] },.slice none 0 0,.int .i64 0,.int .i64 0,.int .i64 0,.int .i64 0],85),(b4,#[.string nm,.slice bo k co,.int .i64 dep,.int .i64 den,.int .i64 gx,.int .i64 gz],85),(b5,#[.int .i64 p0,.int .i64 p1],47)] [⟨.slice bo k co,47,2,k,L2 (l.take k)⟩,⟨.slice (some ⟨AU.heap.size,0,none⟩) 1 1,47,2,1,[.int .i64 p0,.int .i64 p1]⟩] []from AG.out) (fun _ hX=>⟨hX.c 4 0,hX.c 4 1,trivial⟩) ?_;intro Ad AH AR;clear AC Kq AG cQ0 AQ;(try simp only [zP]);refine rdy1 6 rfl (fun Kq AC=>?_);rw [if_pos (by rfl)];refine op_append_sy AH.out 0 1 rfl rfl _ _ _ rfl und_PtS info_PtS rfl (by omega) rfl rfl (by intro u hu;simp at hu;rcases hu with rfl | rfl<;>rfl) (by omega) (by omega) (fun AA AB _ hc=>?_);refine stepZ AC (show Sy w _ [(b1,#[.string nm,.slice (some ⟨g0,o0,none⟩) l.length c,.int .i64 dep,.int .i64 den,.int .i64 gx,.int .i64 gz],85),(b2,#[.int .i64 0],3),(b3,#[.string { data:=#[] },.slice none 0 0,.int .i64 0,.int .i64 0,.int .i64 0,.int .i64 0],85),(b4,#[.string nm,.slice bo k co,.int .i64 dep,.int .i64 den,.int .i64 gx,.int .i64 gz],85),(b5,#[.int .i64 p0,.int .i64 p1],47)] [⟨.slice AA (k+1) AB,47,2,k+1,L2 (l.take k)++ [.int .i64 p0,.int .i64 p1]⟩,⟨.slice (some ⟨AU.heap.size,0,none⟩) 1 1,47,2,1,[.int .i64 p0,.int .i64 p1]⟩] []from hc) (fun _ hX=>⟨hX.c 4 0,hX.c 4 1,trivial⟩) ?_;intro Af AE AI;clear AC Kq AH hc AR;(try simp only [zP]);refine tkA 7 rfl AI ?_;(try simp only [zP]);refine rdy1 8 rfl (fun Kq AC=>?_);have cQ0:=AE.out.c 3 1;have fQ0:=AE.out.f 3 1;go_simp;refine stepZ AC (show Sy w _ [(b1,#[.string nm,.slice (some ⟨g0,o0,none⟩) l.length c,.int .i64 dep,.int .i64 den,.int .i64 gx,.int .i64 gz],85),(b2,#[.int .i64 0],3),(b3,#[.string { data:=#[] },.slice none 0 0,.int .i64 0,.int .i64 0,.int .i64 0,.int .i64 0],85),(b4,#[.string nm,.slice AA (k+1) AB,.int .i64 dep,.int .i64 den,.int .i64 gx,.int .i64 gz],85),(b5,#[.int .i64 p0,.int .i64 p1],47)] [⟨.slice AA (k+1) AB,47,2,k+1,L2 (l.take k)++ [.int .i64 p0,.int .i64 p1]⟩,⟨.slice (some ⟨AU.heap.size,0,none⟩) 1 1,47,2,1,[.int .i64 p0,.int .i64 p1]⟩] []from(AE.out|>.set (j:=1) (v:= .slice AA (k+1) AB) 3 rfl)) (fun _ hX=>⟨hX.c 4 0,hX.c 4 1,trivial⟩) ?_;exact mTs8_1
    exact AllReadyH.nil
   exact AllReadyH.nil
  ·obtain rfl:k=l.length:=by omega
   have i1:¬ (l.length:Int) < (l.length:Int):=(by omega);rw [List.take_length]at hS;have y0:=hS.out.c 1 0;go_upto_region 16 with fail
   clear y0;refine wp_region_held_drew (S:=(fun w'=>w'.cell? ⟨b1,0,none⟩=some (.string nm)/\w'.cell? ⟨b1,1,none⟩=some (.slice (some ⟨g0,o0,none⟩) l.length c)/\w'.cell? ⟨b1,2,none⟩=some (.int .i64 dep)/\w'.cell? ⟨b1,3,none⟩=some (.int .i64 den)/\w'.cell? ⟨b1,4,none⟩=some (.int .i64 gx)/\w'.cell? ⟨b1,5,none⟩=some (.int .i64 gz)/\True)) (by kernel_rfl) ⟨hS.out.drew.c 0 0,hS.out.drew.c 0 1,hS.out.drew.c 0 2,hS.out.drew.c 0 3,hS.out.drew.c 0 4,hS.out.drew.c 0 5,trivial⟩ (fun hH=>?_);refine wpAnyH_geny (show Sy w _ [(b1,#[.string nm,.slice (some ⟨g0,o0,none⟩) l.length c,.int .i64 dep,.int .i64 den,.int .i64 gx,.int .i64 gz],85),(b2,#[.int .i64 0],3),(b3,#[.string { data:=#[] },.slice none 0 0,.int .i64 0,.int .i64 0,.int .i64 0,.int .i64 0],85),(b4,#[.string nm,.slice bo l.length co,.int .i64 dep,.int .i64 den,.int .i64 gx,.int .i64 gz],85)] [⟨.slice bo l.length co,47,2,l.length,L2 l⟩] []from hS.out.drew) hH ?_;intro BD hc AT;have A0:=ζ hc;clear hc hH hS;refine tkA 0 rfl AT ?_;(try simp only [zP]);refine tkA 3 rfl AT ?_;(try simp only [zP]);refine tkA 4 rfl AT ?_;(try simp only [zP]);refine tkA 5 rfl AT ?_;(try simp only [zP]);refine rdy1 1 rfl (fun Kq AC=>?_);have cQ0:=A0.out.c 3 1;go_simp;refine stepZ AC (show Sy w _ [(b1,#[.string nm,.slice (some ⟨g0,o0,none⟩) l.length c,.int .i64 dep,.int .i64 den,.int .i64 gx,.int .i64 gz],85),(b2,#[.int .i64 0],3),(b3,#[.string { data:=#[] },.slice none 0 0,.int .i64 0,.int .i64 0,.int .i64 0,.int .i64 0],85),(b4,#[.string nm,.slice bo l.length co,.int .i64 dep,.int .i64 den,.int .i64 gx,.int .i64 gz],85)] [⟨.slice bo l.length co,47,2,l.length,L2 l⟩] []from A0.out) (fun _ hX=>⟨hX.c 0 0,hX.c 0 1,hX.c 0 2,hX.c 0 3,hX.c 0 4,hX.c 0 5,trivial⟩) ?_;intro BE A1 Ag;clear AC Kq A0 cQ0 AT;(try simp only [zP]);refine rdy1 2 rfl (fun Kq AC=>?_);go_simp;go_at_call 184;refine(BC.out _ _ _ (A1.out.osx 0 rfl)).mono ?_;rintro e wT ⟨b9,c9,rfl,hr,hb⟩;(try go_wp2_with fail);refine stepZ AC (show Sy w _ [(b1,#[.string nm,.slice (some ⟨g0,o0,none⟩) l.length c,.int .i64 dep,.int .i64 den,.int .i64 gx,.int .i64 gz],85),(b2,#[.int .i64 0],3),(b3,#[.string { data:=#[] },.slice none 0 0,.int .i64 0,.int .i64 0,.int .i64 0,.int .i64 0],85),(b4,#[.string nm,.slice bo l.length co,.int .i64 dep,.int .i64 den,.int .i64 gx,.int .i64 gz],85)] [⟨.slice bo l.length co,47,2,l.length,L2 l⟩,⟨.slice b9 l.length c9,47,2,l.length,L2 (settledL l)⟩] []from(A1.out.adopt hb hr)) (fun _ hX=>⟨hX.c 0 0,hX.c 0 1,hX.c 0 2,hX.c 0 3,hX.c 0 4,hX.c 0 5,trivial⟩) ?_;intro Aq AW A3;clear AC Kq A1 hb hr Ag;(try simp only [zP]);refine tkA 7 rfl A3 ?_;(try simp only [zP]);refine rdy1 6 rfl (fun Kq AC=>?_);go_simp;go_at_call 182;refine(turned1_zero Aq gx gz b2 (AW.out.c 1 0) (HG.out _ AW.out.be)).mono ?_;rintro e wT ⟨rfl,hb⟩;(try go_wp2_with fail);refine stepZ AC (show Sy w _ [(b1,#[.string nm,.slice (some ⟨g0,o0,none⟩) l.length c,.int .i64 dep,.int .i64 den,.int .i64 gx,.int .i64 gz],85),(b2,#[.int .i64 0],3),(b3,#[.string { data:=#[] },.slice none 0 0,.int .i64 0,.int .i64 0,.int .i64 0,.int .i64 0],85),(b4,#[.string nm,.slice bo l.length co,.int .i64 dep,.int .i64 den,.int .i64 gx,.int .i64 gz],85)] [⟨.slice bo l.length co,47,2,l.length,L2 l⟩,⟨.slice b9 l.length c9,47,2,l.length,L2 (settledL l)⟩] []from(AW.out.call hb)) (fun _ hX=>⟨hX.c 0 0,hX.c 0 1,hX.c 0 2,hX.c 0 3,hX.c 0 4,hX.c 0 5,trivial⟩) ?_;intro BF AX Aj;clear AC Kq AW hb A3;(try simp only [zP]);refine rdy1 8 rfl (fun Kq AC=>?_);have cQ0:=AX.out.c 3 1;have fQ0:=AX.out.f 3 1;go_simp;refine stepZ AC (show Sy w _ [(b1,#[.string nm,.slice (some ⟨g0,o0,none⟩) l.length c,.int .i64 dep,.int .i64 den,.int .i64 gx,.int .i64 gz],85),(b2,#[.int .i64 0],3),(b3,#[.string { data:=#[] },.slice none 0 0,.int .i64 0,.int .i64 0,.int .i64 0,.int .i64 0],85),(b4,#[.string nm,.slice b9 l.length c9,.int .i64 dep,.int .i64 den,.int .i64 gx,.int .i64 gz],85)] [⟨.slice bo l.length co,47,2,l.length,L2 l⟩,⟨.slice b9 l.length c9,47,2,l.length,L2 (settledL l)⟩] []from(AX.out|>.set (j:=1) (v:= .slice b9 l.length c9) 3 rfl)) (fun _ hX=>⟨hX.c 0 0,hX.c 0 1,hX.c 0 2,hX.c 0 3,hX.c 0 4,hX.c 0 5,trivial⟩) ?_;intro BG AO A4;clear AC Kq AX cQ0 fQ0 Aj;(try simp only [Act.put]);refine tkA 9 rfl A4 ?_;(try simp only [zP]);refine rdy1 10 rfl (fun Kq AC=>?_);have cQ4:=AO.out.c 3 4;have cQ5:=AO.out.c 3 5;have fQ4:=AO.out.f 3 4;have fQ5:=AO.out.f 3 5;go_simp;refine stepZ AC (show Sy w _ [(b1,#[.string nm,.slice (some ⟨g0,o0,none⟩) l.length c,.int .i64 dep,.int .i64 den,.int .i64 gx,.int .i64 gz],85),(b2,#[.int .i64 0],3),(b3,#[.string { data:=#[] },.slice none 0 0,.int .i64 0,.int .i64 0,.int .i64 0,.int .i64 0],85),(b4,#[.string nm,.slice b9 l.length c9,.int .i64 dep,.int .i64 den,.int .i64 gx,.int .i64 gz],85)] [⟨.slice bo l.length co,47,2,l.length,L2 l⟩,⟨.slice b9 l.length c9,47,2,l.length,L2 (settledL l)⟩] []from(AO.out|>.set (j:=4) (v:= .int .i64 gx) 3 rfl|>.set (j:=5) (v:= .int .i64 gz) 3 rfl)) (fun _ hX=>⟨hX.c 0 0,hX.c 0 1,hX.c 0 2,hX.c 0 3,hX.c 0 4,hX.c 0 5,trivial⟩) ?_;intro BH AD Ak;clear AC Kq AO cQ4 cQ5 fQ4 fQ5 A4;(try simp only [Act.put]);refine wpAnyH_done (by kernel_rfl) ?_ _;have BI:=AD.out.c 3 0;have BJ:=AD.out.c 3 1;have BK:=AD.out.c 3 2;have BL:=AD.out.c 3 3;have BM:=AD.out.c 3 4;have BN:=AD.out.c 3 5;have y2_0:=AD.out.c 2 0;have y2_1:=AD.out.c 2 1;have y2_2:=AD.out.c 2 2;have y2_3:=AD.out.c 2 3;have y2_4:=AD.out.c 2 4;have y2_5:=AD.out.c 2 5;have BO:=AD.out.f 2 0;have BP:=AD.out.f 2 1;have BQ:=AD.out.f 2 2;have BR:=AD.out.f 2 3;have BS:=AD.out.f 2 4;have BT:=AD.out.f 2 5;have hZ:=ζ (AD.out|>.set (j:=0) (v:= .string nm) 2 rfl|>.set (j:=1) (v:= .slice b9 l.length c9) 2 rfl|>.set (j:=2) (v:= .int .i64 dep) 2 rfl|>.set (j:=3) (v:= .int .i64 den) 2 rfl|>.set (j:=4) (v:= .int .i64 gx) 2 rfl|>.set (j:=5) (v:= .int .i64 gz) 2 rfl);clear AD Ak;go_wp2;refine ret_sy hZ.out (v:= .tuple #[.agg #[.string nm,.slice b9 l.length c9,.int .i64 dep,.int .i64 den,.int .i64 gx,.int .i64 gz],.int .i64 0]) (fun hF=>?_) rfl (fun hF=>⟨_,_,rfl,hF.orow 1 rfl,hF.be⟩);have g0:=hF.c 2 0;have g1:=hF.c 2 1;have g2:=hF.c 2 2;have g3:=hF.c 2 3;have g4:=hF.c 2 4;have g5:=hF.c 2 5;simp [results,Tryz.results157,go_sem,g0,g1,g2,g3,g4,g5]
end
end
end Go.Proofs.YtjpojeapdgjbhaaGreatDoor

/- part -/
import Derived.Test.YthmdhlopeponcaaGreatDoorK24
set_option maxRecDepth 100000
set_option maxHeartbeats 8000000
namespace Go.Proofs.YthmdhlopeponcaaGreatDoor
open Go.RowKit Go.Shelf Dig
def RetC (m:Nat) (cost:Nat->Nat->Rat) (q:Rat) (w:World) (e:Ending) (w':World):Prop:=∃ (a:OA) (n c:Nat) (mm:Bool) (d:OA) (e1 f:Nat),e= .returned (.agg #[.slice a n c,.bool mm,.slice d e1 f])/\Rd w' (.slice a n c) mm (.slice d e1 f) q/\MI m cost w'/\MCall m w w'
theorem zero_hR:(Tryz.prog.info? 42).map (·.zero)=some (some (.agg #[.slice none 0 0,.bool false,.slice none 0 0])):=by kernel_rfl
section
variable (w:World)
theorem costOf_any (sa:OA) (sn sc:Nat) (l:List Pt) (a unit depth:Int) (n i k:Nat) (hs:Sx 2 w sa sn sc (L2 l)) (hT:Strt l a (atC a unit n)) (hn:n<=60) (hu:1<=unit) (hd:0<=depth/\depth<=3000) (hik:i < k) (hk:k<=n) (m b18 b7 b8 b10 b13:Nat) (h18:w.cell? ⟨b18,0,none⟩=some (.map (some m))) (h7:w.cell? ⟨b7,0,none⟩=some (.slice sa sn sc)) (h8:w.cell? ⟨b8,0,none⟩=some (.int .i64 a)) (h10:w.cell? ⟨b10,0,none⟩=some (.int .i64 unit)) (h13:w.cell? ⟨b13,0,none⟩=some (.int .i64 depth))
  (l18:b18 < w.heap.size) (l7:b7 < w.heap.size) (l8:b8 < w.heap.size) (l10:b10 < w.heap.size) (l13:b13 < w.heap.size) (hM:MI m (costI l a unit depth) w):
  Calls Tryz.prog 76 #[.int .i64 i,.int .i64 k,.pointer (some ⟨b18,0,none⟩),.pointer (some ⟨b7,0,none⟩),.pointer (some ⟨b8,0,none⟩),.pointer (some ⟨b10,0,none⟩),.pointer (some ⟨b13,0,none⟩)] w (RetC m (costI l a unit depth) (costI l a unit depth i k) w):=by
 have e1:=atC_le (a:=a) hu (Nat.zero_le i);have e2:=atC_lt (a:=a) hu hik;have e3:=atC_le (a:=a) hu hk;rw [atC_zero]at e1;have AG:Strt l (atC a unit i) (atC a unit k):=⟨hT.ok,Int.le_trans hT.lo e1,e2,Int.le_trans e3 hT.hi⟩
 have g1:=hT.in100;have g2:=AG.in100;have w1:IntKind.i64.wrap ((i:Int)*unit)=(i:Int)*unit:=IntWalk.i64_in _ (by have:atC a unit i=a+(i:Int)*unit:=rfl;omega);have w2:IntKind.i64.wrap (a+(i:Int)*unit)=atC a unit i:=IntWalk.i64_in _ (by have:atC a unit i=a+(i:Int)*unit:=rfl;omega);have w3:IntKind.i64.wrap ((k:Int)*unit)=(k:Int)*unit:=IntWalk.i64_in _ (by have:atC a unit k=a+(k:Int)*unit:=rfl;omega);have w4:IntKind.i64.wrap (a+(k:Int)*unit)=atC a unit k:=IntWalk.i64_in _ (by have:atC a unit k=a+(k:Int)*unit:=rfl;omega);have hz:=foot_inZ AG hd.1 hd.2;have AJ:=ζ (show costI l a unit depth i k=above l (atC a unit i) (atC a unit k) (footI l (atC a unit i) (atC a unit k) depth)from rfl);have HF:=ζ (fun W (hW:Below w.heap.size w W)=>foot_any W sa sn sc l (atC a unit i) (atC a unit k) depth AG (by omega) (hs.below hW));have HA:=ζ (fun W (hW:Below w.heap.size w W)=>above_any W sa sn sc l (atC a unit i) (atC a unit k) (footI l (atC a unit i) (atC a unit k) depth) AG (by unfold InZ;omega) (hs.below hW));have C18:=ζ (fun W (h:Below w.heap.size w W)=>(h.cell (p:=⟨b18,0,none⟩) l18).trans h18);have C7:=ζ (fun W (h:Below w.heap.size w W)=>(h.cell (p:=⟨b7,0,none⟩) l7).trans h7);have C8:=ζ (fun W (h:Below w.heap.size w W)=>(h.cell (p:=⟨b8,0,none⟩) l8).trans h8);have C10:=ζ (fun W (h:Below w.heap.size w W)=>(h.cell (p:=⟨b10,0,none⟩) l10).trans h10);have C13:=ζ (fun W (h:Below w.heap.size w W)=>(h.cell (p:=⟨b13,0,none⟩) l13).trans h13);have AL:=ζ hM.isMap;have hi60:i<=60:=by omega
 have hk60:k<=60:=by omega
 obtain ⟨cost,hco⟩:∃f,costI l a unit depth=f:=⟨_,rfl⟩
 rw [hco]at hM AJ⊢;generalize atC a unit i=A at*;generalize atC a unit k=B at*;generalize footI l A B depth=z at*;generalize above l A B z=q at*;have hC:=ζ ((Sy.enter w).pM rfl rfl hM);clear hs hT AG hd hik hk h18 h7 h8 h10 h13 l18 l7 l8 l10 l13 hM e1 e2 e3 g1 g2 hz hco hn hu;go_enter Tryz.func76,Tryz.ntmps76;go_upto_region 1 with (first | (refine wpList_al (o:=⟨some 9,_,_,_,_,_⟩) rfl hC.out _ rfl _ zero_hR ?_;intro b9 V1 h1;have hD:=ζ h1;clear h1 hC) | fail)
 have AK:=C18.out _ hD.out.be;have hML:MI m cost V1:=hD.out.r 0 rfl;rcases hML.look hi60 hk60 with hlk | ⟨a1,n1,c1,m1,d1,e1,f1,hlk,hR⟩
 ·clear hML;go_upto_region 2 with (first | (refine wpList_lookEq (o:=⟨some 18,_,_,_,_,_⟩) rfl _ _ _ rfl rfl rfl hlk ?_) | fail)
  have hE:=ζ (show Sy w _ [(b9,zR,42),(V1.heap.size,zR,42)] [] [MI m cost]from hD.out.al V1.heap.size zR 42 rfl);obtain ⟨c10,hc10⟩:∃b,V1.heap.size=b:=⟨_,rfl⟩
  rw [hc10]at hE⊢;refine wp_geny hE.out ?_;intro V3 hc;have hG:=ζ hc;clear hc hE hc10 hD hlk AK;have x7:=C7.out _ hG.out.be;have x8:=C8.out _ hG.out.be;have AN:=C10.out _ hG.out.be;go_upto_region 4 with fail
  have hH:=ζ (show Sy w _ [(b9,zR,42),(c10,zR,42),(V3.heap.size,#[.slice sa sn sc,.int .i64 A,.int .i64 B],120)] [] [MI m cost]from hG.out.al V3.heap.size #[.slice sa sn sc,.int .i64 A,.int .i64 B] 120 rfl);obtain ⟨c12,hc12⟩:∃b,V3.heap.size=b:=⟨_,rfl⟩
  rw [hc12]at hH⊢;refine wp_geny hH.out ?_;intro V5 hc;have hI:=ζ hc;clear hc hH hG hc12 x7 x8 AN;refine wp_region_held_drew (S:=(fun w'=>w'.cell? ⟨c12,0,none⟩=some (.slice sa sn sc)/\w'.cell? ⟨c12,1,none⟩=some (.int .i64 A)/\w'.cell? ⟨c12,2,none⟩=some (.int .i64 B)/\w'.cell? ⟨b13,0,none⟩=some (.int .i64 depth)/\True)) (by kernel_rfl) ⟨hI.out.drew.c 2 0,hI.out.drew.c 2 1,hI.out.drew.c 2 2,(C13.out _ hI.out.drew.be),trivial⟩ (fun hH=>?_);refine wpAnyH_geny (show Sy w _ [(b9,zR,42),(c10,zR,42),(c12,#[.slice sa sn sc,.int .i64 A,.int .i64 B],120)] [] [(MI m cost)]from hI.out.drew) hH ?_;intro AO hc AC;have AD:=ζ hc;clear hc hH hI;refine tkA 0 rfl AC ?_;try simp only [zP]
  refine tkA 1 rfl AC ?_;try simp only [zP]
  refine tkA 2 rfl AC ?_;try simp only [zP]
  refine rdy1 3 rfl (fun Kq AF=>?_);go_simp;go_at_call 61;refine(HF.out _ AD.out.be).mono ?_;rintro e wT ⟨rfl,hb⟩;(try go_wp2_with fail);refine stepZ AF (show Sy w _ [(b9,zR,42),(c10,zR,42),(c12,#[.slice sa sn sc,.int .i64 A,.int .i64 B],120)] [] [(MI m cost)]from(AD.out.call hb)) (fun _ hX=>⟨hX.c 2 0,hX.c 2 1,hX.c 2 2,(C13.out _ hX.be),trivial⟩) ?_;intro AP AE AH;clear AF Kq AD hb AC;try simp only [zP]
  refine rdy1 4 rfl (fun Kq AF=>?_);go_simp;go_at_call 70;refine(HA.out _ AE.out.be).mono ?_;rintro e wT ⟨a5,n5,c5,m5,d5,e5,f5,rfl,hz,hb⟩;(try go_wp2_with fail);refine stepZ AF (show Sy w _ [(b9,zR,42),(c10,zR,42),(c12,#[.slice sa sn sc,.int .i64 A,.int .i64 B],120)] [] [(MI m cost),(fun V=>Rd V (.slice a5 n5 c5) m5 (.slice d5 e5 f5) (q))]from((AE.out.call hb).pR rfl rfl hz)) (fun _ hX=>⟨hX.c 2 0,hX.c 2 1,hX.c 2 2,(C13.out _ hX.be),trivial⟩) ?_;intro AQ AA AI;clear AF Kq AE hb hz AH;try simp only [zP]
  refine rdy1 5 rfl (fun Kq AF=>?_);have cQ0:=AA.out.c 1 0;have fQ0:=AA.out.f 1 0;have cQ1:=AA.out.c 1 1;have fQ1:=AA.out.f 1 1;have cQ2:=AA.out.c 1 2;have fQ2:=AA.out.f 1 2;go_simp;refine stepZ AF (show Sy w _ [(b9,zR,42),(c10,#[.slice a5 n5 c5,.bool m5,.slice d5 e5 f5],42),(c12,#[.slice sa sn sc,.int .i64 A,.int .i64 B],120)] [] [(MI m cost),(fun V=>Rd V (.slice a5 n5 c5) m5 (.slice d5 e5 f5) (q))]from(AA.out|>.set (j:=0) (v:= .slice a5 n5 c5) 1 rfl|>.set (j:=1) (v:= .bool m5) 1 rfl|>.set (j:=2) (v:= .slice d5 e5 f5) 1 rfl)) (fun _ hX=>⟨hX.c 2 0,hX.c 2 1,hX.c 2 2,(C13.out _ hX.be),trivial⟩) ?_;intro AR AB AM;clear AF Kq AA cQ0 fQ0 cQ1 fQ1 cQ2 fQ2 AI;try simp only [Act.put]
  refine wpAnyH_done (by kernel_rfl) ?_ _;have AK:=C18.out _ AB.out.be;have hML:MI m cost _:=AB.out.r 0 rfl;obtain ⟨V9,hrun,hMC,hMI⟩:=hML.store (i:=i) (k:=k) hi60 hk60 (by rw [AJ.out];exact AB.out.r 1 rfl);obtain ⟨w',hw1,hw2⟩:=AB.out.turn AL.out hMC (by intro r hr;rcases List.mem_singleton.1 hr with rfl;exact mst_R) (fun V hV=>MI.turned AB.out rfl rfl hMC hMI hV);have g0:=AB.out.c 1 0;have g1:=AB.out.c 1 1;have g2:=AB.out.c 1 2;have hw3:=ζ hw2;have k0:=hw2.c 1 0;have k1:=hw2.c 1 1;have k2:=hw2.c 1 2;have j0:=hw2.c 0 0;have j1:=hw2.c 0 1;have j2:=hw2.c 0 2;have f0:=hw2.f 0 0;have f1:=hw2.f 0 1;have f2:=hw2.f 0 2;clear hw2 hMC hMI hML;go_wp2_with (first | (refine wpList_updEq (o:=⟨none,_,_,_,_,_⟩) rfl _ _ _ _ rfl rfl rfl rfl hrun ?_) | fail)
  have hG:=ζ (hw3.out|>.set (j:=0) (v:= .slice a5 n5 c5) 0 rfl|>.set (j:=1) (v:= .bool m5) 0 rfl|>.set (j:=2) (v:= .slice d5 e5 f5) 0 rfl);refine ret_sy hG.out (v:= .agg #[.slice a5 n5 c5,.bool m5,.slice d5 e5 f5]) (fun hF=>?_) rfl (fun hF=>⟨_,_,_,_,_,_,_,rfl,by rw [AJ.out];exact hF.r 1 rfl,hF.r 0 rfl,hw1 _ hF.be⟩);have y0:=hF.c 0 0;have y1:=hF.c 0 1;have y2:=hF.c 0 2;simp [results,Tryz.results76,go_sem,y0,y1,y2]
 ·clear hML;have hDR:=ζ (hD.out.pR rfl rfl hR);clear hD hR;go_upto_region 2 with (first | (refine wpList_lookEq (o:=⟨some 18,_,_,_,_,_⟩) rfl _ _ _ rfl rfl rfl hlk ?_) | fail)
  have hE:=ζ (show Sy w _ [(b9,zR,42),(V1.heap.size,#[.slice a1 n1 c1,.bool m1,.slice d1 e1 f1],42)] [] [MI m cost,(fun V=>Rd V (.slice a1 n1 c1) m1 (.slice d1 e1 f1) (cost i k))]from hDR.out.al V1.heap.size #[.slice a1 n1 c1,.bool m1,.slice d1 e1 f1] 42 rfl);obtain ⟨c10,hc10⟩:∃b,V1.heap.size=b:=⟨_,rfl⟩
  rw [hc10]at hE⊢;refine wp_geny hE.out ?_;intro V3 hc;have hG:=ζ hc;clear hc hE hc10 hDR hlk AK;have g0:=hG.out.c 1 0;have g1:=hG.out.c 1 1;have g2:=hG.out.c 1 2;have j0:=hG.out.c 0 0;have j1:=hG.out.c 0 1;have j2:=hG.out.c 0 2;have f0:=hG.out.f 0 0;have f1':=hG.out.f 0 1;have f2:=hG.out.f 0 2;go_wp2;have hJ:=ζ (hG.out|>.set (j:=0) (v:= .slice a1 n1 c1) 0 rfl|>.set (j:=1) (v:= .bool m1) 0 rfl|>.set (j:=2) (v:= .slice d1 e1 f1) 0 rfl);refine ret_sy hJ.out (v:= .agg #[.slice a1 n1 c1,.bool m1,.slice d1 e1 f1]) (fun hF=>?_) rfl (fun hF=>⟨_,_,_,_,_,_,_,rfl,hF.r 1 rfl,hF.r 0 rfl,MCall.of_below hF.be AL.out⟩);have y0:=hF.c 0 0;have y1:=hF.c 0 1;have y2:=hF.c 0 2;simp [results,Tryz.results76,go_sem,y0,y1,y2]
end
section
open Go.RowKit Go.Shelf Dig
open Go.Maps (Keyed)
open Go.WideElems (Fit rd)
theorem LC_len (T:List Cut):(LC T).length=T.length*4:=flat_len (k:=4) (fun _=>rfl) T
theorem LC_get {T:List Cut} {k:Nat} (hk:k < T.length) {j:Nat} (hj:j < 4):(LC T)[k*4+j]? =(cC T[k])[j]? :=flat_get (k:=4) (fun _=>rfl) T k j hk hj
theorem LC_set:∀ (T:List Cut) (k:Nat) (x:Cut),k < T.length->((((LC T).set (k*4) (.slice x.a x.n x.c)).set (k*4+1) (.bool x.m)).set (k*4+2) (.slice x.d x.e x.f)).set (k*4+3) (.slice x.ba x.bn x.bc)=LC (T.set k x)
 | y::T,0,x,_=>rfl
 | y::T,k+1,x,h=>by
   have:=LC_set T k x (by simpa using h);rw [show(k+1)*4=k*4+1+1+1+1 by omega];show Value.slice y.a y.n y.c::Value.bool y.m::Value.slice y.d y.e y.f::Value.slice y.ba y.bn y.bc::((((LC T).set (k*4) (.slice x.a x.n x.c)).set (k*4+1) (.bool x.m)).set (k*4+2) (.slice x.d x.e x.f)).set (k*4+3) (.slice x.ba x.bn x.bc)=_;rw [this];rfl
def zC:Cut:=⟨none,0,0,false,none,0,0,0,none,0,0,[]⟩
theorem zC_rd {B:Nat} {V:World} :CRd B zC V:=⟨Rd.nil,⟨rfl,.inl ⟨rfl,rfl⟩⟩⟩
section
variable {w W:World} {bs:List (Nat×Array Value×TypeId)} {os:List Rw} {rs:List (World->Prop)} {P:Program}
theorem Sy.rangeC (h:Sy w W bs os rs) (i:Nat) {b:Nat} {T:List Cut} {t:TypeId} (hx:bs[i]? =some (b,(LC T).toArray,t)) {k:Nat} (hk:k < T.length):W.rangeAt b (k*4) (cC T[k]):=fun j v hj=>by
 have hl:j < 4:=(List.getElem?_eq_some_iff.1 hj).1;exact h.cell i (k*4+j) hx (by rw [List.getElem?_toArray,LC_get hk hl,hj])
theorem Sy.setC (h:Sy w W bs os rs) (i:Nat) {b:Nat} {T:List Cut} {t:TypeId} (hx:bs[i]? =some (b,(LC T).toArray,t)) {k:Nat} (hk:k < T.length) (x:Cut):Sy w (W.setCells b (k*4) (cC x)) (bs.set i (b,(LC (T.set k x)).toArray,t)) os rs:=by
 have hi:=(List.getElem?_eq_some_iff.1 hx).1;have h1:=h.set i (j:=k*4) (v:= .slice x.a x.n x.c) hx;have h2:=h1.set i (j:=k*4+1) (v:= .bool x.m) (List.getElem?_set_self hi);have h3:=h2.set i (j:=k*4+2) (v:= .slice x.d x.e x.f) (List.getElem?_set_self (by simpa using hi));have h4:=h3.set i (j:=k*4+3) (v:= .slice x.ba x.bn x.bc) (List.getElem?_set_self (by simpa using hi));simp only [List.set_set,List.setIfInBounds_toArray]at h4;rw [LC_set T k x hk]at h4;exact h4
theorem Sy.thereC (h:Sy w W bs os rs) (i:Nat) {b:Nat} {T:List Cut} {t:TypeId} (hx:bs[i]? =some (b,(LC T).toArray,t)) {k:Nat} (hk:k < T.length):W.there b (k*4) 4:=fun j hj=>by
 refine⟨?_,h.free i (k*4+j) hx⟩;have e:(cC T[k])[j]? =some ((cC T[k])[j]'hj):=List.getElem?_eq_getElem _;rw [h.rangeC i hx hk j _ e];rfl
theorem wpList_stC {ops:Array Oper} {rest:List Oper} {o:Oper} {a:Act} {Q:Exit->Act->World->Prop} (hgd:o.guard=none) (h:Sy w W bs os rs) (i:Nat) {b:Nat} {T:List Cut} {t:TypeId} (hb:bs[i]? =some (b,(LC T).toArray,t)) (ty:TypeId) (x y:Operand) (ho:o.op= .store ty x y)
  {k:Nat} (hk:k < T.length) (hx:a.eval x= .pointer (some ⟨b,k*4,none⟩)) (c:Cut) (hy:a.eval y= .agg (cC c).toArray) (hi:(P.info? ty).map (·.size)=some 4)
  (hK:∀V,Sy w V (bs.set i (b,(LC (T.set k c)).toArray,t)) os rs->wpList P ops Q rest (a.put o.dst undef) V):wpList P ops Q (o::rest) a W:=
 wpList_store_mid hgd ty x y ho b (k*4) (cC c).toArray hx hy (by exact h.thereC i hb hk) hi (by simp [cC,Value.oneCell']) (hK _ (h.setC i hb hk c))
theorem wpList_mkMap {ops:Array Oper} {rest:List Oper} {o:Oper} {a:Act} {Q:Exit->Act->World->Prop} (hgd:o.guard=none) (h:Sy w W bs os rs) (hb:(bs.all fun x=> !row64 x.2.2)=true) (hos:(os.all fun o=> !row64 o.e)=true) (cost:Nat->Nat->Rat) (t:TypeId) (ho:o.op= .makeMap t none)
  (hK:∀m V,w.heap.size<=m->Sy w V bs os (rs++ [MI m cost])->wpList P ops Q rest (a.put o.dst (.map (some m))) V):wpList P ops Q (o::rest) a W:=by
 refine wpList_plain hgd fun K' hK'=>?_;unfold Oper.wp;simp [execOp,ho,run_makeMap,Result.andThen];refine hK' _ _ (hK W.heap.size _ h.be.size (Sy.pM (h.row (o:= .map #[] 0)) hb hos ⟨#[],0,?_,⟨by simp,⟨by simp,by simp,by simp⟩,by simp⟩,by simp⟩));show(W.heap.push _)[W.heap.size]? =_;rw [Array.getElem?_push,if_pos rfl]
end
end
section
open Go.RowKit Go.Shelf Dig
def bestB (unit least most depth:Int):Bool:=decide (1<=unit) && (inB depth 0 3000 && (inB most 1 60 && inB least 1 200000))
def bestErr (l:List Pt) (a b unit least most depth:Int):Int:=if strErr l a b=0 then(if bestB unit least most depth=true then(if (b - a) % unit=0/\(b - a) / unit<=60 then 0 else 2)else 3)else strErr l a b
section
variable (w:World)
theorem mW22_3 {P_:Prop} (h:P_:=by
 have g0:=hF.c 4 0;have g1:=hF.c 4 1;have g2:=hF.c 4 2;simp [results,Tryz.results32,go_sem,g0,g1,g2]):P_:=h
theorem mW22_2 {P_:Prop} (h:P_:=by
 have hZ:=ζ (hF.out|>.set (j:=0) (v:= .slice none 0 0) 4 rfl|>.set (j:=1) (v:= .bool false) 4 rfl|>.set (j:=2) (v:= .slice none 0 0) 4 rfl);refine ret_sy hZ.out (v:= .tuple #[.slice none 0 0,.agg #[.slice none 0 0,.bool false,.slice none 0 0],.int .i64 3]) (fun hF=>?_) rfl (fun hF=>⟨rfl,hF.be⟩);exact mW22_3):P_:=h
theorem mW22_0 {P_:Prop} (h:P_:=by
 have AD:=hF.out.c 4 0;have AA:=hF.out.f 4 0;have AE:=hF.out.c 4 1;have AB:=hF.out.f 4 1;have AF:=hF.out.c 4 2;have AC:=hF.out.f 4 2;go_wp2_with (first | ((with_reducible refine(HD.out _).mono ?_);rintro e w1 ⟨rfl,rfl⟩) | ((with_reducible refine(HM.out _).mono ?_);rintro e w1 ⟨rfl,rfl⟩) | ((with_reducible refine(HL.out _).mono ?_);rintro e w1 ⟨rfl,rfl⟩))
 exact mW22_2):P_:=h
theorem mW22_1 {P_:Prop} (h:P_:=by
 have AD:=hF.out.c 4 0;have AA:=hF.out.f 4 0;have AE:=hF.out.c 4 1;have AB:=hF.out.f 4 1;have AF:=hF.out.c 4 2;have AC:=hF.out.f 4 2;go_wp2_with (first | ((with_reducible refine(HD.out _).mono ?_);rintro e w1 ⟨rfl,rfl⟩) | ((with_reducible refine(HM.out _).mono ?_);rintro e w1 ⟨rfl,rfl⟩) | ((with_reducible refine(HL.out _).mono ?_);rintro e w1 ⟨rfl,rfl⟩))
 have hZ:=ζ (hF.out|>.set (j:=0) (v:= .slice none 0 0) 4 rfl|>.set (j:=1) (v:= .bool false) 4 rfl|>.set (j:=2) (v:= .slice none 0 0) 4 rfl);refine ret_sy hZ.out (v:= .tuple #[.slice none 0 0,.agg #[.slice none 0 0,.bool false,.slice none 0 0],.int .i64 2]) (fun hF=>?_) rfl (fun hF=>⟨rfl,hF.be⟩);exact mW22_3):P_:=h
theorem hBest_bad (sa:OA) (sn sc:Nat) (l:List Pt) (a b unit least most depth:Int) (hs:Sx 2 w sa sn sc (L2 l)) (er:Int) (he:bestErr l a b unit least most depth=er) (h0:er≠0):Calls Tryz.prog 32 #[.slice sa sn sc,.int .i64 a,.int .i64 b,.int .i64 unit,.int .i64 least,.int .i64 most,.int .i64 depth] w (fun e w'=>e= .returned (.tuple #[.slice none 0 0,.agg #[.slice none 0 0,.bool false,.slice none 0 0],.int .i64 er])/\Below w.heap.size w w'):=by
 have HK:=ζ (fun W (hW:Below w.heap.size w W)=>hstretched_any W sa sn sc l a b (hs.below hW));have HE:=ζ (show(if strErr l a b=0 then(if bestB unit least most depth=true then(if (b - a) % unit=0/\(b - a) / unit<=60 then 0 else 2)else 3)else strErr l a b)=er from he);have HT:=ζ (fun(h:strErr l a b=0)=>(strErr_zero h).in100);have HD:=ζ (fun W=>hwithin_any W depth 0 3000);have HM:=ζ (fun W=>hwithin_any W most 1 60);have HL:=ζ (fun W=>hwithin_any W least 1 200000);generalize strErr l a b=se at*;clear hs he;go_enter Tryz.func32,Tryz.ntmps32;go_upto_region 1 with (first | (refine wpList_bx (o:=⟨some 7,_,_,_,_,_⟩) rfl (Sy.enter w) _ _ rfl #[.slice sa sn sc] rfl ?_;intro b7 V1 h1;have hA:=ζ h1;clear h1) | (refine wpList_bx (o:=⟨some 8,_,_,_,_,_⟩) rfl hA.out _ _ rfl #[.int .i64 a] rfl ?_;intro b8 V2 h1;have hB:=ζ h1;clear h1 hA) | (refine wpList_bx (o:=⟨some 10,_,_,_,_,_⟩) rfl hB.out _ _ rfl #[.int .i64 unit] rfl ?_;intro b10 V3 h1;have hC:=ζ h1;clear h1 hB) | (refine wpList_bx (o:=⟨some 13,_,_,_,_,_⟩) rfl hC.out _ _ rfl #[.int .i64 depth] rfl ?_;intro b13 V4 h1;have hD:=ζ h1;clear h1 hC) | (refine wpList_al (o:=⟨some 15,_,_,_,_,_⟩) rfl hD.out _ rfl _ zero_hR ?_;intro b15 V5 h1;have hE:=ζ (show Sy w V5 [(b7,#[.slice sa sn sc],25),(b8,#[.int .i64 a],3),(b10,#[.int .i64 unit],3),(b13,#[.int .i64 depth],3),(b15,zR,42)] [] []from h1);clear h1 hD) | fail)
 have x0:V5.cell? ⟨b7,0,none⟩=some (.slice sa sn sc):=hE.out.c 0 0;have x1:V5.cell? ⟨b8,0,none⟩=some (.int .i64 a):=hE.out.c 1 0;go_wp2_with fail
 refine(HK.out _ hE.out.be).mono ?_;rintro e W6 ⟨rfl,hb⟩;have hF:=ζ (hE.out.call hb);clear hb hE HK x0 x1;have x1:W6.cell? ⟨b8,0,none⟩=some (.int .i64 a):=hF.out.c 1 0;have x2:W6.cell? ⟨b10,0,none⟩=some (.int .i64 unit):=hF.out.c 2 0;have x3:W6.cell? ⟨b13,0,none⟩=some (.int .i64 depth):=hF.out.c 3 0;by_cases hse:se=0;rotate_left
 ·have h1:(se !=0)=true:=bne_iff_ne.2 hse;have he:=HE.out;rw [if_neg hse]at he;subst he;clear HE HT HD HM HL x1 x2 x3;have AD:=hF.out.c 4 0;have AA:=hF.out.f 4 0;have AE:=hF.out.c 4 1;have AB:=hF.out.f 4 1;have AF:=hF.out.c 4 2;have AC:=hF.out.f 4 2;go_wp2;have hZ:=ζ (hF.out|>.set (j:=0) (v:= .slice none 0 0) 4 rfl|>.set (j:=1) (v:= .bool false) 4 rfl|>.set (j:=2) (v:= .slice none 0 0) 4 rfl);refine ret_sy hZ.out (v:= .tuple #[.slice none 0 0,.agg #[.slice none 0 0,.bool false,.slice none 0 0],.int .i64 se]) (fun hF=>?_) rfl (fun hF=>⟨rfl,hF.be⟩);exact mW22_3
 subst hse;have g3:=HT.out rfl;have he:=HE.out;rw [if_pos rfl]at he;clear HE HT;have HE:=ζ he;clear he;by_cases hu:unit < 1
 ·have he:=HE.out;rw [if_neg (by unfold bestB;rw [decide_eq_false (by omega)];simp)]at he;subst he;clear HE HD HM HL;have AD:=hF.out.c 4 0;have AA:=hF.out.f 4 0;have AE:=hF.out.c 4 1;have AB:=hF.out.f 4 1;have AF:=hF.out.c 4 2;have AC:=hF.out.f 4 2;go_wp2;exact mW22_2
 have hu2:¬ unit < 1:=hu;cases hd:inB depth 0 3000
 ·have he:=HE.out;rw [if_neg (by unfold bestB;rw [hd];simp)]at he;subst he;rw [hd]at HD;clear HE HM HL hd;exact mW22_0
 rw [hd]at HD;cases hm:inB most 1 60
 ·have he:=HE.out;rw [if_neg (by unfold bestB;rw [hm];simp)]at he;subst he;rw [hm]at HM;clear HE HL hd hm;exact mW22_0
 rw [hm]at HM;cases hl:inB least 1 200000
 ·have he:=HE.out;rw [if_neg (by unfold bestB;rw [hl];simp)]at he;subst he;rw [hl]at HL;clear HE hd hm hl;exact mW22_0
 rw [hl]at HL;have he:=HE.out;rw [if_pos (by unfold bestB;rw [hd,hm,hl,decide_eq_true (by omega)];rfl)]at he;clear HE hd hm hl;have w0:IntKind.i64.wrap (b - a)=b - a:=IntWalk.i64_in _ (by omega);have u0:unit≠0:=by omega
 by_cases ht:(b - a) % unit=0
 ·by_cases hq:(b - a) / unit<=60
  ·rw [if_pos ⟨ht,hq⟩]at he;exact absurd he.symm h0
  ·rw [if_neg (fun h=>hq h.2)]at he;subst he;have hq2:60 < (b - a) / unit:=(by omega);clear hq;exact mW22_1
 ·rw [if_neg (fun h=>ht h.1)]at he;subst he;exact mW22_1
end
end
end Go.Proofs.YthmdhlopeponcaaGreatDoor

/- a part of the proof -/
import Derived.Test.YthmdhlopeponcaaGreatDoorJ1
import Derived.Test.YthmdhlopeponcaaGreatDoorJ4
import Derived.Test.YthmdhlopeponcaaGreatDoorJ5
import Derived.Test.YthmdhlopeponcaaGreatDoorJ17
import Derived.Test.YthmdhlopeponcaaGreatDoorJ16
set_option maxRecDepth 100000
set_option maxHeartbeats 8000000
namespace Go.Proofs.YthmdhlopeponcaaGreatDoor
open Go.RowKit Go.Shelf Dig
def row64 (t:TypeId):Bool:=t==2
def row64O:Obj->Bool
 | .cells _ e _=>row64 e
 | _=>false
structure Keeps64 (W W':World):Prop where
 size:W.heap.size<=W'.heap.size
 row:∀ (k:Nat) (o:Obj),W.heap[k]? =some o->row64O o=true->W'.heap[k]? =some o
theorem Dg.keep64 {w w':World} {v:Value} {N:Nat} (h:Dg w v N) (hk:Keeps64 w w'):Dg w' v N:=by
 refine⟨h.1,h.2.imp id ?_⟩
 rintro ⟨g,cap,cur,rfl,h0,hg,rest⟩
 exact⟨g,cap,cur,rfl,h0,hk.row g _ hg rfl,rest⟩
theorem Rd.keep64 {w w':World} {s s':Value} {m:Bool} {q:Rat} (h:Rd w s m s' q) (hk:Keeps64 w w'):Rd w' s m s' q:=⟨⟨h.z.d.keep64 hk,h.z.m⟩,h.d.keep64 hk⟩
theorem Zd.keep64 {w w':World} {s:Value} {m:Bool} {z:Int} (h:Zd w s m z) (hk:Keeps64 w w'):Zd w' s m z:=⟨h.d.keep64 hk,h.m⟩
section
variable {w W:World} {bs:List (Nat×Array Value×TypeId)} {os:List Rw} {rs:List (World->Prop)}
theorem Sy.away_keeps64 (h:Sy w W bs os rs) (hb:(bs.all fun x=> !row64 x.2.2)=true) (ho:(os.all fun o=> !row64 o.e)=true) {V:World} (hV:Away (ownOf bs os) W V):Keeps64 W V:=
 ⟨hV.1,fun k o hk hr=>(hV.2 k (Array.getElem?_eq_some_iff.1 hk).1 (fun hm=>by
  rcases mem_own.1 hm with ⟨x,hx,rfl⟩ | ⟨q,hq,he⟩
  ·rw [(h.bx x hx).2]at hk
   simp only [Option.some.injEq]at hk
   subst hk
   have:=List.all_eq_true.1 hb x hx
   simp only [row64O]at hr
   rw [hr]at this
   exact Bool.noConfusion this
  ·rcases(h.ow q hq).2 with ⟨h1,_⟩ | ⟨g,cap,cur,h1,_,hg,_⟩
   ·rw [h1]at he;simp [Value.ownBlock]at he
   ·rw [h1]at he
    simp only [Value.ownBlock,Option.some.injEq]at he
    subst he
    rw [hg]at hk
    simp only [Option.some.injEq]at hk
    subst hk
    have:=List.all_eq_true.1 ho q hq
    simp only [row64O]at hr
    rw [hr]at this
    exact Bool.noConfusion this)).trans hk⟩
theorem Sy.pR (h:Sy w W bs os rs) (hb:(bs.all fun x=> !row64 x.2.2)=true) (ho:(os.all fun o=> !row64 o.e)=true) {s s':Value} {m:Bool} {q:Rat} (hz:Rd W s m s' q):Sy w W bs os (rs++ [fun V=>Rd V s m s' q]):=h.push (fun _ hV=>hz.keep64 (h.away_keeps64 hb ho hV))
theorem Sy.pZ (h:Sy w W bs os rs) (hb:(bs.all fun x=> !row64 x.2.2)=true) (ho:(os.all fun o=> !row64 o.e)=true) {s:Value} {m:Bool} {z:Int} (hz:Zd W s m z):Sy w W bs os (rs++ [fun V=>Zd V s m z]):=h.push (fun _ hV=>hz.keep64 (h.away_keeps64 hb ho hV))
end
section
variable {w:World} {a1:OA} {n1 c1:Nat} {m1:Bool} {d1:OA} {e1 f1:Nat} {q1:Rat} {a2:OA} {n2 c2:Nat} {m2:Bool} {d2:OA} {e2 f2:Nat} {q2:Rat} {k1 k2:Nat}
theorem hcmp_is {v:Int} (h1:Rd w (.slice a1 n1 c1) m1 (.slice d1 e1 f1) q1) (h2:Rd w (.slice a2 n2 c2) m2 (.slice d2 e2 f2) q2) (b1:Bq k1 q1) (b2:Bq k2 q2) (hk1:k1<=40000) (hk2:k2<=40000) (hv:cmpQ q1 q2=v):
  Calls Tryz.prog 41 #[.agg #[.slice a1 n1 c1,.bool m1,.slice d1 e1 f1],.agg #[.slice a2 n2 c2,.bool m2,.slice d2 e2 f2]] w (Gives (.int .i64 v) w):=by
 subst hv;exact rcmp_b h1 h2 b1 b2 hk1 hk2
theorem hsign_is {v:Int} (h1:Rd w (.slice a1 n1 c1) m1 (.slice d1 e1 f1) q1) (hv:sgnQ q1=v):Calls Tryz.prog 47 #[.agg #[.slice a1 n1 c1,.bool m1,.slice d1 e1 f1]] w (Gives (.int .i64 v) w):=by
 subst hv;exact rsign_any _ _ _ _ _ _ _ _ _ h1
theorem hdiv_b (h1:Rd w (.slice a1 n1 c1) m1 (.slice d1 e1 f1) q1) (h2:Rd w (.slice a2 n2 c2) m2 (.slice d2 e2 f2) q2) (b1:Bq k1 q1) (b2:Bq k2 q2) (hk1:k1<=40000) (hk2:k2<=40000) (hq:q2≠0):
  Calls Tryz.prog 176 #[.agg #[.slice a1 n1 c1,.bool m1,.slice d1 e1 f1],.agg #[.slice a2 n2 c2,.bool m2,.slice d2 e2 f2]] w (RetRE w (q1 / q2) 0):=by
 have:=rdiv_any _ _ _ _ _ _ _ _ _ _ _ _ _ _ _ _ _ h1 h2 k1 k2 b1 b2 hk1 hk2
 rw [<-div_eq]at this
 have e:ofzE ((q1.den:Int)*q2.num)=0:=by
  unfold ofzE
  rw [if_neg (Int.mul_ne_zero (den_ne q1) (fun e=>hq (Rat.num_eq_zero.1 e)))]
 rw [e]at this
 exact this
end
theorem int_bq {k:Int} (h: -400000<=k/\k<=400000):Bq 20 (k:Rat):=Bq.int (n:=19) (by unfold Bd;omega)
def InI (k:Int):Prop:= -400000<=k/\k<=400000
theorem InI.i64 {k:Int} (h:InI k): -9223372036854775808<=k/\k < 9223372036854775808:=by unfold InI at h;omega
section
variable (w:World)
theorem hof_any (k:Int) (hk: -9223372036854775808<=k/\k < 9223372036854775808):Calls Tryz.prog 134 #[.int .i64 k] w (RetR w (k:Rat)):=by
 have hC:=ζ ((Sy.enter w).al w.heap.size #[.slice none 0 0,.bool false,.slice none 0 0] 42 rfl)
 have HK:=ζ (fun W=>of_any k hk W)
 clear hk
 go_enter Tryz.func134,Tryz.ntmps134
 go_wp2_with fail
 refine(HK.out _).mono ?_
 rintro e w3 ⟨a3,n3,c3,m3,d3,e3,f3,rfl,hz,hb⟩
 have hD:=ζ ((hC.out.call hb).pR rfl rfl hz)
 clear hb hz hC
 have A3:=hD.out.c 0 0
 have Am:=hD.out.f 0 0
 have Av:=hD.out.c 0 1
 have An:=hD.out.f 0 1
 have Ax:=hD.out.c 0 2
 have Ap:=hD.out.f 0 2
 go_wp2
 have hE:=ζ (hD.out|>.set (j:=0) (v:= .slice a3 n3 c3) 0 rfl|>.set (j:=1) (v:= .bool m3) 0 rfl|>.set (j:=2) (v:= .slice d3 e3 f3) 0 rfl)
 clear hD
 refine ret_sy hE.out (v:= .agg #[.slice a3 n3 c3,.bool m3,.slice d3 e3 f3]) (fun hF=>?_) rfl (fun hF=>⟨_,_,_,_,_,_,_,rfl,hF.r 0 rfl,hF.be⟩)
 have g0:=hF.c 0 0
 have g1:=hF.c 0 1
 have g2:=hF.c 0 2
 simp [results,Tryz.results134,go_sem,g0,g1,g2]
theorem hover_any (a1:OA) (n1 c1:Nat) (m1:Bool) (d1:OA) (e1 f1:Nat) (q1:Rat) (a2:OA) (n2 c2:Nat) (m2:Bool) (d2:OA) (e2 f2:Nat) (q2:Rat) (h1:Rd w (.slice a1 n1 c1) m1 (.slice d1 e1 f1) q1) (h2:Rd w (.slice a2 n2 c2) m2 (.slice d2 e2 f2) q2) (k1 k2:Nat) (b1:Bq k1 q1) (b2:Bq k2 q2) (hk1:k1<=40000) (hk2:k2<=40000) (hq:q2≠0):
  Calls Tryz.prog 154 #[.agg #[.slice a1 n1 c1,.bool m1,.slice d1 e1 f1],.agg #[.slice a2 n2 c2,.bool m2,.slice d2 e2 f2]] w (RetR w (q1 / q2)):=by
 have H:=ζ (fun W (hW:Below w.heap.size w W)=>hdiv_b (h1.keep (Below.keeps hW)) (h2.keep (Below.keeps hW)) b1 b2 hk1 hk2 hq)
 have hC:=ζ ((((Sy.enter w).al w.heap.size #[.slice a1 n1 c1,.bool m1,.slice d1 e1 f1] 42 rfl).al (w.heap.size+1) #[.slice a2 n2 c2,.bool m2,.slice d2 e2 f2] 42 (by simp)).al (w.heap.size+1+1) #[.slice none 0 0,.bool false,.slice none 0 0] 42 (by simp))
 clear h1 h2 b1 b2 hk1 hk2 hq
 go_enter Tryz.func154,Tryz.ntmps154
 go_wp2_with fail
 refine(H.out _ hC.out.be).mono ?_
 rintro e w3 ⟨a3,n3,c3,m3,d3,e3,f3,rfl,hz,hb⟩
 have hD:=ζ ((hC.out.call hb).pR rfl rfl hz)
 clear hb hz hC H
 have Az:=hD.out.c 2 0
 have Aq:=hD.out.f 2 0
 have BA:=hD.out.c 2 1
 have Ar:=hD.out.f 2 1
 have BB:=hD.out.c 2 2
 have As:=hD.out.f 2 2
 have l2:=hD.out.lt 2 rfl
 go_wp2
 have hE:=ζ ((hD.out|>.set (j:=0) (v:= .slice a3 n3 c3) 2 rfl|>.set (j:=1) (v:= .bool m3) 2 rfl|>.set (j:=2) (v:= .slice d3 e3 f3) 2 rfl).row (o:= .cells #[.slice a3 n3 c3,.bool m3,.slice d3 e3 f3] 42))
 clear hD
 refine ret_sy hE.out (v:= .agg #[.slice a3 n3 c3,.bool m3,.slice d3 e3 f3]) (fun hF=>?_) rfl (fun hF=>⟨_,_,_,_,_,_,_,rfl,hF.r 0 rfl,hF.be⟩)
 have g0:=hF.c 2 0
 have g1:=hF.c 2 1
 have g2:=hF.c 2 2
 simp [results,Tryz.results154,go_sem,g0,g1,g2]
theorem ground1_any (i:Nat) (bl bx:Nat) (a:OA) (n c:Nat) (l:List Pt) (x:Int) (hs:Sx 2 w a n c (L2 l)) (hl:w.cell? ⟨bl,0,none⟩=some (.slice a n c)) (hx:w.cell? ⟨bx,0,none⟩=some (.int .i64 x)) (hi:i+1 < l.length) (hm:n<=1000000):
  Calls Tryz.prog 153 #[.int .i64 i,.pointer (some ⟨bl,0,none⟩),.pointer (some ⟨bx,0,none⟩)] w (Gives (.bool (decide (x<=hX l (i+1)))) w):=by
 obtain rfl:=hs.n2
 obtain ⟨g0,o0,rfl⟩:=hs.addr (by omega)
 obtain ⟨x0,-⟩:=hs.at2 hi
 rw [hX_at hi]
 obtain ⟨j,hj⟩:∃j:Nat,j=i+1:=⟨_,rfl⟩
 have i0:IntKind.i64.wrap ((i:Int)+1)=(j:Int):=by rw [IntWalk.i64_in _ (by omega)];omega
 have i1:(0:Int)<=(j:Int):=by omega
 have i2:(j:Int) < (l.length:Int):=by omega
 generalize l[i+1]=p at*
 obtain ⟨p0,p1⟩:=p
 dsimp only at x0
 rw [<-hj]at x0
 show Calls _ _ _ _ (Gives (.bool (decide (x<=p0))) w)
 clear hj hs hi
 go_enter Tryz.func153,Tryz.ntmps153
 go_wp2
 go_quiet (fail)
 go_wp2
 go_ret
 exact⟨rfl,below_drewN (Below.refl _ _) _⟩
theorem eg_ground1:EG 153:=enters_of Tryz.func153 (by kernel_rfl) rfl
theorem mW2_0 {P_ : Prop} (h : P_ := by
 intro Al A2 A5
 clear AB Kq AE cQ0 fQ0 cQ1 fQ1 cQ2 fQ2 A1
 try simp only [Act.put]
 refine wpAnyH_done (by kernel_rfl) ?_ _
 go_wp2
 refine ret_sy A2.out (v:= .agg #[.slice a7 n7 c7,.bool m7,.slice d7 e7 f7]) (fun hF=>?_) rfl (fun hF=>⟨_,_,_,_,_,_,_,rfl,hF.r 6 rfl,hF.be⟩)
 have g0:=hF.c 2 0
 have g1:=hF.c 2 1
 have g2:=hF.c 2 2
 simp [results,Tryz.results97,go_sem,g0,g1,g2]) : P_ := h
theorem ground_any (a:OA) (n c:Nat) (l:List Pt) (x:Int) (hs:Sx 2 w a n c (L2 l)) (hP:Prof l) (h1:hX l 0<=x) (h2:x<=hX l (l.length - 1)):
  Calls Tryz.prog 97 #[.slice a n c,.int .i64 x] w (RetR w (grd l x)):=by
 obtain rfl:=hs.n2
 have htwo:=hP.two
 have hforty:=hP.forty
 obtain ⟨g0,o0,rfl⟩:=hs.addr (by omega)
 have HS:=ζ (fun W (hW:Below w.heap.size w W)=>hs.below hW)
 obtain ⟨hin1,hin2,hin3⟩:=hP.sg_in h1 h2
 have HM:=ζ (hP.mono x)
 have HSG:=ζ (show sg l x=(List.range (l.length - 2)).countP (fun i=> !decide (x<=hX l (i+1)))from rfl)
 have HG:=ζ (show grd l x=grdI l (sg l x) x from rfl)
 have hu:=hP.up _ hin1
 have q1:=hP.bx (i:=sg l x) (by omega)
 have q2:=hP.bx (i:=sg l x+1) hin1
 have q3:=hP.bz (i:=sg l x) (by omega)
 have q4:=hP.bz (i:=sg l x+1) hin1
 rw [HG.out]
 generalize sg l x=s at*
 unfold grdI
 have e1:=hX_at (l:=l) (i:=s) (by omega)
 have e2:=hX_at (l:=l) (i:=s+1) hin1
 have e3:=hZ_at (l:=l) (i:=s) (by omega)
 have e4:=hZ_at (l:=l) (i:=s+1) hin1
 have HA:=ζ (fun W (hW:Below w.heap.size w W)=>(HS.out W hW).at2 (show s < l.length by omega))
 have HB:=ζ (fun W (hW:Below w.heap.size w W)=>(HS.out W hW).at2 hin1)
 rw [e1]at q1 hin2 hu
 rw [e2]at q2 hin3 hu
 rw [e3]at q3
 rw [e4]at q4
 rw [e1,e2,e3,e4]
 generalize l[s]=p at*
 generalize l[s+1]=q at*
 obtain ⟨p0,p1⟩:=p
 obtain ⟨r0,r1⟩:=q
 dsimp only [Pt.x,Pt.z]at*
 obtain ⟨t,ht⟩:∃t:Nat,t=s+1:=⟨_,rfl⟩
 obtain ⟨m,hm⟩:∃m:Nat,m=l.length - 2:=⟨_,rfl⟩
 rw [<-hm]at HM HSG
 rw [<-ht]at HB
 have i0:IntKind.i64.wrap ((l.length:Int) - 2)=(m:Int):=by rw [IntWalk.i64_in _ (by omega)];omega
 have i1:IntKind.i64.wrap ((s:Int)+1)=(t:Int):=by rw [IntWalk.i64_in _ (by omega)];omega
 have j0:(0:Int)<=(s:Int):=by omega
 have j1:(s:Int) < (l.length:Int):=by omega
 have j2:(0:Int)<=(t:Int):=by omega
 have j3:(t:Int) < (l.length:Int):=by omega
 have v1:IntKind.i64.wrap (r1 - p1)=r1 - p1:=IntWalk.i64_in _ (by omega)
 have v2:IntKind.i64.wrap (x - p0)=x - p0:=IntWalk.i64_in _ (by omega)
 have v3:IntKind.i64.wrap (r0 - p0)=r0 - p0:=IntWalk.i64_in _ (by omega)
 have HML:=ζ (show ∀i,i < m->i+1 < l.length from fun i hi=>by omega)
 have B1:=ζ (show InI p1 by unfold InI;omega)
 have B2:=ζ (show InI (r1 - p1)by unfold InI;omega)
 have B3:=ζ (show InI (x - p0)by unfold InI;omega)
 have B4:=ζ (show InI (r0 - p0)by unfold InI;omega)
 have HNE:=ζ (show((r0 - p0:Int):Rat)≠0 from cast_ne (by omega))
 have HM1:=ζ (show m<=1000000000 by omega)
 have hC:=ζ ((((Sy.enter w).al w.heap.size #[.slice (some ⟨g0,o0,none⟩) l.length c] 118 rfl).al (w.heap.size+1) #[.int .i64 x] 3 (by simp)).al (w.heap.size+2) #[.slice none 0 0,.bool false,.slice none 0 0] 42 (by simp))
 clear hs hP h1 h2 hin1 hin2 hin3 hu q1 q2 q3 q4 e1 e2 e3 e4 ht hm htwo HG
 go_enter Tryz.func97,Tryz.ntmps97
 go_upto_region 1 with fail
 refine wp_geny hC.out ?_
 intro V1 hc
 obtain ⟨b0,hb0⟩:∃b0,w.heap.size=b0:=⟨_,rfl⟩
 obtain ⟨b1,hb1⟩:∃b1,w.heap.size+1=b1:=⟨_,rfl⟩
 obtain ⟨b2,hb2⟩:∃b2,w.heap.size+2=b2:=⟨_,rfl⟩
 have hC1:Hid (Sy w V1 [(b0,#[.slice (some ⟨g0,o0,none⟩) l.length c],118),(b1,#[.int .i64 x],3),(b2,#[.slice none 0 0,.bool false,.slice none 0 0],42)] [] []):=ζ (by rw [<-hb2,<-hb1,<-hb0];exact hc)
 rw [hb2,hb1,hb0]
 clear hc hC hb0 hb1 hb2
 have A3:V1.cell? ⟨b0,0,none⟩=some (.slice (some ⟨g0,o0,none⟩) l.length c):=hC1.out.c 0 0
 go_wp2_with fail
 refine(search_any _ 153 #[.pointer (some ⟨b0,0,none⟩),.pointer (some ⟨b1,0,none⟩)] m (fun i=>decide (x<=hX l (i+1))) eg_ground1 HM1.out (fun W hW i hi=>ground1_any W i b0 b1 _ _ _ l x (HS.out _ (hC1.out.be.trans (hW.mono hC1.out.be.size))) ((hW.cell (p:=⟨b0,0,none⟩) (hC1.out.lt 0 rfl)).trans (hC1.out.c 0 0)) ((hW.cell (p:=⟨b1,0,none⟩) (hC1.out.lt 1 rfl)).trans (hC1.out.c 1 0)) (HML.out i hi) (by omega)) HM.out).mono ?_
 rintro e V2 ⟨rfl,hb⟩
 rw [<-HSG.out]
 have hC:=ζ (hC1.out.call hb)
 clear hb hC1 A3 HSG HM HM1 HML
 go_upto_region 2 with fail
 refine wp_region_held_drew (S:=(fun w'=>w'.cell? ⟨b0,0,none⟩=some (.slice (some ⟨g0,o0,none⟩) l.length c)/\w'.cell? ⟨g0,o0+s*2,none⟩=some (.int .i64 p0)/\w'.cell? ⟨g0,o0+s*2+1,none⟩=some (.int .i64 p1)/\w'.cell? ⟨g0,o0+t*2,none⟩=some (.int .i64 r0)/\w'.cell? ⟨g0,o0+t*2+1,none⟩=some (.int .i64 r1)/\True)) (by kernel_rfl) ⟨hC.out.drew.c 0 0,(HA.out _ hC.out.drew.be).1,(HA.out _ hC.out.drew.be).2,(HB.out _ hC.out.drew.be).1,(HB.out _ hC.out.drew.be).2,trivial⟩ (fun hH=>?_)
 refine wpAnyH_geny (show Sy w _ [(b0,#[.slice (some ⟨g0,o0,none⟩) l.length c],118),(b1,#[.int .i64 x],3),(b2,#[.slice none 0 0,.bool false,.slice none 0 0],42)] [] []from hC.out.drew) hH ?_
 intro AC hc AI
 have AR:=ζ hc
 clear hc hH hC
 refine tkA 0 rfl AI ?_
 try simp only [zP]
 refine tkA 1 rfl AI ?_
 try simp only [zP]
 refine tkA 2 rfl AI ?_
 try simp only [zP]
 refine tkA 3 rfl AI ?_
 try simp only [zP]
 refine tkA 4 rfl AI ?_
 try simp only [zP]
 refine tkA 5 rfl AI ?_
 try simp only [zP]
 refine tkA 6 rfl AI ?_
 try simp only [zP]
 refine tkA 7 rfl AI ?_
 try simp only [zP]
 refine tkA 8 rfl AI ?_
 try simp only [zP]
 refine rdyL [9,10] ?_
 refine arc rfl (fun Kq AB=>?_) ?_
 ·go_simp
  refine stepZ AB (show Sy w _ [(b0,#[.slice (some ⟨g0,o0,none⟩) l.length c],118),(b1,#[.int .i64 x],3),(b2,#[.slice none 0 0,.bool false,.slice none 0 0],42),(AC.heap.size,#[.int .i64 0,.int .i64 0],83)] [] []from(AR.out.al AC.heap.size #[.int .i64 0,.int .i64 0] 83 rfl)) (fun _ hX=>⟨hX.c 0 0,(HA.out _ hX.be).1,(HA.out _ hX.be).2,(HB.out _ hX.be).1,(HB.out _ hX.be).2,trivial⟩) ?_
  intro AD AM AS
  clear AB Kq AR AI
  try simp only [zP]
  refine rdy1 10 rfl (fun Kq AB=>?_)
  go_simp
  refine stepZ AB (show Sy w _ [(b0,#[.slice (some ⟨g0,o0,none⟩) l.length c],118),(b1,#[.int .i64 x],3),(b2,#[.slice none 0 0,.bool false,.slice none 0 0],42),(AC.heap.size,#[.int .i64 0,.int .i64 0],83),(AD.heap.size,#[.int .i64 0,.int .i64 0],83)] [] []from(AM.out.al AD.heap.size #[.int .i64 0,.int .i64 0] 83 rfl)) (fun _ hX=>⟨hX.c 0 0,(HA.out _ hX.be).1,(HA.out _ hX.be).2,(HB.out _ hX.be).1,(HB.out _ hX.be).2,trivial⟩) ?_
  intro A6 AG AT
  clear AB Kq AM AS
  try simp only [zP]
  refine rdy1 11 rfl (fun Kq AB=>?_)
  have cQ0:=AG.out.c 3 0
  have fQ0:=AG.out.f 3 0
  have cQ1:=AG.out.c 3 1
  have fQ1:=AG.out.f 3 1
  go_simp
  refine stepZ AB (show Sy w _ [(b0,#[.slice (some ⟨g0,o0,none⟩) l.length c],118),(b1,#[.int .i64 x],3),(b2,#[.slice none 0 0,.bool false,.slice none 0 0],42),(AC.heap.size,#[.int .i64 p0,.int .i64 p1],83),(AD.heap.size,#[.int .i64 0,.int .i64 0],83)] [] []from(AG.out|>.set (j:=0) (v:= .int .i64 p0) 3 rfl|>.set (j:=1) (v:= .int .i64 p1) 3 rfl)) (fun _ hX=>⟨hX.c 0 0,(HA.out _ hX.be).1,(HA.out _ hX.be).2,(HB.out _ hX.be).1,(HB.out _ hX.be).2,trivial⟩) ?_
  intro A7 AH AU
  clear AB Kq AG cQ0 fQ0 cQ1 fQ1 AT
  try simp only [Act.put]
  refine rdy1 12 rfl (fun Kq AB=>?_)
  have cQ0:=AH.out.c 4 0
  have fQ0:=AH.out.f 4 0
  have cQ1:=AH.out.c 4 1
  have fQ1:=AH.out.f 4 1
  go_simp
  refine stepZ AB (show Sy w _ [(b0,#[.slice (some ⟨g0,o0,none⟩) l.length c],118),(b1,#[.int .i64 x],3),(b2,#[.slice none 0 0,.bool false,.slice none 0 0],42),(AC.heap.size,#[.int .i64 p0,.int .i64 p1],83),(AD.heap.size,#[.int .i64 r0,.int .i64 r1],83)] [] []from(AH.out|>.set (j:=0) (v:= .int .i64 r0) 4 rfl|>.set (j:=1) (v:= .int .i64 r1) 4 rfl)) (fun _ hX=>⟨hX.c 0 0,(HA.out _ hX.be).1,(HA.out _ hX.be).2,(HB.out _ hX.be).1,(HB.out _ hX.be).2,trivial⟩) ?_
  intro A8 AF A4
  clear AB Kq AH cQ0 fQ0 cQ1 fQ1 AU
  try simp only [Act.put]
  refine wpAnyH_done (by kernel_rfl) ?_ _
  go_upto_region 3 with fail
  refine wp_region_held_drew (S:=(fun w'=>w'.cell? ⟨b1,0,none⟩=some (.int .i64 x)/\w'.cell? ⟨AC.heap.size,0,none⟩=some (.int .i64 p0)/\w'.cell? ⟨AC.heap.size,1,none⟩=some (.int .i64 p1)/\w'.cell? ⟨AD.heap.size,0,none⟩=some (.int .i64 r0)/\w'.cell? ⟨AD.heap.size,1,none⟩=some (.int .i64 r1)/\True)) (by kernel_rfl) ⟨AF.out.drew.c 1 0,AF.out.drew.c 3 0,AF.out.drew.c 3 1,AF.out.drew.c 4 0,AF.out.drew.c 4 1,trivial⟩ (fun hH=>?_)
  refine wpAnyH_geny (show Sy w _ [(b0,#[.slice (some ⟨g0,o0,none⟩) l.length c],118),(b1,#[.int .i64 x],3),(b2,#[.slice none 0 0,.bool false,.slice none 0 0],42),(AC.heap.size,#[.int .i64 p0,.int .i64 p1],83),(AD.heap.size,#[.int .i64 r0,.int .i64 r1],83)] [] []from AF.out.drew) hH ?_
  intro A9 hc AA
  have AN:=ζ hc
  clear hc hH AF
  refine tkA 0 rfl AA ?_
  try simp only [zP]
  refine tkA 1 rfl AA ?_
  try simp only [zP]
  refine tkA 3 rfl AA ?_
  try simp only [zP]
  refine tkA 4 rfl AA ?_
  try simp only [zP]
  refine tkA 5 rfl AA ?_
  try simp only [zP]
  refine tkA 6 rfl AA ?_
  try simp only [zP]
  refine tkA 7 rfl AA ?_
  try simp only [zP]
  refine tkA 9 rfl AA ?_
  try simp only [zP]
  refine tkA 10 rfl AA ?_
  try simp only [zP]
  refine tkA 11 rfl AA ?_
  try simp only [zP]
  refine tkA 12 rfl AA ?_
  try simp only [zP]
  refine tkA 15 rfl AA ?_
  try simp only [zP]
  refine tkA 16 rfl AA ?_
  try simp only [zP]
  refine tkA 17 rfl AA ?_
  try simp only [zP]
  refine tkA 18 rfl AA ?_
  try simp only [zP]
  refine tkA 19 rfl AA ?_
  try simp only [zP]
  refine rdy1 2 rfl (fun Kq AB=>?_)
  go_simp
  go_at_call 134
  refine(hof_any _ _ B1.out.i64).mono ?_
  rintro e wT ⟨a1,n1,c1,m1,d1,e1,f1,rfl,hz,hb⟩
  (try go_wp2_with fail)
  refine stepZ AB (show Sy w _ [(b0,#[.slice (some ⟨g0,o0,none⟩) l.length c],118),(b1,#[.int .i64 x],3),(b2,#[.slice none 0 0,.bool false,.slice none 0 0],42),(AC.heap.size,#[.int .i64 p0,.int .i64 p1],83),(AD.heap.size,#[.int .i64 r0,.int .i64 r1],83)] [] [(fun V=>Rd V (.slice a1 n1 c1) m1 (.slice d1 e1 f1) ((p1:Rat)))]from((AN.out.call hb).pR rfl rfl hz)) (fun _ hX=>⟨hX.c 1 0,hX.c 3 0,hX.c 3 1,hX.c 4 0,hX.c 4 1,trivial⟩) ?_
  intro Ab AO AV
  clear AB Kq AN hb hz AA
  try simp only [zP]
  refine rdy1 8 rfl (fun Kq AB=>?_)
  go_simp
  go_at_call 134
  refine(hof_any _ _ B2.out.i64).mono ?_
  rintro e wT ⟨a2,n2,c2,m2,d2,e2,f2,rfl,hz,hb⟩
  (try go_wp2_with fail)
  refine stepZ AB (show Sy w _ [(b0,#[.slice (some ⟨g0,o0,none⟩) l.length c],118),(b1,#[.int .i64 x],3),(b2,#[.slice none 0 0,.bool false,.slice none 0 0],42),(AC.heap.size,#[.int .i64 p0,.int .i64 p1],83),(AD.heap.size,#[.int .i64 r0,.int .i64 r1],83)] [] [(fun V=>Rd V (.slice a1 n1 c1) m1 (.slice d1 e1 f1) ((p1:Rat))),(fun V=>Rd V (.slice a2 n2 c2) m2 (.slice d2 e2 f2) (((r1 - p1:Int):Rat)))]from((AO.out.call hb).pR rfl rfl hz)) (fun _ hX=>⟨hX.c 1 0,hX.c 3 0,hX.c 3 1,hX.c 4 0,hX.c 4 1,trivial⟩) ?_
  intro Ac AP AW
  clear AB Kq AO hb hz AV
  try simp only [zP]
  refine rdy1 13 rfl (fun Kq AB=>?_)
  go_simp
  go_at_call 134
  refine(hof_any _ _ B3.out.i64).mono ?_
  rintro e wT ⟨a3,n3,c3,m3,d3,e3,f3,rfl,hz,hb⟩
  (try go_wp2_with fail)
  refine stepZ AB (show Sy w _ [(b0,#[.slice (some ⟨g0,o0,none⟩) l.length c],118),(b1,#[.int .i64 x],3),(b2,#[.slice none 0 0,.bool false,.slice none 0 0],42),(AC.heap.size,#[.int .i64 p0,.int .i64 p1],83),(AD.heap.size,#[.int .i64 r0,.int .i64 r1],83)] [] [(fun V=>Rd V (.slice a1 n1 c1) m1 (.slice d1 e1 f1) ((p1:Rat))),(fun V=>Rd V (.slice a2 n2 c2) m2 (.slice d2 e2 f2) (((r1 - p1:Int):Rat))),(fun V=>Rd V (.slice a3 n3 c3) m3 (.slice d3 e3 f3) (((x - p0:Int):Rat)))]from((AP.out.call hb).pR rfl rfl hz)) (fun _ hX=>⟨hX.c 1 0,hX.c 3 0,hX.c 3 1,hX.c 4 0,hX.c 4 1,trivial⟩) ?_
  intro Ad AJ AX
  clear AB Kq AP hb hz AW
  try simp only [zP]
  refine rdy1 14 rfl (fun Kq AB=>?_)
  go_simp
  go_at_call 46
  refine(rmul_b (AJ.out.r 1 rfl) (AJ.out.r 2 rfl) (int_bq B2.out) (int_bq B3.out) (by omega) (by omega)).mono ?_
  rintro e wT ⟨a4,n4,c4,m4,d4,e4,f4,rfl,hz,hb⟩
  (try go_wp2_with fail)
  refine stepZ AB (show Sy w _ [(b0,#[.slice (some ⟨g0,o0,none⟩) l.length c],118),(b1,#[.int .i64 x],3),(b2,#[.slice none 0 0,.bool false,.slice none 0 0],42),(AC.heap.size,#[.int .i64 p0,.int .i64 p1],83),(AD.heap.size,#[.int .i64 r0,.int .i64 r1],83)] [] [(fun V=>Rd V (.slice a1 n1 c1) m1 (.slice d1 e1 f1) ((p1:Rat))),(fun V=>Rd V (.slice a2 n2 c2) m2 (.slice d2 e2 f2) (((r1 - p1:Int):Rat))),(fun V=>Rd V (.slice a3 n3 c3) m3 (.slice d3 e3 f3) (((x - p0:Int):Rat))),(fun V=>Rd V (.slice a4 n4 c4) m4 (.slice d4 e4 f4) (((r1 - p1:Int):Rat)*((x - p0:Int):Rat)))]from((AJ.out.call hb).pR rfl rfl hz)) (fun _ hX=>⟨hX.c 1 0,hX.c 3 0,hX.c 3 1,hX.c 4 0,hX.c 4 1,trivial⟩) ?_
  intro Af AQ AY
  clear AB Kq AJ hb hz AX
  try simp only [zP]
  refine rdy1 20 rfl (fun Kq AB=>?_)
  go_simp
  go_at_call 134
  refine(hof_any _ _ B4.out.i64).mono ?_
  rintro e wT ⟨a5,n5,c5,m5,d5,e5,f5,rfl,hz,hb⟩
  (try go_wp2_with fail)
  refine stepZ AB (show Sy w _ [(b0,#[.slice (some ⟨g0,o0,none⟩) l.length c],118),(b1,#[.int .i64 x],3),(b2,#[.slice none 0 0,.bool false,.slice none 0 0],42),(AC.heap.size,#[.int .i64 p0,.int .i64 p1],83),(AD.heap.size,#[.int .i64 r0,.int .i64 r1],83)] [] [(fun V=>Rd V (.slice a1 n1 c1) m1 (.slice d1 e1 f1) ((p1:Rat))),(fun V=>Rd V (.slice a2 n2 c2) m2 (.slice d2 e2 f2) (((r1 - p1:Int):Rat))),(fun V=>Rd V (.slice a3 n3 c3) m3 (.slice d3 e3 f3) (((x - p0:Int):Rat))),(fun V=>Rd V (.slice a4 n4 c4) m4 (.slice d4 e4 f4) (((r1 - p1:Int):Rat)*((x - p0:Int):Rat))),(fun V=>Rd V (.slice a5 n5 c5) m5 (.slice d5 e5 f5) (((r0 - p0:Int):Rat)))]from((AQ.out.call hb).pR rfl rfl hz)) (fun _ hX=>⟨hX.c 1 0,hX.c 3 0,hX.c 3 1,hX.c 4 0,hX.c 4 1,trivial⟩) ?_
  intro Ag AK AZ
  clear AB Kq AQ hb hz AY
  try simp only [zP]
  refine rdy1 21 rfl (fun Kq AB=>?_)
  go_simp
  go_at_call 154
  refine(hover_any _ _ _ _ _ _ _ _ _ _ _ _ _ _ _ _ _ (AK.out.r 3 rfl) (AK.out.r 4 rfl) 40 20 ((int_bq B2.out).mul (int_bq B3.out)) (int_bq B4.out) (by omega) (by omega) HNE.out).mono ?_
  rintro e wT ⟨a6,n6,c6,m6,d6,e6,f6,rfl,hz,hb⟩
  (try go_wp2_with fail)
  refine stepZ AB (show Sy w _ [(b0,#[.slice (some ⟨g0,o0,none⟩) l.length c],118),(b1,#[.int .i64 x],3),(b2,#[.slice none 0 0,.bool false,.slice none 0 0],42),(AC.heap.size,#[.int .i64 p0,.int .i64 p1],83),(AD.heap.size,#[.int .i64 r0,.int .i64 r1],83)] [] [(fun V=>Rd V (.slice a1 n1 c1) m1 (.slice d1 e1 f1) ((p1:Rat))),(fun V=>Rd V (.slice a2 n2 c2) m2 (.slice d2 e2 f2) (((r1 - p1:Int):Rat))),(fun V=>Rd V (.slice a3 n3 c3) m3 (.slice d3 e3 f3) (((x - p0:Int):Rat))),(fun V=>Rd V (.slice a4 n4 c4) m4 (.slice d4 e4 f4) (((r1 - p1:Int):Rat)*((x - p0:Int):Rat))),(fun V=>Rd V (.slice a5 n5 c5) m5 (.slice d5 e5 f5) (((r0 - p0:Int):Rat))),(fun V=>Rd V (.slice a6 n6 c6) m6 (.slice d6 e6 f6) (((r1 - p1:Int):Rat)*((x - p0:Int):Rat) / ((r0 - p0:Int):Rat)))]from((AK.out.call hb).pR rfl rfl hz)) (fun _ hX=>⟨hX.c 1 0,hX.c 3 0,hX.c 3 1,hX.c 4 0,hX.c 4 1,trivial⟩) ?_
  intro Aj AL A0
  clear AB Kq AK hb hz AZ
  try simp only [zP]
  refine rdy1 22 rfl (fun Kq AB=>?_)
  go_simp
  go_at_call 40
  refine(radd_b (AL.out.r 0 rfl) (AL.out.r 5 rfl) (int_bq B1.out) (((int_bq B2.out).mul (int_bq B3.out)).div (int_bq B4.out) HNE.out) (by omega) (by omega)).mono ?_
  rintro e wT ⟨a7,n7,c7,m7,d7,e7,f7,rfl,hz,hb⟩
  (try go_wp2_with fail)
  refine stepZ AB (show Sy w _ [(b0,#[.slice (some ⟨g0,o0,none⟩) l.length c],118),(b1,#[.int .i64 x],3),(b2,#[.slice none 0 0,.bool false,.slice none 0 0],42),(AC.heap.size,#[.int .i64 p0,.int .i64 p1],83),(AD.heap.size,#[.int .i64 r0,.int .i64 r1],83)] [] [(fun V=>Rd V (.slice a1 n1 c1) m1 (.slice d1 e1 f1) ((p1:Rat))),(fun V=>Rd V (.slice a2 n2 c2) m2 (.slice d2 e2 f2) (((r1 - p1:Int):Rat))),(fun V=>Rd V (.slice a3 n3 c3) m3 (.slice d3 e3 f3) (((x - p0:Int):Rat))),(fun V=>Rd V (.slice a4 n4 c4) m4 (.slice d4 e4 f4) (((r1 - p1:Int):Rat)*((x - p0:Int):Rat))),(fun V=>Rd V (.slice a5 n5 c5) m5 (.slice d5 e5 f5) (((r0 - p0:Int):Rat))),(fun V=>Rd V (.slice a6 n6 c6) m6 (.slice d6 e6 f6) (((r1 - p1:Int):Rat)*((x - p0:Int):Rat) / ((r0 - p0:Int):Rat))),(fun V=>Rd V (.slice a7 n7 c7) m7 (.slice d7 e7 f7) ((p1:Rat)+((r1 - p1:Int):Rat)*((x - p0:Int):Rat) / ((r0 - p0:Int):Rat)))]from((AL.out.call hb).pR rfl rfl hz)) (fun _ hX=>⟨hX.c 1 0,hX.c 3 0,hX.c 3 1,hX.c 4 0,hX.c 4 1,trivial⟩) ?_
  intro Ak AE A1
  clear AB Kq AL hb hz A0
  try simp only [zP]
  refine rdy1 23 rfl (fun Kq AB=>?_)
  have cQ0:=AE.out.c 2 0
  have fQ0:=AE.out.f 2 0
  have cQ1:=AE.out.c 2 1
  have fQ1:=AE.out.f 2 1
  have cQ2:=AE.out.c 2 2
  have fQ2:=AE.out.f 2 2
  go_simp
  refine stepZ AB (show Sy w _ [(b0,#[.slice (some ⟨g0,o0,none⟩) l.length c],118),(b1,#[.int .i64 x],3),(b2,#[.slice a7 n7 c7,.bool m7,.slice d7 e7 f7],42),(AC.heap.size,#[.int .i64 p0,.int .i64 p1],83),(AD.heap.size,#[.int .i64 r0,.int .i64 r1],83)] [] [(fun V=>Rd V (.slice a1 n1 c1) m1 (.slice d1 e1 f1) ((p1:Rat))),(fun V=>Rd V (.slice a2 n2 c2) m2 (.slice d2 e2 f2) (((r1 - p1:Int):Rat))),(fun V=>Rd V (.slice a3 n3 c3) m3 (.slice d3 e3 f3) (((x - p0:Int):Rat))),(fun V=>Rd V (.slice a4 n4 c4) m4 (.slice d4 e4 f4) (((r1 - p1:Int):Rat)*((x - p0:Int):Rat))),(fun V=>Rd V (.slice a5 n5 c5) m5 (.slice d5 e5 f5) (((r0 - p0:Int):Rat))),(fun V=>Rd V (.slice a6 n6 c6) m6 (.slice d6 e6 f6) (((r1 - p1:Int):Rat)*((x - p0:Int):Rat) / ((r0 - p0:Int):Rat))),(fun V=>Rd V (.slice a7 n7 c7) m7 (.slice d7 e7 f7) ((p1:Rat)+((r1 - p1:Int):Rat)*((x - p0:Int):Rat) / ((r0 - p0:Int):Rat)))]from(AE.out|>.set (j:=0) (v:= .slice a7 n7 c7) 2 rfl|>.set (j:=1) (v:= .bool m7) 2 rfl|>.set (j:=2) (v:= .slice d7 e7 f7) 2 rfl)) (fun _ hX=>⟨hX.c 1 0,hX.c 3 0,hX.c 3 1,hX.c 4 0,hX.c 4 1,trivial⟩) ?_
  exact mW2_0
 refine arc rfl (fun Kq AB=>?_) ?_
 ·go_simp
  refine stepZ AB (show Sy w _ [(b0,#[.slice (some ⟨g0,o0,none⟩) l.length c],118),(b1,#[.int .i64 x],3),(b2,#[.slice none 0 0,.bool false,.slice none 0 0],42),(AC.heap.size,#[.int .i64 0,.int .i64 0],83)] [] []from(AR.out.al AC.heap.size #[.int .i64 0,.int .i64 0] 83 rfl)) (fun _ hX=>⟨hX.c 0 0,(HA.out _ hX.be).1,(HA.out _ hX.be).2,(HB.out _ hX.be).1,(HB.out _ hX.be).2,trivial⟩) ?_
  intro AD AM AS
  clear AB Kq AR AI
  try simp only [zP]
  refine rdy1 9 rfl (fun Kq AB=>?_)
  go_simp
  refine stepZ AB (show Sy w _ [(b0,#[.slice (some ⟨g0,o0,none⟩) l.length c],118),(b1,#[.int .i64 x],3),(b2,#[.slice none 0 0,.bool false,.slice none 0 0],42),(AC.heap.size,#[.int .i64 0,.int .i64 0],83),(AD.heap.size,#[.int .i64 0,.int .i64 0],83)] [] []from(AM.out.al AD.heap.size #[.int .i64 0,.int .i64 0] 83 rfl)) (fun _ hX=>⟨hX.c 0 0,(HA.out _ hX.be).1,(HA.out _ hX.be).2,(HB.out _ hX.be).1,(HB.out _ hX.be).2,trivial⟩) ?_
  intro A6 AG AT
  clear AB Kq AM AS
  try simp only [zP]
  refine rdy1 11 rfl (fun Kq AB=>?_)
  have cQ0:=AG.out.c 4 0
  have fQ0:=AG.out.f 4 0
  have cQ1:=AG.out.c 4 1
  have fQ1:=AG.out.f 4 1
  go_simp
  refine stepZ AB (show Sy w _ [(b0,#[.slice (some ⟨g0,o0,none⟩) l.length c],118),(b1,#[.int .i64 x],3),(b2,#[.slice none 0 0,.bool false,.slice none 0 0],42),(AC.heap.size,#[.int .i64 0,.int .i64 0],83),(AD.heap.size,#[.int .i64 p0,.int .i64 p1],83)] [] []from(AG.out|>.set (j:=0) (v:= .int .i64 p0) 4 rfl|>.set (j:=1) (v:= .int .i64 p1) 4 rfl)) (fun _ hX=>⟨hX.c 0 0,(HA.out _ hX.be).1,(HA.out _ hX.be).2,(HB.out _ hX.be).1,(HB.out _ hX.be).2,trivial⟩) ?_
  intro A7 AH AU
  clear AB Kq AG cQ0 fQ0 cQ1 fQ1 AT
  try simp only [Act.put]
  refine rdy1 12 rfl (fun Kq AB=>?_)
  have cQ0:=AH.out.c 3 0
  have fQ0:=AH.out.f 3 0
  have cQ1:=AH.out.c 3 1
  have fQ1:=AH.out.f 3 1
  go_simp
  refine stepZ AB (show Sy w _ [(b0,#[.slice (some ⟨g0,o0,none⟩) l.length c],118),(b1,#[.int .i64 x],3),(b2,#[.slice none 0 0,.bool false,.slice none 0 0],42),(AC.heap.size,#[.int .i64 r0,.int .i64 r1],83),(AD.heap.size,#[.int .i64 p0,.int .i64 p1],83)] [] []from(AH.out|>.set (j:=0) (v:= .int .i64 r0) 3 rfl|>.set (j:=1) (v:= .int .i64 r1) 3 rfl)) (fun _ hX=>⟨hX.c 0 0,(HA.out _ hX.be).1,(HA.out _ hX.be).2,(HB.out _ hX.be).1,(HB.out _ hX.be).2,trivial⟩) ?_
  intro A8 AF A4
  clear AB Kq AH cQ0 fQ0 cQ1 fQ1 AU
  try simp only [Act.put]
  refine wpAnyH_done (by kernel_rfl) ?_ _
  go_upto_region 3 with fail
  refine wp_region_held_drew (S:=(fun w'=>w'.cell? ⟨b1,0,none⟩=some (.int .i64 x)/\w'.cell? ⟨AD.heap.size,0,none⟩=some (.int .i64 p0)/\w'.cell? ⟨AD.heap.size,1,none⟩=some (.int .i64 p1)/\w'.cell? ⟨AC.heap.size,0,none⟩=some (.int .i64 r0)/\w'.cell? ⟨AC.heap.size,1,none⟩=some (.int .i64 r1)/\True)) (by kernel_rfl) ⟨AF.out.drew.c 1 0,AF.out.drew.c 4 0,AF.out.drew.c 4 1,AF.out.drew.c 3 0,AF.out.drew.c 3 1,trivial⟩ (fun hH=>?_)
  refine wpAnyH_geny (show Sy w _ [(b0,#[.slice (some ⟨g0,o0,none⟩) l.length c],118),(b1,#[.int .i64 x],3),(b2,#[.slice none 0 0,.bool false,.slice none 0 0],42),(AC.heap.size,#[.int .i64 r0,.int .i64 r1],83),(AD.heap.size,#[.int .i64 p0,.int .i64 p1],83)] [] []from AF.out.drew) hH ?_
  intro A9 hc AA
  have AN:=ζ hc
  clear hc hH AF
  refine tkA 0 rfl AA ?_
  try simp only [zP]
  refine tkA 1 rfl AA ?_
  try simp only [zP]
  refine tkA 3 rfl AA ?_
  try simp only [zP]
  refine tkA 4 rfl AA ?_
  try simp only [zP]
  refine tkA 5 rfl AA ?_
  try simp only [zP]
  refine tkA 6 rfl AA ?_
  try simp only [zP]
  refine tkA 7 rfl AA ?_
  try simp only [zP]
  refine tkA 9 rfl AA ?_
  try simp only [zP]
  refine tkA 10 rfl AA ?_
  try simp only [zP]
  refine tkA 11 rfl AA ?_
  try simp only [zP]
  refine tkA 12 rfl AA ?_
  try simp only [zP]
  refine tkA 15 rfl AA ?_
  try simp only [zP]
  refine tkA 16 rfl AA ?_
  try simp only [zP]
  refine tkA 17 rfl AA ?_
  try simp only [zP]
  refine tkA 18 rfl AA ?_
  try simp only [zP]
  refine tkA 19 rfl AA ?_
  try simp only [zP]
  refine rdy1 2 rfl (fun Kq AB=>?_)
  go_simp
  go_at_call 134
  refine(hof_any _ _ B1.out.i64).mono ?_
  rintro e wT ⟨a1,n1,c1,m1,d1,e1,f1,rfl,hz,hb⟩
  (try go_wp2_with fail)
  refine stepZ AB (show Sy w _ [(b0,#[.slice (some ⟨g0,o0,none⟩) l.length c],118),(b1,#[.int .i64 x],3),(b2,#[.slice none 0 0,.bool false,.slice none 0 0],42),(AC.heap.size,#[.int .i64 r0,.int .i64 r1],83),(AD.heap.size,#[.int .i64 p0,.int .i64 p1],83)] [] [(fun V=>Rd V (.slice a1 n1 c1) m1 (.slice d1 e1 f1) ((p1:Rat)))]from((AN.out.call hb).pR rfl rfl hz)) (fun _ hX=>⟨hX.c 1 0,hX.c 4 0,hX.c 4 1,hX.c 3 0,hX.c 3 1,trivial⟩) ?_
  intro Ab AO AV
  clear AB Kq AN hb hz AA
  try simp only [zP]
  refine rdy1 8 rfl (fun Kq AB=>?_)
  go_simp
  go_at_call 134
  refine(hof_any _ _ B2.out.i64).mono ?_
  rintro e wT ⟨a2,n2,c2,m2,d2,e2,f2,rfl,hz,hb⟩
  (try go_wp2_with fail)
  refine stepZ AB (show Sy w _ [(b0,#[.slice (some ⟨g0,o0,none⟩) l.length c],118),(b1,#[.int .i64 x],3),(b2,#[.slice none 0 0,.bool false,.slice none 0 0],42),(AC.heap.size,#[.int .i64 r0,.int .i64 r1],83),(AD.heap.size,#[.int .i64 p0,.int .i64 p1],83)] [] [(fun V=>Rd V (.slice a1 n1 c1) m1 (.slice d1 e1 f1) ((p1:Rat))),(fun V=>Rd V (.slice a2 n2 c2) m2 (.slice d2 e2 f2) (((r1 - p1:Int):Rat)))]from((AO.out.call hb).pR rfl rfl hz)) (fun _ hX=>⟨hX.c 1 0,hX.c 4 0,hX.c 4 1,hX.c 3 0,hX.c 3 1,trivial⟩) ?_
  intro Ac AP AW
  clear AB Kq AO hb hz AV
  try simp only [zP]
  refine rdy1 13 rfl (fun Kq AB=>?_)
  go_simp
  go_at_call 134
  refine(hof_any _ _ B3.out.i64).mono ?_
  rintro e wT ⟨a3,n3,c3,m3,d3,e3,f3,rfl,hz,hb⟩
  (try go_wp2_with fail)
  refine stepZ AB (show Sy w _ [(b0,#[.slice (some ⟨g0,o0,none⟩) l.length c],118),(b1,#[.int .i64 x],3),(b2,#[.slice none 0 0,.bool false,.slice none 0 0],42),(AC.heap.size,#[.int .i64 r0,.int .i64 r1],83),(AD.heap.size,#[.int .i64 p0,.int .i64 p1],83)] [] [(fun V=>Rd V (.slice a1 n1 c1) m1 (.slice d1 e1 f1) ((p1:Rat))),(fun V=>Rd V (.slice a2 n2 c2) m2 (.slice d2 e2 f2) (((r1 - p1:Int):Rat))),(fun V=>Rd V (.slice a3 n3 c3) m3 (.slice d3 e3 f3) (((x - p0:Int):Rat)))]from((AP.out.call hb).pR rfl rfl hz)) (fun _ hX=>⟨hX.c 1 0,hX.c 4 0,hX.c 4 1,hX.c 3 0,hX.c 3 1,trivial⟩) ?_
  intro Ad AJ AX
  clear AB Kq AP hb hz AW
  try simp only [zP]
  refine rdy1 14 rfl (fun Kq AB=>?_)
  go_simp
  go_at_call 46
  refine(rmul_b (AJ.out.r 1 rfl) (AJ.out.r 2 rfl) (int_bq B2.out) (int_bq B3.out) (by omega) (by omega)).mono ?_
  rintro e wT ⟨a4,n4,c4,m4,d4,e4,f4,rfl,hz,hb⟩
  (try go_wp2_with fail)
  refine stepZ AB (show Sy w _ [(b0,#[.slice (some ⟨g0,o0,none⟩) l.length c],118),(b1,#[.int .i64 x],3),(b2,#[.slice none 0 0,.bool false,.slice none 0 0],42),(AC.heap.size,#[.int .i64 r0,.int .i64 r1],83),(AD.heap.size,#[.int .i64 p0,.int .i64 p1],83)] [] [(fun V=>Rd V (.slice a1 n1 c1) m1 (.slice d1 e1 f1) ((p1:Rat))),(fun V=>Rd V (.slice a2 n2 c2) m2 (.slice d2 e2 f2) (((r1 - p1:Int):Rat))),(fun V=>Rd V (.slice a3 n3 c3) m3 (.slice d3 e3 f3) (((x - p0:Int):Rat))),(fun V=>Rd V (.slice a4 n4 c4) m4 (.slice d4 e4 f4) (((r1 - p1:Int):Rat)*((x - p0:Int):Rat)))]from((AJ.out.call hb).pR rfl rfl hz)) (fun _ hX=>⟨hX.c 1 0,hX.c 4 0,hX.c 4 1,hX.c 3 0,hX.c 3 1,trivial⟩) ?_
  intro Af AQ AY
  clear AB Kq AJ hb hz AX
  try simp only [zP]
  refine rdy1 20 rfl (fun Kq AB=>?_)
  go_simp
  go_at_call 134
  refine(hof_any _ _ B4.out.i64).mono ?_
  rintro e wT ⟨a5,n5,c5,m5,d5,e5,f5,rfl,hz,hb⟩
  (try go_wp2_with fail)
  refine stepZ AB (show Sy w _ [(b0,#[.slice (some ⟨g0,o0,none⟩) l.length c],118),(b1,#[.int .i64 x],3),(b2,#[.slice none 0 0,.bool false,.slice none 0 0],42),(AC.heap.size,#[.int .i64 r0,.int .i64 r1],83),(AD.heap.size,#[.int .i64 p0,.int .i64 p1],83)] [] [(fun V=>Rd V (.slice a1 n1 c1) m1 (.slice d1 e1 f1) ((p1:Rat))),(fun V=>Rd V (.slice a2 n2 c2) m2 (.slice d2 e2 f2) (((r1 - p1:Int):Rat))),(fun V=>Rd V (.slice a3 n3 c3) m3 (.slice d3 e3 f3) (((x - p0:Int):Rat))),(fun V=>Rd V (.slice a4 n4 c4) m4 (.slice d4 e4 f4) (((r1 - p1:Int):Rat)*((x - p0:Int):Rat))),(fun V=>Rd V (.slice a5 n5 c5) m5 (.slice d5 e5 f5) (((r0 - p0:Int):Rat)))]from((AQ.out.call hb).pR rfl rfl hz)) (fun _ hX=>⟨hX.c 1 0,hX.c 4 0,hX.c 4 1,hX.c 3 0,hX.c 3 1,trivial⟩) ?_
  intro Ag AK AZ
  clear AB Kq AQ hb hz AY
  try simp only [zP]
  refine rdy1 21 rfl (fun Kq AB=>?_)
  go_simp
  go_at_call 154
  refine(hover_any _ _ _ _ _ _ _ _ _ _ _ _ _ _ _ _ _ (AK.out.r 3 rfl) (AK.out.r 4 rfl) 40 20 ((int_bq B2.out).mul (int_bq B3.out)) (int_bq B4.out) (by omega) (by omega) HNE.out).mono ?_
  rintro e wT ⟨a6,n6,c6,m6,d6,e6,f6,rfl,hz,hb⟩
  (try go_wp2_with fail)
  refine stepZ AB (show Sy w _ [(b0,#[.slice (some ⟨g0,o0,none⟩) l.length c],118),(b1,#[.int .i64 x],3),(b2,#[.slice none 0 0,.bool false,.slice none 0 0],42),(AC.heap.size,#[.int .i64 r0,.int .i64 r1],83),(AD.heap.size,#[.int .i64 p0,.int .i64 p1],83)] [] [(fun V=>Rd V (.slice a1 n1 c1) m1 (.slice d1 e1 f1) ((p1:Rat))),(fun V=>Rd V (.slice a2 n2 c2) m2 (.slice d2 e2 f2) (((r1 - p1:Int):Rat))),(fun V=>Rd V (.slice a3 n3 c3) m3 (.slice d3 e3 f3) (((x - p0:Int):Rat))),(fun V=>Rd V (.slice a4 n4 c4) m4 (.slice d4 e4 f4) (((r1 - p1:Int):Rat)*((x - p0:Int):Rat))),(fun V=>Rd V (.slice a5 n5 c5) m5 (.slice d5 e5 f5) (((r0 - p0:Int):Rat))),(fun V=>Rd V (.slice a6 n6 c6) m6 (.slice d6 e6 f6) (((r1 - p1:Int):Rat)*((x - p0:Int):Rat) / ((r0 - p0:Int):Rat)))]from((AK.out.call hb).pR rfl rfl hz)) (fun _ hX=>⟨hX.c 1 0,hX.c 4 0,hX.c 4 1,hX.c 3 0,hX.c 3 1,trivial⟩) ?_
  intro Aj AL A0
  clear AB Kq AK hb hz AZ
  try simp only [zP]
  refine rdy1 22 rfl (fun Kq AB=>?_)
  go_simp
  go_at_call 40
  refine(radd_b (AL.out.r 0 rfl) (AL.out.r 5 rfl) (int_bq B1.out) (((int_bq B2.out).mul (int_bq B3.out)).div (int_bq B4.out) HNE.out) (by omega) (by omega)).mono ?_
  rintro e wT ⟨a7,n7,c7,m7,d7,e7,f7,rfl,hz,hb⟩
  (try go_wp2_with fail)
  refine stepZ AB (show Sy w _ [(b0,#[.slice (some ⟨g0,o0,none⟩) l.length c],118),(b1,#[.int .i64 x],3),(b2,#[.slice none 0 0,.bool false,.slice none 0 0],42),(AC.heap.size,#[.int .i64 r0,.int .i64 r1],83),(AD.heap.size,#[.int .i64 p0,.int .i64 p1],83)] [] [(fun V=>Rd V (.slice a1 n1 c1) m1 (.slice d1 e1 f1) ((p1:Rat))),(fun V=>Rd V (.slice a2 n2 c2) m2 (.slice d2 e2 f2) (((r1 - p1:Int):Rat))),(fun V=>Rd V (.slice a3 n3 c3) m3 (.slice d3 e3 f3) (((x - p0:Int):Rat))),(fun V=>Rd V (.slice a4 n4 c4) m4 (.slice d4 e4 f4) (((r1 - p1:Int):Rat)*((x - p0:Int):Rat))),(fun V=>Rd V (.slice a5 n5 c5) m5 (.slice d5 e5 f5) (((r0 - p0:Int):Rat))),(fun V=>Rd V (.slice a6 n6 c6) m6 (.slice d6 e6 f6) (((r1 - p1:Int):Rat)*((x - p0:Int):Rat) / ((r0 - p0:Int):Rat))),(fun V=>Rd V (.slice a7 n7 c7) m7 (.slice d7 e7 f7) ((p1:Rat)+((r1 - p1:Int):Rat)*((x - p0:Int):Rat) / ((r0 - p0:Int):Rat)))]from((AL.out.call hb).pR rfl rfl hz)) (fun _ hX=>⟨hX.c 1 0,hX.c 4 0,hX.c 4 1,hX.c 3 0,hX.c 3 1,trivial⟩) ?_
  intro Ak AE A1
  clear AB Kq AL hb hz A0
  try simp only [zP]
  refine rdy1 23 rfl (fun Kq AB=>?_)
  have cQ0:=AE.out.c 2 0
  have fQ0:=AE.out.f 2 0
  have cQ1:=AE.out.c 2 1
  have fQ1:=AE.out.f 2 1
  have cQ2:=AE.out.c 2 2
  have fQ2:=AE.out.f 2 2
  go_simp
  refine stepZ AB (show Sy w _ [(b0,#[.slice (some ⟨g0,o0,none⟩) l.length c],118),(b1,#[.int .i64 x],3),(b2,#[.slice a7 n7 c7,.bool m7,.slice d7 e7 f7],42),(AC.heap.size,#[.int .i64 r0,.int .i64 r1],83),(AD.heap.size,#[.int .i64 p0,.int .i64 p1],83)] [] [(fun V=>Rd V (.slice a1 n1 c1) m1 (.slice d1 e1 f1) ((p1:Rat))),(fun V=>Rd V (.slice a2 n2 c2) m2 (.slice d2 e2 f2) (((r1 - p1:Int):Rat))),(fun V=>Rd V (.slice a3 n3 c3) m3 (.slice d3 e3 f3) (((x - p0:Int):Rat))),(fun V=>Rd V (.slice a4 n4 c4) m4 (.slice d4 e4 f4) (((r1 - p1:Int):Rat)*((x - p0:Int):Rat))),(fun V=>Rd V (.slice a5 n5 c5) m5 (.slice d5 e5 f5) (((r0 - p0:Int):Rat))),(fun V=>Rd V (.slice a6 n6 c6) m6 (.slice d6 e6 f6) (((r1 - p1:Int):Rat)*((x - p0:Int):Rat) / ((r0 - p0:Int):Rat))),(fun V=>Rd V (.slice a7 n7 c7) m7 (.slice d7 e7 f7) ((p1:Rat)+((r1 - p1:Int):Rat)*((x - p0:Int):Rat) / ((r0 - p0:Int):Rat)))]from(AE.out|>.set (j:=0) (v:= .slice a7 n7 c7) 2 rfl|>.set (j:=1) (v:= .bool m7) 2 rfl|>.set (j:=2) (v:= .slice d7 e7 f7) 2 rfl)) (fun _ hX=>⟨hX.c 1 0,hX.c 4 0,hX.c 4 1,hX.c 3 0,hX.c 3 1,trivial⟩) ?_
  exact mW2_0
 exact AllReadyH.nil
end
end Go.Proofs.YthmdhlopeponcaaGreatDoor

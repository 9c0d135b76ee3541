/- part -/
import Derived.Test.YtjpojeapdgjbhaaGreatDoorQ30
import Derived.Test.YtjpojeapdgjbhaaGreatDoorQ31
import Derived.Test.YtjpojeapdgjbhaaGreatDoorShelf2
set_option maxRecDepth 100000
set_option maxHeartbeats 32000000
namespace Go.Proofs.YtjpojeapdgjbhaaGreatDoor
open Go.RowKit Go.Shelf Dig
section
variable (w:World)
theorem compact_line (a:OA) (n c:Nat) (l:List Pt) (hs:Sx 2 w a n c (L2 l)) (hn:n<=1000000) (hd:∀i (h:i+1 < l.length),l[i+1]≠l[i]):Calls Tryz.prog 123 #[.slice a n c] w (Gives (.slice a n c) w):=by
 obtain rfl:=hs.n2;have AC:=ζ (fun W (hW:Below w.heap.size w W)=>hs.below hW);have HD:=ζ hd;have hC:=ζ (Sy.enter w);clear hd;by_cases h2:l.length < 2
 ·have i1:(l.length:Int) < 2:=by omega
  clear hs HD AC;go_enter Tryz.func123,Tryz.ntmps123;go_wp2;go_ret;exact⟨rfl,hC.out.be⟩
 obtain ⟨g0,o0,rfl⟩:=hs.addr (by omega);have i9:¬ (l.length:Int) < 2:=by omega
 clear hs;go_enter Tryz.func123,Tryz.ntmps123;go_wp2;clear i9;go_loopw [3] (fun iv wr=>∃k:Nat,1<=k/\k<=l.length/\iv= .int .i64 k/\Hid (Sy w wr [] [] [])) (fun iv _=>l.length - (intOf iv).toNat)
 case atStart=>exact⟨1,by omega,by omega,rfl,hC⟩
 case round=>
  clear hC;obtain ⟨k,hk1,hk,rfl,hS⟩:=hrel;by_cases hlt:k < l.length
  ·obtain ⟨j,hj⟩:∃j,k=j+1:=⟨k - 1,by omega⟩
   have hjl:j < l.length:=(by omega);have HX:=ζ (fun W hW=>(AC.out W hW).at2 hlt);have HY:=ζ (fun W hW=>(AC.out W hW).at2 hjl);have HN:=ζ (show l[k]≠l[j]by subst hj;exact HD.out j hlt);have i0:(0:Int)<=(k:Int):=(by omega);have i1:(k:Int) < (l.length:Int):=(by omega);have i2:IntKind.i64.wrap ((k:Int) - 1)=(j:Int):=(by rw [IntWalk.i64_in _ (by omega)];omega);have i3:(0:Int)<=(j:Int):=(by omega);have i4:(j:Int) < (l.length:Int):=(by omega);clear hj;generalize l[k]=p at*;generalize l[j]=q at*;obtain ⟨p0,p1⟩:=p;obtain ⟨q0,q1⟩:=q;dsimp only at HX HY;have AF:=ζ (show ¬ (p0=q0/\p1=q1)from fun h=>HN.out (by rw [h.1,h.2]));go_upto_region 6 with fail
   refine wp_region_held_drew (S:=(fun w'=>w'.cell? ⟨g0,o0+k*2,none⟩=some (.int .i64 p0)/\w'.cell? ⟨g0,o0+k*2+1,none⟩=some (.int .i64 p1)/\w'.cell? ⟨g0,o0+j*2,none⟩=some (.int .i64 q0)/\w'.cell? ⟨g0,o0+j*2+1,none⟩=some (.int .i64 q1)/\True)) (by kernel_rfl) ⟨(HX.out _ hS.out.drew.be).1,(HX.out _ hS.out.drew.be).2,(HY.out _ hS.out.drew.be).1,(HY.out _ hS.out.drew.be).2,trivial⟩ (fun hH=>?_);refine wpAnyH_geny (show Sy w _ [] [] []from hS.out.drew) hH ?_;intro AD hc AA;have AB:=ζ hc;clear hc hH hS;refine tkA 0 rfl AA ?_;(try simp only [zP]);refine tkA 1 rfl AA ?_;(try simp only [zP]);refine tkA 2 rfl AA ?_;(try simp only [zP]);refine tkA 3 rfl AA ?_;(try simp only [zP]);refine tkA 4 rfl AA ?_;(try simp only [zP]);refine tkA 5 rfl AA ?_;(try simp only [zP]);refine tkA 6 rfl AA ?_;(try simp only [zP]);refine tkA 7 rfl AA ?_;(try simp only [zP]);refine tkA 8 rfl AA ?_;(try simp only [zP]);refine wpAnyH_take (i:=9) (oi:=⟨_,_,_,_,_,_⟩) (v:= .bool false) rfl (by kernel_rfl) (by kernel_rfl) (by kernel_rfl) (fun _ _ _ h=>h) (Or.inl ⟨by rfl,?_⟩) AA ?_
   ·intro wS AE;(try dsimp only at AE);go_simp;have hn:=AF.out;by_cases h1:p0=q0<;>by_cases h2:p1=q1<;>simp [h1,h2]<;>exact hn ⟨h1,h2⟩
   (try simp only [zP]);refine wpAnyH_done (by kernel_rfl) ?_ _;go_wp2;go_roundw
   case rel=>exact⟨k+1,by omega,by omega,by go_num,AB⟩
   case measure=>simp [intOf];omega
  ·obtain rfl:k=l.length:=by omega
   have i1:¬ (l.length:Int) < (l.length:Int):=(by omega);go_wp2;go_ret;exact⟨rfl,hS.out.be⟩
theorem compact_ints (a:OA) (n c:Nat) (l:List Int) (hs:Sx 1 w a n c (L1 l)) (hn:n<=1000000) (hd:∀i (h:i+1 < l.length),l[i+1]≠l[i]):Calls Tryz.prog 164 #[.slice a n c] w (Gives (.slice a n c) w):=by
 obtain rfl:=hs.n1;have AC:=ζ (fun W (hW:Below w.heap.size w W)=>hs.below hW);have HD:=ζ hd;have hC:=ζ (Sy.enter w);clear hd;by_cases h2:l.length < 2
 ·have i1:(l.length:Int) < 2:=by omega
  clear hs HD AC;go_enter Tryz.func164,Tryz.ntmps164;go_wp2;go_ret;exact⟨rfl,hC.out.be⟩
 obtain ⟨g0,o0,rfl⟩:=hs.addr (by omega);have i9:¬ (l.length:Int) < 2:=by omega
 clear hs;go_enter Tryz.func164,Tryz.ntmps164;go_wp2;clear i9;go_loopw [3] (fun iv wr=>∃k:Nat,1<=k/\k<=l.length/\iv= .int .i64 k/\Hid (Sy w wr [] [] [])) (fun iv _=>l.length - (intOf iv).toNat)
 case atStart=>exact⟨1,by omega,by omega,rfl,hC⟩
 case round=>
  clear hC;obtain ⟨k,hk1,hk,rfl,hS⟩:=hrel;by_cases hlt:k < l.length
  ·obtain ⟨j,hj⟩:∃j,k=j+1:=⟨k - 1,by omega⟩
   have hjl:j < l.length:=(by omega);have HX:=ζ (fun W hW=>(AC.out W hW).at1 hlt);have HY:=ζ (fun W hW=>(AC.out W hW).at1 hjl);have HN:=ζ (show l[k]≠l[j]by subst hj;exact HD.out j hlt);have i0:(0:Int)<=(k:Int):=(by omega);have i1:(k:Int) < (l.length:Int):=(by omega);have i2:IntKind.i64.wrap ((k:Int) - 1)=(j:Int):=(by rw [IntWalk.i64_in _ (by omega)];omega);have i3:(0:Int)<=(j:Int):=(by omega);have i4:(j:Int) < (l.length:Int):=(by omega);clear hj;generalize l[k]=p at*;generalize l[j]=q at*;go_upto_region 6 with fail
   refine wp_region_held_drew (S:=(fun w'=>w'.cell? ⟨g0,o0+k,none⟩=some (.int .i64 p)/\w'.cell? ⟨g0,o0+j,none⟩=some (.int .i64 q)/\True)) (by kernel_rfl) ⟨(HX.out _ hS.out.drew.be),(HY.out _ hS.out.drew.be),trivial⟩ (fun hH=>?_);refine wpAnyH_geny (show Sy w _ [] [] []from hS.out.drew) hH ?_;intro AD hc AA;have AB:=ζ hc;clear hc hH hS;refine tkA 0 rfl AA ?_;(try simp only [zP]);refine tkA 1 rfl AA ?_;(try simp only [zP]);refine tkA 2 rfl AA ?_;(try simp only [zP]);refine tkA 3 rfl AA ?_;(try simp only [zP]);refine tkA 4 rfl AA ?_;(try simp only [zP]);refine tkA 5 rfl AA ?_;(try simp only [zP]);refine tkA 6 rfl AA ?_;(try simp only [zP]);refine tkA 7 rfl AA ?_;(try simp only [zP]);refine tkA 8 rfl AA ?_;(try simp only [zP]);refine wpAnyH_take (i:=9) (oi:=⟨_,_,_,_,_,_⟩) (v:= .bool false) rfl (by kernel_rfl) (by kernel_rfl) (by kernel_rfl) (fun _ _ _ h=>h) (Or.inl ⟨by rfl,?_⟩) AA ?_
   ·intro wS AE;(try dsimp only at AE);go_simp;have hn:=HN.out;simp [hn]
   (try simp only [zP]);refine wpAnyH_done (by kernel_rfl) ?_ _;go_wp2;go_roundw
   case rel=>exact⟨k+1,by omega,by omega,by go_num,AB⟩
   case measure=>simp [intOf];omega
  ·obtain rfl:k=l.length:=by omega
   have i1:¬ (l.length:Int) < (l.length:Int):=(by omega);go_wp2;go_ret;exact⟨rfl,hS.out.be⟩
end
abbrev BPt:Type:= { p:Pt // -1000000<=p.1/\p.1<=1000000 }
instance:Inhabited BPt:=⟨⟨(0,0),by decide⟩⟩
def encB (p:BPt):List Value:=c2 p.1
def cfX (p q:BPt):Int:=p.1.1 - q.1.1
theorem ltX (p q:BPt):ltOf cfX p q=decide (p.1.1 < q.1.1):=by
 unfold ltOf cfX;rw [Bool.eq_iff_iff,decide_eq_true_eq,decide_eq_true_eq];omega
theorem swoX:Go.Sort.SWO (ltOf cfX) where
 irrefl x:=by rw [ltX];simp
 trans x y z h1 h2:=by rw [ltX]at*;simp at*;omega
 ntrans x y z h1 h2:=by rw [ltX]at*;simp at*;omega
theorem order_any (x y:BPt) (W:World):Calls Tryz.prog 121 #[.agg #[.int .i64 x.1.1,.int .i64 x.1.2],.agg #[.int .i64 y.1.1,.int .i64 y.1.2]] W fun e w'=>e= .returned (.int .i64 (cfX x y))/\∃q os',w'=Go.Sort.grow (W.drewN q) os':=by
 obtain ⟨⟨x0,x1⟩,hx⟩:=x;obtain ⟨⟨y0,y1⟩,hy⟩:=y;unfold cfX;dsimp only at hx hy⊢;have e0:IntKind.i64.wrap (x0 - y0)=x0 - y0:=IntWalk.i64_in _ (by omega);go_enter Tryz.func121,Tryz.ntmps121;go_wp2;go_ret;exact⟨rfl,0,_,by rw [Go.Sort.alloc_eq_grow,Go.Sort.alloc_eq_grow,Go.Sort.grow_grow];rfl⟩
theorem eg_order:EG 121:=enters_of Tryz.func121 (by kernel_rfl) rfl
theorem one_encB:∀x:BPt,∀v∈encB x,v.oneCell'=true:=by
 intro x v hv;simp [encB,c2]at hv;rcases hv with rfl | rfl<;>rfl
theorem flatB (d:Array BPt):(Go.Sort.flatK encB 2 d).toList.map id=L2 (d.toList.map (fun p=>p.1)):=by
 rw [List.map_id,flatK_list encB 2 (fun _=>rfl) d];unfold L2 encB;rw [List.flatMap_map]
theorem sortF_line (W:World) (g c:Nat) (d:Array BPt) (hH:Go.Sort.HoldsK encB 2 W g 0 d) (hlt:g < W.heap.size) (hsz:d.size<=1000000):
  Calls Tryz.prog 122 #[.slice (some ⟨g,0,none⟩) d.size c,.func (.func 121) #[] #[]] W fun e w'=>e= .returned (.tuple #[])/\∃d' n os,Go.Sort.PermIn 0 d.size d d'/\Go.Sort.SortedIn (ltOf cfX) 0 d.size d'/\w'=sortWorldK encB 2 W g 0 n d' os:=by
 have hp:=ζ (Tryz.pdqCmpK_0 encB (fun _=>rfl) one_encB cfX swoX 121 #[] g 0 c d W eg_order (fun _ _ _ _ x y=>order_any x y _) hH hlt (by omega));have hl:=ζ (Tryz.bits_Len (d.size:Int) W (by omega) (by omega));rw [Int.toNat_natCast]at hl;have wr:IntKind.u64.wrap (d.size:Int)=d.size:=by simp [IntKind.wrap,IntKind.bits,IntKind.signed];omega
 clear hH;generalize Lib.bitLen d.size=bl at*;go_enter Tryz.func122,Tryz.ntmps122;go_wp2_with fail
 refine hl.out.mono ?_;rintro e wz ⟨rfl,hz⟩;subst wz;go_wp2_with fail
 refine hp.out.mono ?_;rintro e w1 ⟨rfl,d',m,os',h1,h2,rfl⟩;go_wp2;go_end0
 exact⟨rfl,d',m,os',h1,h2,rfl⟩
theorem sort_line {w W:World} {bs:List (Nat×Array Value×TypeId)} {os:List Rw} {rs:List (World->Prop)} (hS:Sy w W bs os rs) (i:Nat) {g n c:Nat} {l:List Pt} (hi:os[i]? =some ⟨.slice (some ⟨g,0,none⟩) n c,47,2,n,L2 l⟩) (hl:∀p∈l,-1000000<=p.1/\p.1<=1000000) (hn:n<=1000000):
  Calls Tryz.prog 122 #[.slice (some ⟨g,0,none⟩) n c,.func (.func 121) #[] #[]] W (fun e w'=>e= .returned (.tuple #[])/\∃l':List Pt,l'.Perm l/\l'.Pairwise (fun p q=>p.1<=q.1)/\Sy w w' bs (os.set i ⟨.slice (some ⟨g,0,none⟩) n c,47,2,n,L2 l'⟩) rs):=by
 obtain ⟨d,hd⟩:∃d:Array BPt,d.toList.map (fun p=>p.1)=l:=⟨(l.attach.map fun p=>(⟨p.1,hl p.1 p.2⟩:BPt)).toArray,by show(l.attach.map _).map _=l;rw [List.map_map];exact List.attach_map_subtype_val l⟩
 have hrow:=hS.orow0 i hi;have hn2:n=l.length:=(Sx.owns (hS.orow i hi)).n2;have hds:d.size=n:=by rw [hn2,<-hd,List.length_map,Array.length_toList]
 have hlt:g < W.heap.size:=(hrow.lt g rfl).2;have hH:Go.Sort.HoldsK encB 2 W g 0 d:=by
  unfold Go.Sort.HoldsK;refine holds_own id _ (base:=0) (n:=n) (c:=c) (size:=2) (e:=47) ?_;rw [flatB,hd];exact hrow
 have hcon:=sortF_line W g c d hH hlt (by omega);rw [hds]at hcon;refine hcon.mono ?_;rintro e w' ⟨rfl,d',m,os',hp,hso,rfl⟩;have hds':d'.size=n:=hp.1.trans hds;refine⟨rfl,d'.toList.map (fun p=>p.1),?_,?_,?_⟩
 ·rw [<-hd];have h3:=hp.2.2;have e1:d'.extract 0 n=d':=by rw [<-hds',Array.extract_size]
  have e2:d.extract 0 n=d:=by rw [<-hds,Array.extract_size]
  rw [e1,e2]at h3;exact h3.map _
 ·rw [List.pairwise_map,List.pairwise_iff_getElem];intro a b ha hb hab;rw [Array.length_toList]at ha hb;have h:=hso a b (Nat.zero_le _) hab (by omega);rw [ltX,getElem!_pos d' b hb,getElem!_pos d' a ha]at h;have:=of_decide_eq_false h;simp only [Array.getElem_toList];omega
 ·have h:=hS.sortedP (m:=m) (os:=os') i hi id (Go.Sort.flatK encB 2 d') (by rw [Go.Sort.size_flatK,hds']);rw [flatB]at h;exact h
def RdAll (V:World) (xs:List Value) (qs:List Rat):Prop:=xs.length=qs.length*3/\∀k (hk:k < qs.length),∃a n c m d e f,xs[k*3]? =some (.slice a n c)/\xs[k*3+1]? =some (.bool m)/\xs[k*3+2]? =some (.slice d e f)/\Rd V (.slice a n c) m (.slice d e f) qs[k]
theorem RdAll.nil {V:World} :RdAll V [] []:=⟨rfl,fun k hk=>absurd hk (Nat.not_lt_zero k)⟩
theorem RdAll.snoc {V:World} {xs:List Value} {qs:List Rat} {a:OA} {n c:Nat} {m:Bool} {d:OA} {e f:Nat} {q:Rat} (h:RdAll V xs qs) (hq:Rd V (.slice a n c) m (.slice d e f) q):RdAll V (xs++ [.slice a n c,.bool m,.slice d e f]) (qs++ [q]):=by
 refine⟨by rw [List.length_append,List.length_append,h.1];simp only [List.length_cons,List.length_nil];omega,fun k hk=>?_⟩;have hl:=h.1;by_cases hk':k < qs.length
 ·obtain ⟨a,n,c,m,d,e,f,h1,h2,h3,h4⟩:=h.2 k hk';refine⟨a,n,c,m,d,e,f,?_,?_,?_,?_⟩
  ·rw [List.getElem?_append_left (by omega)];exact h1
  ·rw [List.getElem?_append_left (by omega)];exact h2
  ·rw [List.getElem?_append_left (by omega)];exact h3
  ·rw [List.getElem_append_left hk'];exact h4
 ·have hk2:k=qs.length:=by rw [List.length_append]at hk;simp only [List.length_cons,List.length_nil]at hk;omega
  subst hk2;refine⟨a,n,c,m,d,e,f,?_,?_,?_,?_⟩
  ·rw [List.getElem?_append_right (by omega),show qs.length*3 - xs.length=0 by omega];rfl
  ·rw [List.getElem?_append_right (by omega),show qs.length*3+1 - xs.length=1 by omega];rfl
  ·rw [List.getElem?_append_right (by omega),show qs.length*3+2 - xs.length=2 by omega];rfl
  ·rw [List.getElem_append_right (Nat.le_refl _)];simpa using hq
theorem rowR_of {W:World} {v:Value} {xs:List Value} {qs:List Rat} (h:W.ownsRow 0 72 3 v qs.length xs) (hr:RdAll W xs qs):∃a c,v= .slice a qs.length c/\RowR W (.slice a qs.length c) qs:=by
 rcases h.2 with ⟨rfl,h0⟩ | ⟨g,cap,cur,rfl,_,hg,_⟩
 ·exact⟨none,0,by rw [h0],none,0,rfl,fun k hk=>by omega⟩
 ·refine⟨some ⟨g,0,none⟩,cap,rfl,some ⟨g,0,none⟩,cap,rfl,fun k hk=>?_⟩;obtain ⟨a,n,c,m,d,e,f,h1,h2,h3,h4⟩:=hr.2 k hk;have key:∀j u,xs[j]? =some u->W.cell? ⟨g,j,none⟩=some u:=fun j u hu=>by
   have:=World.ownsRow.cells h (g:=g) rfl j u hu;have hadd:(⟨g,0,none⟩:Addr).add j=⟨g,j,none⟩:=(by unfold Addr.add;split<;>simp_all);rwa [hadd]at this
  exact⟨g,_,m,_,rfl,(Array.getElem?_eq_some_iff.1 hg).1,key _ _ h1,key _ _ h2,key _ _ h3,h4⟩
theorem info_R5:(Tryz.prog.info? 72).map (fun i=>(i.zero,i.size,i.bytes))=some (some (.agg #[.slice none 0 0,.bool false,.slice none 0 0]),3,56):=by kernel_rfl
theorem und_Rs5:Tryz.prog.underlying 185=some (.slice 72):=Tryz.underlying185
theorem und_ints5:Tryz.prog.underlying 37=some (.slice 3):=Tryz.underlying37
theorem sy_addr5 {w W:World} {bs:List (Nat×Array Value×TypeId)} {os:List Rw} {rs:List (World->Prop)} (h:Sy w W bs os rs) (i:Nat) {b:OA} {N c':Nat} {e:TypeId} {size:Nat} {xs:List Value} (hi:os[i]? =some ⟨.slice b N c',e,size,N,xs⟩) (hN:0 < N):∃g,b=some ⟨g,0,none⟩:=by
 have:=h.orow i hi;rcases this.2 with ⟨h1,h2⟩ | ⟨g,cap,cur,hv,_⟩
 ·omega
 ·simp only [Value.slice.injEq]at hv;exact⟨g,hv.1⟩
def inX (F T:Int) (l:List Pt):List Int:=(l.map (·.1)).filter fun x=>decide (F < x) && decide (x < T)
theorem inX_snoc (F T:Int) (l:List Pt) {k:Nat} (h:k < l.length):inX F T (l.take (k+1))=inX F T (l.take k)++if F < l[k].1/\l[k].1 < T then [l[k].1]else []:=by
 unfold inX;rw [List.take_succ_eq_append_getElem h,List.map_append,List.filter_append];congr 1;by_cases h1:F < l[k].1<;>by_cases h2:l[k].1 < T<;>simp [h1,h2]
theorem inX_len (F T:Int) (l:List Pt):(inX F T l).length<=l.length:=by
 unfold inX;refine Nat.le_trans (List.length_filter_le _ _) ?_;rw [List.length_map];exact Nat.le_refl _
def RetStops (w:World) (K:List Int) (e:Ending) (w':World):Prop:=∃a c,e= .returned (.slice a K.length c)/\RowR w' (.slice a K.length c) (K.map fun x:Int=>(x:Rat))/\(∀g,a=some ⟨g,0,none⟩->w.heap.size<=g)/\Below w.heap.size w w'
section
variable (w:World)
theorem pstops_any (a1:OA) (n1 c1:Nat) (l1:List Pt) (a2:OA) (n2 c2:Nat) (l2:List Pt) (F T:Int) (K:List Int) (h1:Sx 2 w a1 n1 c1 (L2 l1)) (h2:Sx 2 w a2 n2 c2 (L2 l2)) (hn0:0 < n1+n2) (hn:n1+n2<=1000)
  (hK:(([F,T]++inX F T (l1++l2)).mergeSort fun x y=>decide (x<=y))=K) (hd:∀i (h:i+1 < K.length),K[i+1]≠K[i]) (hb:∀x∈K,-1000000<=x/\x<=1000000):
  Calls Tryz.prog 129 #[.agg #[.slice a1 n1 c1,.slice a2 n2 c2,.int .i64 F,.int .i64 T]] w (RetStops w K):=by
 have AN:=ζ (fun W (hW:Below w.heap.size w W) a' c' (hv:Sx 1 W a' 2 c' [.slice a1 n1 c1,.slice a2 n2 c2])=>concat_line W a' c' a1 n1 c1 a2 n2 c2 l1 l2 hv (h1.below hW) (h2.below hW) hn0 hn);have AK:=ζ (show(l1++l2).length=n1+n2 by rw [List.length_append,h1.n2,h2.n2]);generalize l1++l2=L at*;generalize n1+n2=N at*;have AC:=ζ hK;have AO:=ζ hd;have AP:=ζ hb;have hC:=ζ ((Sy.enter w).al w.heap.size #[.slice a1 n1 c1,.slice a2 n2 c2,.int .i64 F,.int .i64 T] 156 rfl);clear h1 h2 hK hd hb;go_enter Tryz.func129,Tryz.ntmps129;go_upto_region 1 with fail
 obtain ⟨b1,hb1⟩:∃b,w.heap.size=b:=⟨_,rfl⟩
 rw [hb1]at hC⊢;refine wp_geny (show Sy w _ [(b1,#[.slice a1 n1 c1,.slice a2 n2 c2,.int .i64 F,.int .i64 T],156)] [] []from hC.out) ?_;intro V0 hc;have hD:=ζ hc;clear hc hC hb1;have AD:=hD.out.c 0 2;have AE:=hD.out.c 0 3;go_upto_region 2 with fail
 have hE:=ζ (hD.out.onew V0.heap.size #[.int .i64 F,.int .i64 T] 3 1 2 rfl (by omega) rfl);obtain ⟨g3,hg3⟩:∃b,V0.heap.size=b:=⟨_,rfl⟩
 rw [hg3]at hE⊢;refine wp_geny (show Sy w _ [(b1,#[.slice a1 n1 c1,.slice a2 n2 c2,.int .i64 F,.int .i64 T],156)] [⟨.slice (some ⟨g3,0,none⟩) 2 2,3,1,2,L1 [F,T]⟩] []from hE.out) ?_;intro V1 hc;have hF:=ζ hc;clear hc hE hD hg3 AD AE;have AF:=hF.out.c 0 0;have AG:=hF.out.c 0 1;go_wp2_with fail
 have hG:=ζ (hF.out.onew V1.heap.size #[.slice a1 n1 c1,.slice a2 n2 c2] 121 1 2 rfl (by omega) rfl);refine(AN.out _ hG.out.be _ _ (hG.out.osx 1 rfl)).mono ?_;rintro e w1 ⟨aC,cC,rfl,hr,hb⟩;have hH:=ζ (show Sy w w1 [(b1,#[.slice a1 n1 c1,.slice a2 n2 c2,.int .i64 F,.int .i64 T],156)] [⟨.slice (some ⟨g3,0,none⟩) 2 2,3,1,2,L1 [F,T]⟩,⟨.slice aC N cC,47,2,N,L2 L⟩] []from(hG.out.adopt hb hr).thin (List.Sublist.refl _) (List.Sublist.cons_cons _ (List.Sublist.cons _ (List.Sublist.refl _))));clear hb hr hG hF AF AG;obtain ⟨gC,rfl⟩:=sy_addr5 hH.out 1 rfl (by omega);have AH:=ζ (fun(W:World) (hW:Sx 2 W (some ⟨gC,0,none⟩) N cC (L2 L)) (i:Nat) (hi:i < L.length)=>show W.cell? ⟨gC,i*2,none⟩=some (.int .i64 L[i].1)/\W.cell? ⟨gC,i*2+1,none⟩=some (.int .i64 L[i].2)by
  have:=hW.at2 hi;rw [Nat.zero_add]at this;exact this)
 go_wp2;go_loopw [3,21] (fun tv iv wr=>∃ (k:Nat) (bx:OA) (nx cx:Nat),k<=N/\iv= .int .i64 k/\tv= .slice bx nx cx/\nx<=2+k/\Hid (Sy w wr [(b1,#[.slice a1 n1 c1,.slice a2 n2 c2,.int .i64 F,.int .i64 T],156)] [⟨.slice bx nx cx,3,1,nx,L1 ([F,T]++inX F T (L.take k))⟩,⟨.slice (some ⟨gC,0,none⟩) N cC,47,2,N,L2 L⟩] [])) (fun _ iv _=>N - (intOf iv).toNat)
 case atStart=>exact⟨0,some ⟨g3,0,none⟩,2,2,Nat.zero_le _,rfl,rfl,by omega,hH⟩
 case round=>
  clear hH;obtain ⟨k,bx,nx,cx,hk,rfl,rfl,hnx,hS⟩:=hrel;have i0:(0:Int)<=(k:Int):=by omega
  by_cases hlt:k < N
  ·have i1:(k:Int) < (N:Int):=(by omega);have hkL:k < L.length:=(by rw [AK.out];exact hlt);obtain ⟨x0,x1⟩:=AH.out _ (hS.out.osx 1 rfl) k hkL;have AA:=ζ (inX_snoc F T L hkL);generalize L[k]=p at*;obtain ⟨p0,p1⟩:=p;dsimp only at x0 x1 AA;have hgl:=World.block_lt_of_cell? _ _ x0;dsimp only at hgl;have hX:=ζ (hS.out.al wr.heap.size #[.int .i64 p0,.int .i64 p1] 47 rfl);clear hkL;go_upto_region 5 with fail
   obtain ⟨b5,hb5⟩:∃b,wr.heap.size=b:=⟨_,rfl⟩
   rw [hb5]at hX⊢;refine wp_geny (show Sy w _ [(b1,#[.slice a1 n1 c1,.slice a2 n2 c2,.int .i64 F,.int .i64 T],156),(b5,#[.int .i64 p0,.int .i64 p1],47)] [⟨.slice bx nx cx,3,1,nx,L1 ([F,T]++inX F T (L.take k))⟩,⟨.slice (some ⟨gC,0,none⟩) N cC,47,2,N,L2 L⟩] []from hX.out) ?_;intro V2 hc;have hY:=ζ hc;clear hc hX hS hb5 x0 x1 hgl;have y1_0:=hY.out.c 1 0;have y0_2:=hY.out.c 0 2;have y0_3:=hY.out.c 0 3;by_cases h3:F < p0
   ·by_cases h4:p0 < T
    ·rw [if_pos ⟨h3,h4⟩]at AA;go_wp2_with (refine wpList_append_sy (o:=⟨some 41,_,_,_,_,_⟩) rfl (hY.out.onew V2.heap.size #[.int .i64 p0] 3 1 1 rfl (by omega) rfl) 0 2 rfl rfl _ _ _ rfl und_ints5 info_hint rfl (by omega) rfl rfl (by intro u hu;simp at hu;rcases hu with rfl;rfl) (by omega) (by omega) (fun a9 c9 V hV=>?_);have hJ:=ζ hV;clear hV y1_0 y0_2 y0_3 hY)
     go_roundw
     case rel=>exact⟨k+1,a9,nx+1,c9,by omega,by go_num,rfl,by omega,ζ (by rw [AA.out,<-List.append_assoc,L1_append];exact hJ.out.thin (tkSub 1 _ rfl) (tkSub 2 _ rfl))⟩
     case measure=>simp [intOf];omega
    ·rw [if_neg (fun h=>h4 h.2),List.append_nil]at AA;go_wp2;go_roundw
     case rel=>exact⟨k+1,bx,nx,cx,by omega,by go_num,rfl,by omega,ζ (by rw [AA.out];exact hY.out.thin (tkSub 1 _ rfl) (tkSub 2 _ rfl))⟩
     case measure=>simp [intOf];omega
   ·rw [if_neg (fun h=>h3 h.1),List.append_nil]at AA;go_wp2;go_roundw
    case rel=>exact⟨k+1,bx,nx,cx,by omega,by go_num,rfl,by omega,ζ (by rw [AA.out];exact hY.out.thin (tkSub 1 _ rfl) (tkSub 2 _ rfl))⟩
    case measure=>simp [intOf];omega
  ·obtain rfl:k=N:=by omega
   have i1:¬ (k:Int) < (k:Int):=(by omega);rw [List.take_of_length_le (by rw [AK.out];exact Nat.le_refl _)]at hS;obtain rfl:=(hS.out.osx 0 rfl).n1;have hx0:0 < ([F,T]++inX F T L).length:=(by simp);obtain ⟨gx,rfl⟩:=sy_addr5 hS.out 0 rfl hx0;have AI:=ζ (Tryz.slices_Sort_int gx 0 cx ([F,T]++inX F T L) wr (holds_own (base:=0) (e:=3) (size:=1) (n:=([F,T]++inX F T L).length) (c:=cx) (Value.int .i64) _ (by simpa [L1] using hS.out.orow0 0 rfl)) ((hS.out.orow0 0 rfl).lt gx rfl).2 (by omega));rw [AC.out]at AI;have AB:=ζ (show K.length=([F,T]++inX F T L).length by rw [<-AC.out,List.length_mergeSort]);have hL:=ζ (show([F,T]++inX F T L).length<=1002 by omega);generalize [F,T]++inX F T L=Z at*;go_upto_region 8 with fail
   go_wp2_with fail
   refine AI.out.mono ?_;rintro e w3 ⟨rfl,m3,os3,hw3⟩;have hT:=hS.out.sortedP (m:=m3) (os:=os3) 0 rfl (Value.int .i64) K.toArray (by rw [Nat.mul_one,List.size_toArray,AB.out]);rw [<-hw3,<-AB.out]at hT;rw [<-AB.out]at hL⊢;have hU:=ζ ((show Sy w w3 [(b1,#[.slice a1 n1 c1,.slice a2 n2 c2,.int .i64 F,.int .i64 T],156)] [⟨.slice (some ⟨gx,0,none⟩) K.length cx,3,1,K.length,L1 K⟩] []from hT.thin (List.Sublist.refl _) (tkSub 1 _ rfl)).onil 72 3);clear hw3;clear hT hS AI AB;have AL:=ζ (fun W (hW:Sx 1 W (some ⟨gx,0,none⟩) K.length cx (L1 K))=>compact_ints W (some ⟨gx,0,none⟩) K.length cx K hW (by have:=hL.out;omega) AO.out);go_upto_region 10 with fail
   go_wp2_with fail
   refine(AL.out _ (hU.out.osx 0 rfl)).mono ?_;rintro e w4 ⟨rfl,hb⟩;have hV:=ζ ((hU.out.call hb).push (r:=fun V=>RdAll V [] []) (fun V _=>RdAll.nil));clear hb hU AL AC;have hcapx:=(hV.out.osx 0 rfl).cap;unfold maxLen at hcapx;go_wp2;go_loopw [6,48] (fun tv iv wr=>∃ (j:Nat) (br:OA) (cr:Nat) (xs:List Value),j<=K.length/\iv= .int .i64 j/\tv= .slice br j cr/\Hid (Sy w wr [(b1,#[.slice a1 n1 c1,.slice a2 n2 c2,.int .i64 F,.int .i64 T],156)] [⟨.slice (some ⟨gx,0,none⟩) K.length cx,3,1,K.length,L1 K⟩,⟨.slice br j cr,72,3,j,xs⟩] [fun V=>RdAll V xs ((K.take j).map fun x:Int=>(x:Rat))])) (fun _ iv _=>K.length - (intOf iv).toNat)
   case atStart=>exact⟨0,none,0,[],Nat.zero_le _,rfl,rfl,hV⟩
   case round=>
    clear hV;obtain ⟨j,br,cr,xs,hj,rfl,rfl,hS⟩:=hrel;have i0:(0:Int)<=(j:Int):=(by omega);by_cases hlt:j < K.length
    ·have i1:(j:Int) < (K.length:Int):=(by omega);have x0:=(hS.out.osx 0 rfl).at1 hlt;rw [Nat.zero_add]at x0;have AJ:=ζ (AP.out _ (List.getElem_mem hlt));have AQ:=ζ (show(K.take (j+1)).map (fun x:Int=>(x:Rat))=(K.take j).map (fun x:Int=>(x:Rat))++ [(K[j]:Rat)]by rw [List.take_succ_eq_append_getElem hlt,List.map_append];rfl);generalize K[j]=x at*;have AR:=ζ (fun W=>pof_any W x (by have:=AJ.out;omega));have hjb:=hL.out;go_upto_region 13 with fail
     go_wp2_with fail
     refine(AR.out _).mono ?_;rintro e w5 ⟨a4,n4,c4,m4,d4,e4,f4,rfl,hz,hb⟩;have hY:=ζ ((hS.out.call hb).pR rfl rfl hz);clear hb hz hS x0;go_wp2_with (refine wpList_append_sy (o:=⟨some 56,_,_,_,_,_⟩) rfl (hY.out.onew w5.heap.size #[.slice a4 n4 c4,.bool m4,.slice d4 e4 f4] 72 3 1 rfl (by omega) rfl) 1 2 rfl rfl _ _ _ rfl und_Rs5 info_R5 rfl (by omega) rfl rfl (by intro u hu;simp at hu;rcases hu with rfl | rfl | rfl<;>rfl) (by omega) (by omega) (fun a9 c9 V hV=>?_);have hJ:=ζ hV;clear hV hY)
     go_roundw
     case rel=>exact⟨j+1,a9,c9,xs++ [.slice a4 n4 c4,.bool m4,.slice d4 e4 f4],by omega,by go_num,rfl,ζ (by rw [AQ.out];exact(hJ.out.imp (rs':=[fun V=>RdAll V (xs++ [.slice a4 n4 c4,.bool m4,.slice d4 e4 f4]) ((K.take j).map (fun x:Int=>(x:Rat))++ [(x:Rat)])]) (fun V h r hr=>by rw [List.mem_singleton.1 hr];exact(h _ (List.mem_cons_self ..)).snoc (h _ (List.mem_cons_of_mem _ (List.mem_cons_self ..))))).thin (List.Sublist.refl _) (tkSub 2 _ rfl))⟩
     case measure=>simp [intOf];omega
    ·obtain rfl:j=K.length:=by omega
     have i1:¬ (K.length:Int) < (K.length:Int):=(by omega);rw [List.take_length]at hS;have AM:=ζ (show(K.map fun x:Int=>(x:Rat)).length=K.length from List.length_map _);go_wp2;go_ret;obtain ⟨a8,c8,he,hro⟩:=rowR_of (W:=wr) (qs:=K.map fun x:Int=>(x:Rat)) (by rw [AM.out];exact hS.out.orow0 1 rfl) (hS.out.r 0 rfl);rw [AM.out]at he hro;have he1:=(Value.slice.inj he).1;exact⟨a8,c8,by rw [<-he];rfl,hro,fun g hg=>((hS.out.orow 1 rfl).lt g (by rw [he1,hg];rfl)).1,hS.out.be⟩
end
theorem cmpQ_neg {a b:Rat} :cmpQ a b < 0↔a < b:=by
 unfold cmpQ
 split
 ·rename_i e;exact⟨fun h=>by omega,fun h=>by rw [e]at h;exact absurd h (by grind)⟩
 ·split
  ·rename_i e;exact⟨fun _=>e,fun _=>by omega⟩
  ·rename_i e;exact⟨fun h=>by omega,fun h=>absurd h e⟩
theorem minQ_pick (m q:Rat):minQ m q=if cmpQ q m < 0 then q else m:=by
 unfold minQ;by_cases h:q < m
 ·rw [if_pos h,if_pos (cmpQ_neg.2 h)]
 ·rw [if_neg h,if_neg (fun e=>h (cmpQ_neg.1 e))]
theorem foldQ_bq {N:Nat} {qs:List Rat} (h:∀q∈qs,Bq N q) (h0:qs≠ []):Bq N (foldQ minQ qs):=by
 cases qs with
 | nil=>exact absurd rfl h0
 | cons q r=>exact foldl_bq minQ_or (h q (List.mem_cons_self ..)) (fun x hx=>h x (List.mem_cons_of_mem _ hx))
section
variable {w W W0:World} {bs:List (Nat×Array Value×TypeId)} {os:List Rw} {rs:List (World->Prop)}
theorem Sy.pRow (h:Sy w W0 bs os rs) (hb:Below W0.heap.size W0 W) (h1:(bs.all fun x=> !row64 x.2.2)=true) (h2:(os.all fun o=> !row64 o.e)=true) {a:OA} {n c:Nat} {qs:List Rat} (hr:RowR W (.slice a n c) qs) (hf:∀g,a=some ⟨g,0,none⟩->W0.heap.size<=g):
  Sy w W bs os (rs++ [fun V=>RowR V (.slice a n c) qs]):=
 (h.call hb).push fun V hV=>by
   obtain ⟨a',c',he,hrow⟩:=hr;obtain ⟨rfl,rfl,rfl⟩:=Value.slice.inj he;refine⟨a,c,rfl,fun k hk=>?_⟩;obtain ⟨g,s,m,s',h3,h4,h5,h6,h7,h8⟩:=hrow k hk;have hg:=hf g h3;have hno:g∉ownOf bs os:=fun hm=>by have:=(h.own_ge hm).2;omega
   have hc:∀j,V.cell? ⟨g,j,none⟩=W.cell? ⟨g,j,none⟩:=fun j=>World.cell?_of_block (a:=⟨g,j,none⟩) (hV.2 g h4 hno);exact⟨g,s,m,s',h3,Nat.lt_of_lt_of_le h4 hV.1,(hc _).trans h5,(hc _).trans h6,(hc _).trans h7,h8.keep64 ((h.call hb).away_keeps64 h1 h2 hV)⟩
end
def RetL (w:World) (q:Rat) (e:Ending) (w':World):Prop:=∃ (a5:OA) (n5 c5:Nat) (m5:Bool) (d5:OA) (e5 f5:Nat) (a6:OA) (n6 c6:Nat) (m6:Bool) (d6:OA) (e6 f6:Nat),e= .returned (.tuple #[.agg #[.slice a5 n5 c5,.bool m5,.slice d5 e5 f5],.agg #[.slice a6 n6 c6,.bool m6,.slice d6 e6 f6]])/\Rd w' (.slice a6 n6 c6) m6 (.slice d6 e6 f6) (q)/\Below w.heap.size w w'
section
variable (w:World)
theorem pbest_gap (a:OA) (c:Nat) (K:List Int) (a1:OA) (n1 c1:Nat) (a2:OA) (n2 c2:Nat) (F T:Int) (f:Int->Rat) (hrow:RowR w (.slice a K.length c) (K.map fun x:Int=>(x:Rat)))
  (hm:∀W,Below w.heap.size w W->∀x∈K,∀ (a7:OA) (n7 c7:Nat) (m7:Bool) (d7:OA) (e7 f7:Nat),Rd W (.slice a7 n7 c7) m7 (.slice d7 e7 f7) ((x:Rat))->Calls Tryz.prog 130 #[.agg #[.slice a1 n1 c1,.slice a2 n2 c2,.int .i64 F,.int .i64 T],.agg #[.slice a7 n7 c7,.bool m7,.slice d7 e7 f7]] W (RetR W (f x))) (hb:∀x∈K,Bq 145 (f x)) (h0:0 < K.length) (hn:K.length<=1000):
  Calls Tryz.prog 128 #[.slice a K.length c,.func (.func 130) #[.agg #[.slice a1 n1 c1,.slice a2 n2 c2,.int .i64 F,.int .i64 T]] #[]] w (RetL w (foldQ minQ (K.map f))):=by
 have HR:=ζ (fun V (hV:Below w.heap.size w V)=>hrow.mono hV);have HM:=ζ hm;have HB:=ζ hb;have hC:=ζ ((((((Sy.enter w).al w.heap.size zR 72 rfl).al (w.heap.size+1) zR 72 (by simp)).al (w.heap.size+1+1) zR 72 (by simp)).al (w.heap.size+1+1+1) zR 72 (by simp)));clear hrow hm hb;go_enter Tryz.func128,Tryz.ntmps128;go_upto_region 3 with fail
 obtain ⟨b4,hb4⟩:∃b,w.heap.size+1+1+1=b:=⟨_,rfl⟩
 obtain ⟨b3,hb3⟩:∃b,w.heap.size+1+1=b:=⟨_,rfl⟩
 obtain ⟨b2,hb2⟩:∃b,w.heap.size+1=b:=⟨_,rfl⟩
 obtain ⟨b1,hb1⟩:∃b,w.heap.size=b:=⟨_,rfl⟩
 rw [hb4,hb3,hb2,hb1]at hC⊢;refine wp_geny (show Sy w _ [(b1,zR,72),(b2,zR,72),(b3,zR,72),(b4,zR,72)] [] []from hC.out) ?_;intro V0 hc;have hD:=ζ (hc.pR rfl rfl (Rd.nil (w:=V0)));clear hc hC hb1 hb2 hb3 hb4;go_wp2;go_loopw [13] (fun iv wr=>∃ (k:Nat) (a5:OA) (n5 c5:Nat) (m5:Bool) (d5:OA) (e5 f5:Nat) (a6:OA) (n6 c6:Nat) (m6:Bool) (d6:OA) (e6 f6:Nat),k<=K.length/\iv= .int .i64 k/\Hid (Sy w wr [(b1,zR,72),(b2,zR,72),(b3,#[.slice a5 n5 c5,.bool m5,.slice d5 e5 f5],72),(b4,#[.slice a6 n6 c6,.bool m6,.slice d6 e6 f6],72)] [] [(fun V=>Rd V (.slice a6 n6 c6) m6 (.slice d6 e6 f6) (foldQ minQ ((K.take k).map f)))])) (fun iv _=>K.length - (intOf iv).toNat)
 case atStart=>exact⟨0,none,0,0,false,none,0,0,none,0,0,false,none,0,0,Nat.zero_le _,rfl,hD⟩
 case round=>
  clear hD;obtain ⟨k,a5,n5,c5,m5,d5,e5,f5,a6,n6,c6,m6,d6,e6,f6,hk,rfl,hS⟩:=hrel;have i0:(0:Int)<=(k:Int):=by omega
  by_cases hlt:k < K.length
  ·have i1:(k:Int) < (K.length:Int):=(by omega);obtain ⟨_,_,hv,hrow⟩:=HR.out wr hS.out.be;obtain ⟨rfl,-,rfl⟩:=Value.slice.inj hv;obtain ⟨g,s,m7,s',rfl,hg,x0,x1,x2,hq⟩:=hrow k (by rw [List.length_map];exact hlt);rw [List.getElem_map]at hq;obtain ⟨a7,n7,c7,rfl⟩:=Sl.slice hq.z.d;obtain ⟨d7,e7,f7,rfl⟩:=Sl.slice hq.d;have A6:=ζ (fun W hW=>HM.out W hW K[k] (List.getElem_mem hlt));have A7:=ζ (HB.out K[k] (List.getElem_mem hlt));have AT:=ζ (show(K.take (k+1)).map f=(K.take k).map f++ [f K[k]]by rw [List.take_succ_eq_append_getElem hlt,List.map_append];rfl);have Ad:=ζ (fun h:(K.take k).map f≠ []=>foldQ_bq (N:=145) (fun q hq=>by obtain ⟨x,hx,rfl⟩:=List.mem_map.1 hq;exact HB.out x (List.mem_of_mem_take hx)) h);have A8:=ζ (show(K.take k).map f= []↔k=0 by rw [List.map_eq_nil_iff,List.take_eq_nil_iff];exact⟨fun h=>h.resolve_right (fun e=>by rw [e]at hlt;simp at hlt),fun h=> .inl h⟩);generalize K[k]=x at*;have AU:=ζ ((hS.out.pR rfl rfl hq).al wr.heap.size #[.slice a7 n7 c7,.bool m7,.slice d7 e7 f7] 72 rfl);clear hq hrow hS hv;go_upto_region 6 with fail
   obtain ⟨b5,hb5⟩:∃b,wr.heap.size=b:=⟨_,rfl⟩
   rw [hb5]at AU⊢;refine wp_geny (show Sy w _ [(b1,zR,72),(b2,zR,72),(b3,#[.slice a5 n5 c5,.bool m5,.slice d5 e5 f5],72),(b4,#[.slice a6 n6 c6,.bool m6,.slice d6 e6 f6],72),(b5,#[.slice a7 n7 c7,.bool m7,.slice d7 e7 f7],72)] [] [(fun V=>Rd V (.slice a6 n6 c6) m6 (.slice d6 e6 f6) (foldQ minQ ((K.take k).map f))),(fun V=>Rd V (.slice a7 n7 c7) m7 (.slice d7 e7 f7) ((x:Rat)))]from AU.out) ?_;intro V1 hc;have hE:=ζ hc;clear hc AU hb5 x0 x1 x2 hg;have AV:=hE.out.c 4 0;have AW:=hE.out.c 4 1;have AX:=hE.out.c 4 2;have l4:=hE.out.lt 4 rfl;go_wp2_with fail
   refine(A6.out _ hE.out.be a7 n7 c7 m7 d7 e7 f7 (hE.out.r 1 rfl)).mono ?_;rintro e w3 ⟨a8,n8,c8,m8,d8,e8,f8,rfl,hz,hb⟩;have hF:=ζ (((hE.out.call hb).pR rfl rfl hz).al w3.heap.size #[.slice a8 n8 c8,.bool m8,.slice d8 e8 f8] 72 rfl);clear hb hz hE AV AW AX l4;go_upto_region 7 with fail
   obtain ⟨b6,hb6⟩:∃b,w3.heap.size=b:=⟨_,rfl⟩
   rw [hb6]at hF⊢;refine wp_geny (show Sy w _ [(b1,zR,72),(b2,zR,72),(b3,#[.slice a5 n5 c5,.bool m5,.slice d5 e5 f5],72),(b4,#[.slice a6 n6 c6,.bool m6,.slice d6 e6 f6],72),(b5,#[.slice a7 n7 c7,.bool m7,.slice d7 e7 f7],72),(b6,#[.slice a8 n8 c8,.bool m8,.slice d8 e8 f8],72)] [] [(fun V=>Rd V (.slice a6 n6 c6) m6 (.slice d6 e6 f6) (foldQ minQ ((K.take k).map f))),(fun V=>Rd V (.slice a7 n7 c7) m7 (.slice d7 e7 f7) ((x:Rat))),(fun V=>Rd V (.slice a8 n8 c8) m8 (.slice d8 e8 f8) (f x))]from hF.out) ?_;intro V2 hc;have hG:=ζ hc;clear hc hF hb6 A6;obtain ⟨q,hq⟩:∃q,foldQ minQ ((K.take k).map f)=q:=⟨_,rfl⟩
   have HQ:=ζ hq;rw [hq]at hG;obtain ⟨fx,hfx⟩:∃q,f x=q:=⟨_,rfl⟩
   rw [hfx]at hG AT A7;clear hq hfx;by_cases hk0:k=0
   ·subst hk0;have HN:=ζ (show foldQ minQ ((K.take (0+1)).map f)=fx by rw [AT.out,foldQ_snoc,if_pos (A8.out.2 rfl)]);go_upto_region 8 with fail
    have HSL:∀V ex os rs,Sy w V ([(b1,zR,72),(b2,zR,72),(b3,#[.slice a5 n5 c5,.bool m5,.slice d5 e5 f5],72),(b4,#[.slice a6 n6 c6,.bool m6,.slice d6 e6 f6],72),(b5,#[.slice a7 n7 c7,.bool m7,.slice d7 e7 f7],72),(b6,#[.slice a8 n8 c8,.bool m8,.slice d8 e8 f8],72)]++ex) os rs->(fun w'=>w'.cell? ⟨b5,0,none⟩=some (.slice a7 n7 c7)/\w'.cell? ⟨b5,1,none⟩=some (.bool m7)/\w'.cell? ⟨b5,2,none⟩=some (.slice d7 e7 f7)/\w'.cell? ⟨b6,0,none⟩=some (.slice a8 n8 c8)/\w'.cell? ⟨b6,1,none⟩=some (.bool m8)/\w'.cell? ⟨b6,2,none⟩=some (.slice d8 e8 f8)/\True) V:=fun V ex os rs hX=>⟨hX.c 4 0,hX.c 4 1,hX.c 4 2,hX.c 5 0,hX.c 5 1,hX.c 5 2,trivial⟩
    refine wp_region_held_drew (S:=(fun w'=>w'.cell? ⟨b5,0,none⟩=some (.slice a7 n7 c7)/\w'.cell? ⟨b5,1,none⟩=some (.bool m7)/\w'.cell? ⟨b5,2,none⟩=some (.slice d7 e7 f7)/\w'.cell? ⟨b6,0,none⟩=some (.slice a8 n8 c8)/\w'.cell? ⟨b6,1,none⟩=some (.bool m8)/\w'.cell? ⟨b6,2,none⟩=some (.slice d8 e8 f8)/\True)) (by kernel_rfl) ⟨hG.out.drew.c 4 0,hG.out.drew.c 4 1,hG.out.drew.c 4 2,hG.out.drew.c 5 0,hG.out.drew.c 5 1,hG.out.drew.c 5 2,trivial⟩ (fun hH=>?_);refine wpAnyH_geny (show Sy w _ [(b1,zR,72),(b2,zR,72),(b3,#[.slice a5 n5 c5,.bool m5,.slice d5 e5 f5],72),(b4,#[.slice a6 n6 c6,.bool m6,.slice d6 e6 f6],72),(b5,#[.slice a7 n7 c7,.bool m7,.slice d7 e7 f7],72),(b6,#[.slice a8 n8 c8,.bool m8,.slice d8 e8 f8],72)] [] [(fun V=>Rd V (.slice a6 n6 c6) m6 (.slice d6 e6 f6) (q)),(fun V=>Rd V (.slice a7 n7 c7) m7 (.slice d7 e7 f7) ((x:Rat))),(fun V=>Rd V (.slice a8 n8 c8) m8 (.slice d8 e8 f8) (fx))]from hG.out.drew) hH ?_;intro Af hc AH;have AA:=ζ hc;clear hc hH hG;refine tkA 0 rfl AH ?_;(try simp only [zP]);refine tkA 1 rfl AH ?_;(try simp only [zP]);refine rdy1 2 rfl (fun Kq AG=>?_);have cQ0:=AA.out.c 2 0;have fQ0:=AA.out.f 2 0;have cQ1:=AA.out.c 2 1;have fQ1:=AA.out.f 2 1;have cQ2:=AA.out.c 2 2;have fQ2:=AA.out.f 2 2;go_simp;refine stepZ AG (AA.out|>.set (j:=0) (v:= .slice a7 n7 c7) 2 rfl|>.set (j:=1) (v:= .bool m7) 2 rfl|>.set (j:=2) (v:= .slice d7 e7 f7) 2 rfl) (fun _ hX=>⟨hX.c 4 0,hX.c 4 1,hX.c 4 2,hX.c 5 0,hX.c 5 1,hX.c 5 2,trivial⟩) ?_;intro Ag AB AN;clear AG Kq AA cQ0 fQ0 cQ1 fQ1 cQ2 fQ2 AH;(try simp only [Act.put]);refine rdy1 3 rfl (fun Kq AG=>?_);have cQ0:=AB.out.c 3 0;have fQ0:=AB.out.f 3 0;have cQ1:=AB.out.c 3 1;have fQ1:=AB.out.f 3 1;have cQ2:=AB.out.c 3 2;have fQ2:=AB.out.f 3 2;go_simp;refine stepZ AG (AB.out|>.set (j:=0) (v:= .slice a8 n8 c8) 3 rfl|>.set (j:=1) (v:= .bool m8) 3 rfl|>.set (j:=2) (v:= .slice d8 e8 f8) 3 rfl) (fun _ hX=>⟨hX.c 4 0,hX.c 4 1,hX.c 4 2,hX.c 5 0,hX.c 5 1,hX.c 5 2,trivial⟩) ?_;intro AY AL AO;clear AG Kq AB cQ0 fQ0 cQ1 fQ1 cQ2 fQ2 AN;(try simp only [Act.put]);refine wpAnyH_done (by kernel_rfl) ?_ _;have hJ:Hid (Sy w AY [(b1,zR,72),(b2,zR,72),(b3,#[.slice a7 n7 c7,.bool m7,.slice d7 e7 f7],72),(b4,#[.slice a8 n8 c8,.bool m8,.slice d8 e8 f8],72)] [] [(fun V=>Rd V (.slice a8 n8 c8) m8 (.slice d8 e8 f8) (foldQ minQ ((K.take (0+1)).map f)))]):=ζ (by rw [HN.out];exact(AL.out.pick [2] rfl).thin (tkSub 4 _ rfl) (List.nil_sublist _));clear AL AO;go_wp2;go_roundw
    case rel=>exact⟨0+1,a7,n7,c7,m7,d7,e7,f7,a8,n8,c8,m8,d8,e8,f8,by omega,by go_num,hJ⟩
    case measure=>simp [intOf];omega
   ·have j0:¬ (k:Int)=0:=(by omega);have j1:((k:Int)==0)=false:=(by simp;omega);have A9:=ζ (show ¬ (K.take k).map f= []from fun e=>hk0 (A8.out.1 e));have Aj:=ζ (show Bq 145 q by rw [<-HQ.out];exact Ad.out A9.out);obtain ⟨v,hv⟩:∃v,cmpQ fx q=v:=⟨_,rfl⟩
    have HV:=ζ hv;have Ab:=ζ (show foldQ minQ ((K.take (k+1)).map f)=if v < 0 then fx else q by rw [AT.out,foldQ_snoc,if_neg A9.out,HQ.out,minQ_pick,hv]);clear hv;have AZ:=hG.out.c 3 0;have A0:=hG.out.c 3 1;have A1:=hG.out.c 3 2;have A2:=hG.out.c 5 0;have A3:=hG.out.c 5 1;have A4:=hG.out.c 5 2;go_wp2_with fail
    refine(hcmp_is (hG.out.r 2 rfl) (hG.out.r 0 rfl) A7.out Aj.out (by omega) (by omega) HV.out).mono ?_;rintro e w4 ⟨rfl,hb⟩;have AK:=ζ (hG.out.call hb);clear hb hG AZ A0 A1 A2 A3 A4;by_cases hv0:v < 0
    ·have HN:=ζ (show foldQ minQ ((K.take (k+1)).map f)=fx by rw [Ab.out,if_pos hv0]);go_upto_region 8 with fail
     have HSL:∀V ex os rs,Sy w V ([(b1,zR,72),(b2,zR,72),(b3,#[.slice a5 n5 c5,.bool m5,.slice d5 e5 f5],72),(b4,#[.slice a6 n6 c6,.bool m6,.slice d6 e6 f6],72),(b5,#[.slice a7 n7 c7,.bool m7,.slice d7 e7 f7],72),(b6,#[.slice a8 n8 c8,.bool m8,.slice d8 e8 f8],72)]++ex) os rs->(fun w'=>w'.cell? ⟨b5,0,none⟩=some (.slice a7 n7 c7)/\w'.cell? ⟨b5,1,none⟩=some (.bool m7)/\w'.cell? ⟨b5,2,none⟩=some (.slice d7 e7 f7)/\w'.cell? ⟨b6,0,none⟩=some (.slice a8 n8 c8)/\w'.cell? ⟨b6,1,none⟩=some (.bool m8)/\w'.cell? ⟨b6,2,none⟩=some (.slice d8 e8 f8)/\True) V:=fun V ex os rs hX=>⟨hX.c 4 0,hX.c 4 1,hX.c 4 2,hX.c 5 0,hX.c 5 1,hX.c 5 2,trivial⟩
     refine wp_region_held_drew (S:=(fun w'=>w'.cell? ⟨b5,0,none⟩=some (.slice a7 n7 c7)/\w'.cell? ⟨b5,1,none⟩=some (.bool m7)/\w'.cell? ⟨b5,2,none⟩=some (.slice d7 e7 f7)/\w'.cell? ⟨b6,0,none⟩=some (.slice a8 n8 c8)/\w'.cell? ⟨b6,1,none⟩=some (.bool m8)/\w'.cell? ⟨b6,2,none⟩=some (.slice d8 e8 f8)/\True)) (by kernel_rfl) ⟨AK.out.drew.c 4 0,AK.out.drew.c 4 1,AK.out.drew.c 4 2,AK.out.drew.c 5 0,AK.out.drew.c 5 1,AK.out.drew.c 5 2,trivial⟩ (fun hH=>?_);refine wpAnyH_geny (show Sy w _ [(b1,zR,72),(b2,zR,72),(b3,#[.slice a5 n5 c5,.bool m5,.slice d5 e5 f5],72),(b4,#[.slice a6 n6 c6,.bool m6,.slice d6 e6 f6],72),(b5,#[.slice a7 n7 c7,.bool m7,.slice d7 e7 f7],72),(b6,#[.slice a8 n8 c8,.bool m8,.slice d8 e8 f8],72)] [] [(fun V=>Rd V (.slice a6 n6 c6) m6 (.slice d6 e6 f6) (q)),(fun V=>Rd V (.slice a7 n7 c7) m7 (.slice d7 e7 f7) ((x:Rat))),(fun V=>Rd V (.slice a8 n8 c8) m8 (.slice d8 e8 f8) (fx))]from AK.out.drew) hH ?_;intro Ak hc AI;have AC:=ζ hc;clear hc hH AK;refine tkA 0 rfl AI ?_;(try simp only [zP]);refine tkA 1 rfl AI ?_;(try simp only [zP]);refine rdy1 2 rfl (fun Kq AG=>?_);have cQ0:=AC.out.c 2 0;have fQ0:=AC.out.f 2 0;have cQ1:=AC.out.c 2 1;have fQ1:=AC.out.f 2 1;have cQ2:=AC.out.c 2 2;have fQ2:=AC.out.f 2 2;go_simp;refine stepZ AG (AC.out|>.set (j:=0) (v:= .slice a7 n7 c7) 2 rfl|>.set (j:=1) (v:= .bool m7) 2 rfl|>.set (j:=2) (v:= .slice d7 e7 f7) 2 rfl) (fun _ hX=>⟨hX.c 4 0,hX.c 4 1,hX.c 4 2,hX.c 5 0,hX.c 5 1,hX.c 5 2,trivial⟩) ?_;intro Al AD AP;clear AG Kq AC cQ0 fQ0 cQ1 fQ1 cQ2 fQ2 AI;(try simp only [Act.put]);refine rdy1 3 rfl (fun Kq AG=>?_);have cQ0:=AD.out.c 3 0;have fQ0:=AD.out.f 3 0;have cQ1:=AD.out.c 3 1;have fQ1:=AD.out.f 3 1;have cQ2:=AD.out.c 3 2;have fQ2:=AD.out.f 3 2;go_simp;refine stepZ AG (AD.out|>.set (j:=0) (v:= .slice a8 n8 c8) 3 rfl|>.set (j:=1) (v:= .bool m8) 3 rfl|>.set (j:=2) (v:= .slice d8 e8 f8) 3 rfl) (fun _ hX=>⟨hX.c 4 0,hX.c 4 1,hX.c 4 2,hX.c 5 0,hX.c 5 1,hX.c 5 2,trivial⟩) ?_;intro A5 AM AQ;clear AG Kq AD cQ0 fQ0 cQ1 fQ1 cQ2 fQ2 AP;(try simp only [Act.put]);refine wpAnyH_done (by kernel_rfl) ?_ _;have hJ:Hid (Sy w A5 [(b1,zR,72),(b2,zR,72),(b3,#[.slice a7 n7 c7,.bool m7,.slice d7 e7 f7],72),(b4,#[.slice a8 n8 c8,.bool m8,.slice d8 e8 f8],72)] [] [(fun V=>Rd V (.slice a8 n8 c8) m8 (.slice d8 e8 f8) (foldQ minQ ((K.take (k+1)).map f)))]):=ζ (by rw [HN.out];exact(AM.out.pick [2] rfl).thin (tkSub 4 _ rfl) (List.nil_sublist _));clear AM AQ;go_wp2;go_roundw
     case rel=>exact⟨k+1,a7,n7,c7,m7,d7,e7,f7,a8,n8,c8,m8,d8,e8,f8,by omega,by go_num,hJ⟩
     case measure=>simp [intOf];omega
    ·have HN:=ζ (show foldQ minQ ((K.take (k+1)).map f)=q by rw [Ab.out,if_neg hv0]);go_wp2;go_roundw
     case rel=>exact⟨k+1,a5,n5,c5,m5,d5,e5,f5,a6,n6,c6,m6,d6,e6,f6,by omega,by go_num,ζ (by rw [HN.out];exact(AK.out.pick [0] rfl).thin (tkSub 4 _ rfl) (List.nil_sublist _))⟩
     case measure=>simp [intOf];omega
  ·obtain rfl:k=K.length:=by omega
   have i1:¬ (K.length:Int) < (K.length:Int):=(by omega);rw [List.take_length]at hS;go_upto_region 10 with fail
   have HSL:∀V ex os rs,Sy w V ([(b1,zR,72),(b2,zR,72),(b3,#[.slice a5 n5 c5,.bool m5,.slice d5 e5 f5],72),(b4,#[.slice a6 n6 c6,.bool m6,.slice d6 e6 f6],72)]++ex) os rs->(fun w'=>w'.cell? ⟨b3,0,none⟩=some (.slice a5 n5 c5)/\w'.cell? ⟨b3,1,none⟩=some (.bool m5)/\w'.cell? ⟨b3,2,none⟩=some (.slice d5 e5 f5)/\w'.cell? ⟨b4,0,none⟩=some (.slice a6 n6 c6)/\w'.cell? ⟨b4,1,none⟩=some (.bool m6)/\w'.cell? ⟨b4,2,none⟩=some (.slice d6 e6 f6)/\True) V:=fun V ex os rs hX=>⟨hX.c 2 0,hX.c 2 1,hX.c 2 2,hX.c 3 0,hX.c 3 1,hX.c 3 2,trivial⟩
   refine wp_region_held_drew (S:=(fun w'=>w'.cell? ⟨b3,0,none⟩=some (.slice a5 n5 c5)/\w'.cell? ⟨b3,1,none⟩=some (.bool m5)/\w'.cell? ⟨b3,2,none⟩=some (.slice d5 e5 f5)/\w'.cell? ⟨b4,0,none⟩=some (.slice a6 n6 c6)/\w'.cell? ⟨b4,1,none⟩=some (.bool m6)/\w'.cell? ⟨b4,2,none⟩=some (.slice d6 e6 f6)/\True)) (by kernel_rfl) ⟨hS.out.drew.c 2 0,hS.out.drew.c 2 1,hS.out.drew.c 2 2,hS.out.drew.c 3 0,hS.out.drew.c 3 1,hS.out.drew.c 3 2,trivial⟩ (fun hH=>?_);refine wpAnyH_geny (show Sy w _ [(b1,zR,72),(b2,zR,72),(b3,#[.slice a5 n5 c5,.bool m5,.slice d5 e5 f5],72),(b4,#[.slice a6 n6 c6,.bool m6,.slice d6 e6 f6],72)] [] [(fun V=>Rd V (.slice a6 n6 c6) m6 (.slice d6 e6 f6) (foldQ minQ (K.map f)))]from hS.out.drew) hH ?_;intro Am hc AJ;have AE:=ζ hc;clear hc hH hS;refine tkA 0 rfl AJ ?_;(try simp only [zP]);refine tkA 1 rfl AJ ?_;(try simp only [zP]);refine rdy1 2 rfl (fun Kq AG=>?_);have cQ0:=AE.out.c 0 0;have fQ0:=AE.out.f 0 0;have cQ1:=AE.out.c 0 1;have fQ1:=AE.out.f 0 1;have cQ2:=AE.out.c 0 2;have fQ2:=AE.out.f 0 2;go_simp;refine stepZ AG (AE.out|>.set (j:=0) (v:= .slice a5 n5 c5) 0 rfl|>.set (j:=1) (v:= .bool m5) 0 rfl|>.set (j:=2) (v:= .slice d5 e5 f5) 0 rfl) (fun _ hX=>⟨hX.c 2 0,hX.c 2 1,hX.c 2 2,hX.c 3 0,hX.c 3 1,hX.c 3 2,trivial⟩) ?_;intro An AF AR;clear AG Kq AE cQ0 fQ0 cQ1 fQ1 cQ2 fQ2 AJ;(try simp only [Act.put]);refine rdy1 3 rfl (fun Kq AG=>?_);have cQ0:=AF.out.c 1 0;have fQ0:=AF.out.f 1 0;have cQ1:=AF.out.c 1 1;have fQ1:=AF.out.f 1 1;have cQ2:=AF.out.c 1 2;have fQ2:=AF.out.f 1 2;go_simp;refine stepZ AG (AF.out|>.set (j:=0) (v:= .slice a6 n6 c6) 1 rfl|>.set (j:=1) (v:= .bool m6) 1 rfl|>.set (j:=2) (v:= .slice d6 e6 f6) 1 rfl) (fun _ hX=>⟨hX.c 2 0,hX.c 2 1,hX.c 2 2,hX.c 3 0,hX.c 3 1,hX.c 3 2,trivial⟩) ?_;intro Ap AS Ac;clear AG Kq AF cQ0 fQ0 cQ1 fQ1 cQ2 fQ2 AR;(try simp only [Act.put]);refine wpAnyH_done (by kernel_rfl) ?_ _;go_wp2;refine ret_sy AS.out (v:= .tuple #[.agg #[.slice a5 n5 c5,.bool m5,.slice d5 e5 f5],.agg #[.slice a6 n6 c6,.bool m6,.slice d6 e6 f6]]) (fun hF=>?_) rfl (fun hF=>⟨_,_,_,_,_,_,_,_,_,_,_,_,_,_,rfl,hF.r 0 rfl,hF.be⟩);have g0:=hF.c 0 0;have g1:=hF.c 0 1;have g2:=hF.c 0 2;have h0:=hF.c 1 0;have h1:=hF.c 1 1;have h2:=hF.c 1 2;simp [results,Tryz.results128,go_sem,g0,g1,g2,h0,h1,h2]
end
end Go.Proofs.YtjpojeapdgjbhaaGreatDoor

/- breaks and treads -/
/- feet and heads of a stretch -/
/- levels follow each other, for least and greatest (plain) -/
/- levels follow each other -/
/- levels of treads: feet and heads -/
/- levels of treads: the walk -/
import Derived.Test.YthmdhlopeponcaaGreatDoorJ0
import Derived.Test.YthmdhlopeponcaaGreatDoorJ26
import Derived.Test.YthmdhlopeponcaaGreatDoorJ17
import Derived.Test.YthmdhlopeponcaaGreatDoorJ5
namespace Go.Proofs.YthmdhlopeponcaaGreatDoor
open Go.RowKit Go.Shelf Dig
def bX (l:List Int) (i:Nat):Int:=l.getD i 0
theorem bX_at {l:List Int} {i:Nat} (h:i < l.length):bX l i=l[i]:=by unfold bX;rw [List.getD_eq_getElem?_getD,List.getElem?_eq_getElem h];rfl
def upI (l:List Int):Bool:=(List.range (l.length - 1)).all fun i=>decide (bX l i < bX l (i+1))
theorem upI_iff {l:List Int} :upI l=true↔∀i,i+1 < l.length→bX l i < bX l (i+1):=by
 unfold upI
 simp only [List.all_eq_true,List.mem_range,decide_eq_true_eq]
 exact⟨fun h i hi=>h i (by omega),fun h i hi=>h i (by omega)⟩
def brkB (l:List Pt) (bs:List Int):Bool:=profB l && (inB bs.length 2 61 && (upI bs && bs.all (hasB l)))
def tdC (v:Value) (ts:List (Int×Int)):List Value:=ts.flatMap fun t=>[v,.int .i64 t.1,.int .i64 t.2]
theorem tdC_snoc (v:Value) (ts:List (Int×Int)) (t:Int×Int):tdC v (ts++ [t])=tdC v ts++ [v,.int .i64 t.1,.int .i64 t.2]:=by
 unfold tdC;rw [List.flatMap_append,List.flatMap_cons,List.flatMap_nil,List.append_nil]
theorem nbr_len:∀l:List Int,(nbr l).length=l.length - 1
 | []=>rfl
 | [_]=>rfl
 | x::y::r=>by rw [show nbr (x::y::r)=(x,y)::nbr (y::r)from rfl,List.length_cons,nbr_len (y::r)];simp
theorem nbr_snoc:∀ (l:List Int) (x y:Int),nbr (l++ [x,y])=nbr (l++ [x])++ [(x,y)]
 | [],_,_=>rfl
 | [_],_,_=>rfl
 | z::u::r,x,y=>by
   show(z,u)::nbr ((u::r)++ [x,y])=(z,u)::nbr ((u::r)++ [x])++ [(x,y)]
   rw [nbr_snoc (u::r) x y];rfl
theorem nbr_take {l:List Int} {k:Nat} (h:k+1 < l.length):nbr (l.take (k+1+1))=nbr (l.take (k+1))++ [(l[k],l[k+1])]:=by
 have e1:l.take (k+1+1)=l.take k++ [l[k],l[k+1]]:=by
  rw [List.take_succ_eq_append_getElem h,List.take_succ_eq_append_getElem (show k < l.length by omega),List.append_assoc];rfl
 have e2:l.take (k+1)=l.take k++ [l[k]]:=List.take_succ_eq_append_getElem (show k < l.length by omega)
 rw [e1,e2]
 exact nbr_snoc _ _ _
theorem nbr_get:∀ {l:List Int} {i:Nat} (h:i+1 < l.length),(nbr l)[i]? =some (l[i],l[i+1])
 | x::y::r,0,_=>rfl
 | x::y::r,i+1,h=>by
   show(nbr (y::r))[i]? =_
   rw [nbr_get (l:=y::r) (by simpa using h)];rfl
def RetTr (ok:Bool) (w:World) (v:Value) (bs:List Int) (e:Ending) (w':World):Prop:=
 (ok=true∧∃a c,e= .returned (.tuple #[.slice a (bs.length - 1) c,.int .i64 0])∧w'.ownsRow w.heap.size 120 3 (.slice a (bs.length - 1) c) (bs.length - 1) (tdC v (nbr bs))∧Below w.heap.size w w')∨
 (ok=false∧e= .returned (.tuple #[.slice none 0 0,.int .i64 2])∧Below w.heap.size w w')
theorem und_stretches:Tryz.prog.underlying 123=some (.slice 120):=Tryz.underlying123
theorem info_stretch:(Tryz.prog.info? 120).map (fun i=>(i.zero,i.size,i.bytes))=some (some (.agg #[.slice none 0 0,.int .i64 0,.int .i64 0]),3,40):=by kernel_rfl
section
variable (w:World)
set_option maxHeartbeats 1000000 in
theorem treads1_any (x y:Int):Calls Tryz.prog 128 #[.int .i64 x,.int .i64 y] w (Gives (.bool (decide (x < y))) w):=by
 go_enter Tryz.func128,Tryz.ntmps128
 go_wp2
 go_ret
 exact⟨rfl,Below.refl _ _⟩
set_option maxHeartbeats 4000000 in
set_option maxRecDepth 100000 in
theorem risingI_any (a:Option Addr) (n c:Nat) (l:List Int) (hs:Sx 1 w a n c (L1 l)) (hn:n≤1000000):
  Calls Tryz.prog 127 #[.slice a n c,.func (.func 128) #[] #[]] w (Gives (.bool (upI l)) w):=by
 obtain rfl:=hs.n1
 have HS:=Lib.hid hs
 have HE:=Lib.hid (upI_iff (l:=l))
 clear hs
 generalize upI l=r at*
 go_enter Tryz.func127,Tryz.ntmps127
 go_wp2
 go_loopw [5] (fun iv wr=>∃k:Nat,1≤k∧(k≤l.length∨k=1)∧iv= .int .i64 k∧Hid (∀i,i+1 < k→bX l i < bX l (i+1))∧Hid (Sy w wr [] [] [])) (fun iv _=>l.length - (intOf iv).toNat)
 case atStart=>exact⟨1,by omega,.inr rfl,rfl,Lib.hid (fun i h=>by omega),Lib.hid (Sy.enter w)⟩
 case round=>
  obtain ⟨k,hk1,hk,rfl,HI,hC⟩:=hrel
  by_cases hlt:k < l.length
  ·obtain ⟨j,rfl⟩:∃j,k=j+1:=⟨k - 1,by omega⟩
   obtain ⟨g0,o0,rfl⟩:=HS.out.addr (by omega)
   have hj:j < l.length:=by omega
   have HA:=Lib.hid (fun W (hW:Below w.heap.size w W)=>(HS.out.below hW).at1 hj)
   have HB:=Lib.hid (fun W (hW:Below w.heap.size w W)=>(HS.out.below hW).at1 hlt)
   have HX:=Lib.hid (show bX l j=l[j]∧bX l (j+1)=l[j+1]from⟨bX_at hj,bX_at hlt⟩)
   have HK:=Lib.hid (fun W=>treads1_any W l[j] l[j+1])
   have HJ:=Lib.hid hlt
   generalize l[j]=p at*
   generalize l[j+1]=q at*
   obtain ⟨n1,hn1⟩:∃n1:Nat,n1=j+1:=⟨_,rfl⟩
   rw [←hn1]at HB
   have e0:(((j+1:Nat):Int))=(n1:Int):=by omega
   rw [e0]
   have i2:IntKind.i64.wrap ((n1:Int) - 1)=(j:Int):=by rw [IntWalk.i64_in _ (by omega)];omega
   have i0:(0:Int)≤(j:Int):=by omega
   have i1:(j:Int) < (l.length:Int):=by omega
   have i3:(0:Int)≤(n1:Int):=by omega
   have i4:(n1:Int) < (l.length:Int):=by omega
   have HN1:=Lib.hid hn1
   clear hn1 e0 hlt hk hk1 hj
   cases hp:decide (p < q)
   ·rw [hp]at HK
    have HR:=Lib.hid (show r=false from by
     cases r with
     | false=>rfl
     | true=>
       have:=(HE.out.1 rfl) j HJ.out
       rw [HX.out.1,HX.out.2]at this
       rw [decide_eq_true this]at hp;cases hp)
    clear hp HI HE
    go_upto_region 4 with fail
    refine wp_region_held_drew (S:=(fun w'=>w'.cell? ⟨g0,o0+j,none⟩=some (.int .i64 p)∧w'.cell? ⟨g0,o0+n1,none⟩=some (.int .i64 q)∧True)) (by kernel_rfl) ⟨(HA.out _ hC.out.drew.be),(HB.out _ hC.out.drew.be),trivial⟩ (fun hH=>?_)
    refine wpAnyH_geny (show Sy w _ [] [] []from hC.out.drew) hH ?_
    intro VA_0 hc hHA_0
    have hVA_0:=Lib.hid hc
    clear hc hH hC
    refine tkL 0 ?_ rfl hHA_0 ?_ ?_;rotate_left
    ·intro wS hSw;(try dsimp only at hSw);go_simp;try with_reducible rfl
    try simp only [Act.put,zI,z0,zS]
    refine tkL 1 ?_ rfl hHA_0 ?_ ?_;rotate_left
    ·intro wS hSw;(try dsimp only at hSw);go_simp;try with_reducible rfl
    try simp only [Act.put,zI,z0,zS]
    refine tkL 2 ?_ rfl hHA_0 ?_ ?_;rotate_left
    ·intro wS hSw;(try dsimp only at hSw);go_simp;try with_reducible rfl
    try simp only [Act.put,zI,z0,zS]
    refine tkL 3 ?_ rfl hHA_0 ?_ ?_;rotate_left
    ·intro wS hSw;(try dsimp only at hSw);go_simp;try with_reducible rfl
    try simp only [Act.put,zI,z0,zS]
    refine tkL 4 ?_ rfl hHA_0 ?_ ?_;rotate_left
    ·intro wS hSw;(try dsimp only at hSw);go_simp;try with_reducible rfl
    try simp only [Act.put,zI,z0,zS]
    refine tkL 5 ?_ rfl hHA_0 ?_ ?_;rotate_left
    ·intro wS hSw;(try dsimp only at hSw);go_simp;try with_reducible rfl
    try simp only [Act.put,zI,z0,zS]
    refine tkL 6 ?_ rfl hHA_0 ?_ ?_;rotate_left
    ·intro wS hSw;(try dsimp only at hSw);go_simp;try with_reducible rfl
    try simp only [Act.put,zI,z0,zS]
    refine tkL 7 ?_ rfl hHA_0 ?_ ?_;rotate_left
    ·intro wS hSw;(try dsimp only at hSw);go_simp;try with_reducible rfl
    try simp only [Act.put,zI,z0,zS]
    refine tkL 8 ?_ rfl hHA_0 ?_ ?_;rotate_left
    ·intro wS hSw;(try dsimp only at hSw);go_simp;try with_reducible rfl
    try simp only [Act.put,zI,z0,zS]
    refine tkL 9 ?_ rfl hHA_0 ?_ ?_;rotate_left
    ·intro wS hSw;(try dsimp only at hSw);go_simp;try with_reducible rfl
    try simp only [Act.put,zI,z0,zS]
    refine rdy1 10 rfl (fun Kq hKq=>?_)
    go_simp
    go_at_call 128
    refine(HK.out _).mono ?_
    rintro e wT ⟨rfl,hb⟩
    (try go_wp2_with fail)
    refine stepY hKq (show Sy w _ [] [] []from(hVA_0.out.call hb)) (fun _ hX=>⟨(HA.out _ hX.be),(HB.out _ hX.be),trivial⟩) ?_
    intro VA_1 hc hHA_1
    have hVA_1:=Lib.hid hc
    clear hc hKq Kq hVA_0 hb hHA_0
    try simp only [Act.put,zI,z0,zS]
    refine tkL 11 ?_ rfl hHA_1 ?_ ?_;rotate_left
    ·intro wS hSw;(try dsimp only at hSw);go_simp;try with_reducible rfl
    try simp only [Act.put,zI,z0,zS]
    refine wpAnyH_done (by kernel_rfl) ?_ _
    go_wp2
    go_ret
    exact⟨ret_bool HR.out.symm,hVA_1.out.be⟩
   ·rw [hp]at HK
    have HI2:=Lib.hid (show ∀i,i+1 < (j+1)+1→bX l i < bX l (i+1)from fun i hi=>by
     rcases Nat.lt_or_ge i j with h | h
     ·exact HI.out i (by omega)
     ·obtain rfl:i=j:=by omega
      rw [HX.out.1,HX.out.2];exact of_decide_eq_true hp)
    clear hp HI
    go_upto_region 4 with fail
    refine wp_region_held_drew (S:=(fun w'=>w'.cell? ⟨g0,o0+j,none⟩=some (.int .i64 p)∧w'.cell? ⟨g0,o0+n1,none⟩=some (.int .i64 q)∧True)) (by kernel_rfl) ⟨(HA.out _ hC.out.drew.be),(HB.out _ hC.out.drew.be),trivial⟩ (fun hH=>?_)
    refine wpAnyH_geny (show Sy w _ [] [] []from hC.out.drew) hH ?_
    intro VB_0 hc hHB_0
    have hVB_0:=Lib.hid hc
    clear hc hH hC
    refine tkL 0 ?_ rfl hHB_0 ?_ ?_;rotate_left
    ·intro wS hSw;(try dsimp only at hSw);go_simp;try with_reducible rfl
    try simp only [Act.put,zI,z0,zS]
    refine tkL 1 ?_ rfl hHB_0 ?_ ?_;rotate_left
    ·intro wS hSw;(try dsimp only at hSw);go_simp;try with_reducible rfl
    try simp only [Act.put,zI,z0,zS]
    refine tkL 2 ?_ rfl hHB_0 ?_ ?_;rotate_left
    ·intro wS hSw;(try dsimp only at hSw);go_simp;try with_reducible rfl
    try simp only [Act.put,zI,z0,zS]
    refine tkL 3 ?_ rfl hHB_0 ?_ ?_;rotate_left
    ·intro wS hSw;(try dsimp only at hSw);go_simp;try with_reducible rfl
    try simp only [Act.put,zI,z0,zS]
    refine tkL 4 ?_ rfl hHB_0 ?_ ?_;rotate_left
    ·intro wS hSw;(try dsimp only at hSw);go_simp;try with_reducible rfl
    try simp only [Act.put,zI,z0,zS]
    refine tkL 5 ?_ rfl hHB_0 ?_ ?_;rotate_left
    ·intro wS hSw;(try dsimp only at hSw);go_simp;try with_reducible rfl
    try simp only [Act.put,zI,z0,zS]
    refine tkL 6 ?_ rfl hHB_0 ?_ ?_;rotate_left
    ·intro wS hSw;(try dsimp only at hSw);go_simp;try with_reducible rfl
    try simp only [Act.put,zI,z0,zS]
    refine tkL 7 ?_ rfl hHB_0 ?_ ?_;rotate_left
    ·intro wS hSw;(try dsimp only at hSw);go_simp;try with_reducible rfl
    try simp only [Act.put,zI,z0,zS]
    refine tkL 8 ?_ rfl hHB_0 ?_ ?_;rotate_left
    ·intro wS hSw;(try dsimp only at hSw);go_simp;try with_reducible rfl
    try simp only [Act.put,zI,z0,zS]
    refine tkL 9 ?_ rfl hHB_0 ?_ ?_;rotate_left
    ·intro wS hSw;(try dsimp only at hSw);go_simp;try with_reducible rfl
    try simp only [Act.put,zI,z0,zS]
    refine rdy1 10 rfl (fun Kq hKq=>?_)
    go_simp
    go_at_call 128
    refine(HK.out _).mono ?_
    rintro e wT ⟨rfl,hb⟩
    (try go_wp2_with fail)
    refine stepY hKq (show Sy w _ [] [] []from(hVB_0.out.call hb)) (fun _ hX=>⟨(HA.out _ hX.be),(HB.out _ hX.be),trivial⟩) ?_
    intro VB_1 hc hHB_1
    have hVB_1:=Lib.hid hc
    clear hc hKq Kq hVB_0 hb hHB_0
    try simp only [Act.put,zI,z0,zS]
    refine tkL 11 ?_ rfl hHB_1 ?_ ?_;rotate_left
    ·intro wS hSw;(try dsimp only at hSw);go_simp;try with_reducible rfl
    try simp only [Act.put,zI,z0,zS]
    refine wpAnyH_done (by kernel_rfl) ?_ _
    go_wp2
    go_roundw
    case rel=>exact⟨(j+1)+1,by omega,.inl (by have:=HJ.out;omega),by have:=HN1.out;subst this;go_num,HI2,hVB_1⟩
    case measure=>have:=HN1.out;have:=HJ.out;simp [intOf];omega
  ·have HR:=Lib.hid (show r=true from HE.out.2 fun i hi=>HI.out i (by omega))
   go_wp2
   go_ret
   exact⟨ret_bool HR.out.symm,hC.out.be⟩
set_option maxHeartbeats 8000000 in
set_option maxRecDepth 100000 in
theorem treads_any (sa:Option Addr) (sn sc:Nat) (l:List Pt) (hs:Sx 2 w sa sn sc (L2 l)) (ba:Option Addr) (bn bc:Nat) (bs:List Int) (hb:Sx 1 w ba bn bc (L1 bs)):
  Calls Tryz.prog 68 #[.slice sa sn sc,.slice ba bn bc] w (RetTr (brkB l bs) w (.slice sa sn sc) bs):=by
 obtain rfl:=hb.n1
 have hcap:=hb.cap
 unfold maxLen at hcap
 have HC:=Lib.hid (fun W (hW:Below w.heap.size w W)=>hcheck_any W sa sn sc l (hs.below hW))
 have HU:=Lib.hid (fun W (hW:Below w.heap.size w W) hn=>risingI_any W ba bs.length bc bs (hb.below hW) hn)
 have HK:=Lib.hid (show brkB l bs=(profB l && (inB bs.length 2 61 && (upI bs && bs.all (hasB l))))from rfl)
 have HH:=Lib.hid (fun(hp:profB l=true) W (hW:Below w.heap.size w W) x=>has_any W sa sn sc l x (hs.below hW) (by have:=hs.n2;have:=(prof_iff.1 hp).two;omega))
 have HB:=Lib.hid hb
 have HPE:=Lib.hid (show profErr l=if profB l=true then 0 else 2 from rfl)
 generalize profErr l=pe at*
 generalize brkB l bs=ok at*
 generalize profB l=pb at*
 clear hs hb
 have hC:=Lib.hid (Sy.enter w)
 cases pb
 ·have HF:=Lib.hid (show ok=false by rw [HK.out];rfl)
  have HPE2:=HPE.out
  rw [if_neg (by decide)]at HPE2
  subst HPE2
  clear HK HH HPE HU HB
  go_enter Tryz.func68,Tryz.ntmps68
  go_wp2_with fail
  refine(HC.out _ hC.out.be).mono ?_
  rintro e w1 ⟨rfl,h1⟩
  have hD:=Lib.hid (hC.out.call h1)
  clear h1 hC HC
  go_wp2
  go_ret2
  exact .inr ⟨HF.out,rfl,hD.out.be⟩
 have HPE2:=HPE.out
 rw [if_pos rfl]at HPE2
 subst HPE2
 have HH2:=Lib.hid (HH.out rfl)
 clear HH HPE
 cases h1:inB bs.length 2 61
 ·have HF:=Lib.hid (show ok=false by rw [HK.out,h1];rfl)
  clear HK HH2 HU HB
  go_enter Tryz.func68,Tryz.ntmps68
  go_wp2_with fail
  refine(HC.out _ hC.out.be).mono ?_
  rintro e w1 ⟨rfl,h2⟩
  have hD:=Lib.hid (hC.out.call h2)
  clear h2 hC HC
  go_wp2_with ((with_reducible refine(hwithin_any _ _ _ _).mono ?_);rintro e w2 ⟨rfl,rfl⟩)
  go_ret2
  exact .inr ⟨HF.out,rfl,hD.out.be⟩
 have hln:=inB_iff.1 h1
 cases h2:upI bs
 ·have HF:=Lib.hid (show ok=false by rw [HK.out,h2];simp)
  rw [h2]at HU
  clear HK HH2 HB h2
  go_enter Tryz.func68,Tryz.ntmps68
  go_wp2_with fail
  refine(HC.out _ hC.out.be).mono ?_
  rintro e w1 ⟨rfl,h2⟩
  have hD:=Lib.hid (hC.out.call h2)
  clear h2 hC HC
  go_wp2_with ((with_reducible refine(hwithin_any _ _ _ _).mono ?_);rintro e w2 ⟨rfl,rfl⟩)
  refine(HU.out _ hD.out.be (by omega)).mono ?_
  rintro e w2 ⟨rfl,h2⟩
  have hE:=Lib.hid (hD.out.call h2)
  clear h2 hD HU
  go_wp2
  go_ret2
  exact .inr ⟨HF.out,rfl,hE.out.be⟩
 have HO:=Lib.hid (show ok=bs.all (hasB l)by rw [HK.out,h1,h2];rfl)
 rw [h2]at HU
 clear HK h2
 go_enter Tryz.func68,Tryz.ntmps68
 go_wp2_with fail
 refine(HC.out _ hC.out.be).mono ?_
 rintro e w1 ⟨rfl,h2⟩
 have hD:=Lib.hid (hC.out.call h2)
 clear h2 hC HC
 go_wp2_with ((with_reducible refine(hwithin_any _ _ _ _).mono ?_);rintro e w2 ⟨rfl,rfl⟩)
 refine(HU.out _ hD.out.be (by omega)).mono ?_
 rintro e w2 ⟨rfl,h2⟩
 have hE:=Lib.hid ((hD.out.call h2).onil 120 3)
 clear h2 hD HU h1
 go_wp2
 obtain ⟨g0,o0,rfl⟩:=HB.out.addr (by omega)
 go_loopw [25,6] (fun iv sv wr=>∃k:Nat,∃a c,k≤bs.length∧iv= .int .i64 k∧sv= .slice a (k - 1) c∧Hid (∀i (hi:i < k),hasB l (bX bs i)=true)∧Hid (Sy w wr [] [⟨.slice a (k - 1) c,120,3,k - 1,tdC (.slice sa sn sc) (nbr (bs.take k))⟩] [])) (fun iv _ _=>bs.length - (intOf iv).toNat)
 case atStart=>exact⟨0,none,0,Nat.zero_le _,rfl,rfl,Lib.hid (fun i hi=>absurd hi (Nat.not_lt_zero _)),hE⟩
 case round=>
  clear hE
  obtain ⟨k,a,c,hk,rfl,rfl,HI,hS⟩:=hrel
  by_cases hkl:k < bs.length
  ·have i0:(0:Int)≤(k:Int):=by omega
   have i1:(k:Int) < (bs.length:Int):=by omega
   have c0:=(HB.out.below hS.out.be).at1 hkl
   have HX:=Lib.hid (bX_at hkl)
   have HQ:=Lib.hid (HH2.out _ hS.out.be bs[k])
   have HG:=Lib.hid (show bs[k]=bX bs k from(bX_at hkl).symm)
   cases hh:hasB l bs[k]
   ·have HF:=Lib.hid (show ok=false from by
     rw [HO.out,List.all_eq_false]
     exact⟨_,List.getElem_mem hkl,by rw [hh];decide⟩)
    rw [hh]at HQ
    generalize bs[k]=b at*
    clear hh HG HX HO HI
    go_wp2_with fail
    refine HQ.out.mono ?_
    rintro e w3 ⟨rfl,h3⟩
    have hT:=Lib.hid (hS.out.call h3)
    clear h3 hS c0
    go_wp2
    go_ret2
    exact .inr ⟨HF.out,rfl,hT.out.be⟩
   ·have HI2:=Lib.hid (show ∀i,i < k+1→hasB l (bX bs i)=true from fun i hi=>by
     rcases Nat.lt_or_ge i k with h | h
     ·exact HI.out i h
     ·obtain rfl:i=k:=by omega
      rw [HX.out];exact hh)
    rw [hh]at HQ
    rcases Nat.eq_zero_or_pos k with hk0 | hk0
    ·subst hk0
     generalize bs[0]=b at*
     rw [Nat.add_zero]at c0
     clear hh HG HX HI
     go_wp2_with fail
     refine HQ.out.mono ?_
     rintro e w3 ⟨rfl,h3⟩
     have hT:=Lib.hid (hS.out.call h3)
     clear h3 hS c0
     go_wp2
     go_roundw
     case rel=>exact⟨1,a,c,by omega,rfl,rfl,HI2,Lib.hid (by
      have:=hT.out
      have e:tdC (.slice sa sn sc) (nbr (bs.take 1))=tdC (.slice sa sn sc) (nbr (bs.take 0)):=by
       rw [List.take_zero,show bs.take 1= [bs[0]]from by rw [List.take_succ_eq_append_getElem (by omega)];rfl];rfl
      rw [e];exact this)⟩
     case measure=>simp [intOf];omega
    ·obtain ⟨j,rfl⟩:∃j,k=j+1:=⟨k - 1,by omega⟩
     have HT:=Lib.hid (show tdC (.slice sa sn sc) (nbr (bs.take (j+1+1)))=tdC (.slice sa sn sc) (nbr (bs.take (j+1)))++ [.slice sa sn sc,.int .i64 bs[j],.int .i64 bs[j+1]]from by rw [nbr_take hkl,tdC_snoc])
     have HA:=Lib.hid (fun W (hW:Below w.heap.size w W)=>(HB.out.below hW).at1 (show j < bs.length by omega))
     generalize bs[j+1]=b at*
     generalize bs[j]=b' at*
     obtain ⟨n1,hn1⟩:∃n1:Nat,n1=j+1:=⟨_,rfl⟩
     rw [←hn1]at c0 HI2 HT i0 i1 hk hS
     rw [←hn1]
     have i2:IntKind.i64.wrap ((n1:Int) - 1)=(j:Int):=by rw [IntWalk.i64_in _ (by omega)];omega
     have i3:(0:Int)≤(j:Int):=by omega
     have i4:(j:Int) < (bs.length:Int):=by omega
     have i5:(0:Int) < (n1:Int):=by omega
     have HN1:=Lib.hid hn1
     clear hh HG HX HI hkl hn1
     go_wp2_with fail
     refine HQ.out.mono ?_
     rintro e w3 ⟨rfl,h3⟩
     have hT:=Lib.hid (hS.out.call h3)
     clear h3 hS c0
     have c1:=HA.out _ hT.out.be
     go_wp2_with (refine wpList_append_sy (o:=⟨some 46,_,_,_,_,_⟩) rfl (hT.out.onew w3.heap.size #[.slice sa sn sc,.int .i64 b',.int .i64 b] 120 3 1 rfl (by omega) rfl) 0 1 rfl rfl _ _ _ rfl und_stretches info_stretch rfl (by omega) rfl rfl (by intro u hu;simp at hu;rcases hu with rfl | rfl | rfl<;>rfl) (by omega) (by omega) ?_;intro a3 c3 V3 hV3;have hJ:=Lib.hid hV3;clear hV3 hT c1)
     have hK:=Lib.hid (hJ.out.thin (bs':=[]) (List.Sublist.refl _) (List.Sublist.cons_cons _ (List.nil_sublist _)))
     clear hJ
     go_roundw
     case rel=>exact⟨n1+1,a3,c3,by omega,by go_num,by have:=HN1.out;congr 1;omega,HI2,by
      have e:n1 - 1+1=n1+1 - 1:=by have:=HN1.out;omega
      rw [HT.out,←e];exact hK⟩
     case measure=>simp [intOf];omega
  ·obtain rfl:k=bs.length:=by omega
   have HF:=Lib.hid (show ok=true from by
    rw [HO.out,List.all_eq_true]
    intro x hx
    obtain ⟨i,hi,rfl⟩:=List.getElem_of_mem hx
    rw [←bX_at hi];exact HI.out i hi)
   have HTS:=Lib.hid (show nbr (bs.take bs.length)=nbr bs from by rw [List.take_length])
   go_wp2
   go_ret2
   refine .inl ⟨HF.out,a,c,rfl,?_,hS.out.be⟩
   have:=hS.out.orow 0 rfl
   rwa [HTS.out]at this
end
end Go.Proofs.YthmdhlopeponcaaGreatDoor
namespace Go.Proofs.YthmdhlopeponcaaGreatDoor
open Go.RowKit Go.Shelf Dig
theorem ceil_neg (q:Rat): -((-q).floor)=q.ceil:=by
 have h:∀k:Int,-((-q).floor)≤k↔q.ceil≤k:=fun k=>by
  rw [Rat.ceil_le_iff,show(-((-q).floor)≤k)↔(-k≤(-q).floor)from by omega,Rat.le_floor_iff,Rat.intCast_neg]
  constructor<;>intro h<;>grind
 exact Int.le_antisymm ((h _).2 (Int.le_refl _)) ((h _).1 (Int.le_refl _))
section
variable (w:World)
set_option maxHeartbeats 4000000 in
set_option maxRecDepth 100000 in
theorem small_any (a:Option Addr) (n c:Nat) (m:Bool) (z:Int) (h:Zd w (.slice a n c) m z) (hz: -1000000≤z∧z≤1000000):Calls Tryz.prog 122 #[.agg #[.slice a n c,.bool m]] w (Gives (.int .i64 z) w):=by
 have hC:=Lib.hid (((Sy.enter w).pZ rfl rfl h).al w.heap.size #[.slice a n c,.bool m] 40 rfl)
 have HB:=Lib.hid (show Bd 20 z by unfold Bd;omega)
 have HR:=Lib.hid (show i64res z=(z,true)from by unfold i64res;rw [if_pos (by omega)])
 clear h hz
 go_enter Tryz.func122,Tryz.ntmps122
 go_wp2_with fail
 refine(int64_any _ _ _ _ z _ (hC.out.r 0 rfl) 20 HB.out (by omega)).mono ?_
 rintro e w1 ⟨rfl,hb⟩
 rw [HR.out]
 have hD:=Lib.hid (hC.out.call hb)
 clear hb hC
 go_wp2
 go_ret
 exact⟨rfl,hD.out.be⟩
theorem rceil_b {w:World} {a1:Option Addr} {n1 c1:Nat} {m1:Bool} {d1:Option Addr} {e1 f1:Nat} {q1:Rat} {k1:Nat} (h1:Rd w (.slice a1 n1 c1) m1 (.slice d1 e1 f1) q1) (b1:Bq k1 q1) (hk1:k1≤40000):
  Calls Tryz.prog 123 #[.agg #[.slice a1 n1 c1,.bool m1,.slice d1 e1 f1]] w (RetZ w q1.ceil):=by
 rw [←ceil_neg];exact rceil_any _ _ _ _ _ _ _ _ _ h1 k1 b1 hk1
set_option maxHeartbeats 8000000 in
set_option maxRecDepth 100000 in
theorem foot_any (sa:Option Addr) (sn sc:Nat) (l:List Pt) (a b d:Int) (hT:Strt l a b) (hd: -100000≤d∧d≤100000) (hs:Sx 2 w sa sn sc (L2 l)):Calls Tryz.prog 61 #[.agg #[.slice sa sn sc,.int .i64 a,.int .i64 b],.int .i64 d] w (Gives (.int .i64 (footI l a b d)) w):=by
 have HB:=Lib.hid (fun W (hW:Below w.heap.size w W)=>callsIn_wide.1 (hbounds_in W 4 (Nat.le_refl _) sa sn sc l a b hT (hs.below hW)))
 have HG:=Lib.hid hT.lo_gd.bq
 have HF:=Lib.hid hT.lo_gd.floor
 have HI:=Lib.hid (show footI l a b d=(loQ l a b).floor - d from rfl)
 rw [HI.out]
 have hC:=Lib.hid ((Sy.enter w).al w.heap.size #[.slice sa sn sc,.int .i64 a,.int .i64 b] 120 rfl)
 generalize loQ l a b=lo at*
 generalize hiQ l a b=hi at*
 generalize hz:Rat.floor lo=z at*
 have HZ:=Lib.hid hz
 have hf:=HF.out
 have w1:IntKind.i64.wrap (z - d)=z - d:=IntWalk.i64_in _ (by omega)
 clear hs hT HI hz
 go_enter Tryz.func61,Tryz.ntmps61
 have k0:=hC.out.cell 0 0 rfl rfl
 have k1:=hC.out.cell 0 1 rfl rfl
 have k2:=hC.out.cell 0 2 rfl rfl
 go_wp2_with fail
 refine(HB.out _ hC.out.be).mono ?_
 rintro e w2 ⟨a5,n5,c5,m5,d5,e5,f5,a6,n6,c6,m6,d6,e6,f6,rfl,hz1,hz2,hb⟩
 have hD:=Lib.hid ((((hC.out.call hb).pR rfl rfl hz1).pR rfl rfl hz2).al w2.heap.size #[.slice a5 n5 c5,.bool m5,.slice d5 e5 f5] 42 rfl|>.al (w2.heap.size+1) #[.slice a6 n6 c6,.bool m6,.slice d6 e6 f6] 42 (by simp))
 clear hb hz1 hz2 hC k0 k1 k2
 go_upto_region 2 with fail
 refine wp_geny hD.out ?_
 intro V1 hc
 have hG:=Lib.hid hc
 clear hc hD
 generalize w2.heap.size=bb at*
 have k0:=hG.out.cell 1 0 rfl rfl
 have k1:=hG.out.cell 1 1 rfl rfl
 have k2:=hG.out.cell 1 2 rfl rfl
 go_wp2_with fail
 refine(rfloor_b (hG.out.r 0 rfl) HG.out (by omega)).mono ?_
 rintro e w3 ⟨a7,n7,c7,m7,rfl,hz,hb⟩
 rw [HZ.out]at hz
 have hH:=Lib.hid ((hG.out.call hb).pZ rfl rfl hz)
 clear hb hz hG k0 k1 k2
 go_wp2_with fail
 refine(small_any _ _ _ _ _ _ (hH.out.r 2 rfl) (by omega)).mono ?_
 rintro e w4 ⟨rfl,hb⟩
 have hI:=Lib.hid (hH.out.call hb)
 clear hb hH
 go_wp2
 go_ret
 exact⟨rfl,hI.out.be⟩
set_option maxHeartbeats 8000000 in
set_option maxRecDepth 100000 in
theorem head_any (sa:Option Addr) (sn sc:Nat) (l:List Pt) (a b d:Int) (hT:Strt l a b) (hd: -100000≤d∧d≤100000) (hs:Sx 2 w sa sn sc (L2 l)):Calls Tryz.prog 63 #[.agg #[.slice sa sn sc,.int .i64 a,.int .i64 b],.int .i64 d] w (Gives (.int .i64 (headI l a b d)) w):=by
 have HB:=Lib.hid (fun W (hW:Below w.heap.size w W)=>callsIn_wide.1 (hbounds_in W 4 (Nat.le_refl _) sa sn sc l a b hT (hs.below hW)))
 have HG:=Lib.hid hT.hi_gd.bq
 have HF:=Lib.hid hT.hi_gd.ceil
 have HI:=Lib.hid (show headI l a b d=(hiQ l a b).ceil+d from rfl)
 rw [HI.out]
 have hC:=Lib.hid ((Sy.enter w).al w.heap.size #[.slice sa sn sc,.int .i64 a,.int .i64 b] 120 rfl)
 generalize loQ l a b=lo at*
 generalize hiQ l a b=hi at*
 generalize hz:Rat.ceil hi=z at*
 have HZ:=Lib.hid hz
 have hf:=HF.out
 have w1:IntKind.i64.wrap (z+d)=z+d:=IntWalk.i64_in _ (by omega)
 clear hs hT HI hz
 go_enter Tryz.func63,Tryz.ntmps63
 have k0:=hC.out.cell 0 0 rfl rfl
 have k1:=hC.out.cell 0 1 rfl rfl
 have k2:=hC.out.cell 0 2 rfl rfl
 go_wp2_with fail
 refine(HB.out _ hC.out.be).mono ?_
 rintro e w2 ⟨a5,n5,c5,m5,d5,e5,f5,a6,n6,c6,m6,d6,e6,f6,rfl,hz1,hz2,hb⟩
 have hD:=Lib.hid ((((hC.out.call hb).pR rfl rfl hz1).pR rfl rfl hz2).al w2.heap.size #[.slice a5 n5 c5,.bool m5,.slice d5 e5 f5] 42 rfl|>.al (w2.heap.size+1) #[.slice a6 n6 c6,.bool m6,.slice d6 e6 f6] 42 (by simp))
 clear hb hz1 hz2 hC k0 k1 k2
 go_upto_region 2 with fail
 refine wp_geny hD.out ?_
 intro V1 hc
 have hG:=Lib.hid hc
 clear hc hD
 generalize w2.heap.size=bb at*
 have k0:=hG.out.cell 2 0 rfl rfl
 have k1:=hG.out.cell 2 1 rfl rfl
 have k2:=hG.out.cell 2 2 rfl rfl
 go_wp2_with fail
 refine(rceil_b (hG.out.r 1 rfl) HG.out (by omega)).mono ?_
 rintro e w3 ⟨a7,n7,c7,m7,rfl,hz,hb⟩
 rw [HZ.out]at hz
 have hH:=Lib.hid ((hG.out.call hb).pZ rfl rfl hz)
 clear hb hz hG k0 k1 k2
 go_wp2_with fail
 refine(small_any _ _ _ _ _ _ (hH.out.r 2 rfl) (by omega)).mono ?_
 rintro e w4 ⟨rfl,hb⟩
 have hI:=Lib.hid (hH.out.call hb)
 clear hb hH
 go_wp2
 go_ret
 exact⟨rfl,hI.out.be⟩
end
end Go.Proofs.YthmdhlopeponcaaGreatDoor
namespace Go.Proofs.YthmdhlopeponcaaGreatDoor
open Go.RowKit Go.Shelf Dig
def fwG (op:Int→Int→Int) (l:Nat→Int) (s:Int):Nat→Int
 | 0=>l 0
 | i+1=>op (l (i+1)) (fwG op l s i+s)
def bkG (op:Int→Int→Int) (l:Nat→Int) (s:Int) (n:Nat):Nat→Int
 | 0=>fwG op l s (n - 1)
 | i+1=>op (fwG op l s (n - 1 - (i+1))) (bkG op l s n i+s)
def folL (op:Int→Int→Int) (s:Int) (l:List Int):List Int:=(List.range l.length).map fun i=>bkG op (bX l) s l.length (l.length - 1 - i)
theorem folL_len (op:Int→Int→Int) (s:Int) (l:List Int):(folL op s l).length=l.length:=by unfold folL;rw [List.length_map,List.length_range]
theorem folL_at {op:Int→Int→Int} {s:Int} {l:List Int} {i:Nat} (h:i < l.length):bX (folL op s l) i=bkG op (bX l) s l.length (l.length - 1 - i):=by
 rw [bX_at (by rw [folL_len];exact h)];unfold folL;rw [List.getElem_map,List.getElem_range]
theorem bX_set {L:List Int} {k i:Nat} {v:Int} (hk:k < L.length):bX (L.set k v) i=if i=k then v else bX L i:=by
 unfold bX
 rw [List.getD_eq_getElem?_getD,List.getD_eq_getElem?_getD,List.getElem?_set]
 split
 ·rename_i h;subst h;rw [if_pos rfl];simp
 ·rename_i h;rw [if_neg (fun e=>h e.symm)]
theorem bX_ext {L K:List Int} (h:L.length=K.length) (he:∀i,i < L.length→bX L i=bX K i):L=K:=by
 refine List.ext_getElem h fun i h1 h2=>?_
 have:=he i h1
 rwa [bX_at h1,bX_at h2]at this
variable {op:Int→Int→Int} {l L:List Int} {s:Int}
theorem fol_step1 {k:Nat} (hl:L.length=l.length) (hk:k+1 < l.length) (h:∀i,i < l.length→bX L i=if i < k+1 then fwG op (bX l) s i else bX l i) {x y:Int} (hx:bX L (k+1)=x) (hy:bX L k=y):
  ∀i,i < l.length→bX (L.set (k+1) (op x (y+s))) i=if i < k+1+1 then fwG op (bX l) s i else bX l i:=fun i hi=>by
 rw [bX_set (by omega)]
 rw [h _ hk,if_neg (by omega)]at hx
 rw [h _ (by omega),if_pos (by omega)]at hy
 split
 ·rename_i e;subst e;rw [if_pos (by omega),←hx,←hy];rfl
 ·rename_i e
  rw [h i hi]
  by_cases e1:i < k+1
  ·rw [if_pos e1,if_pos (by omega)]
  ·rw [if_neg e1,if_neg (by omega)]
theorem fol_step2 {m:Nat} (hl:L.length=l.length) (hm:m+1 < l.length) (h:∀i,i < l.length→bX L i=if m+1≤i then bkG op (bX l) s l.length (l.length - 1 - i)else fwG op (bX l) s i) {x y:Int} (hx:bX L m=x) (hy:bX L (m+1)=y):
  ∀i,i < l.length→bX (L.set m (op x (y+s))) i=if m≤i then bkG op (bX l) s l.length (l.length - 1 - i)else fwG op (bX l) s i:=fun i hi=>by
 rw [bX_set (by omega)]
 rw [h _ (by omega),if_neg (by omega)]at hx
 rw [h _ hm,if_pos (Nat.le_refl _)]at hy
 split
 ·rename_i e
  subst e
  rw [if_pos (Nat.le_refl _),←hx,←hy,show l.length - 1 - i=(l.length - 1 - (i+1))+1 by omega]
  show _=op (fwG op (bX l) s (l.length - 1 - (l.length - 1 - (i+1)+1))) _
  rw [show l.length - 1 - (l.length - 1 - (i+1)+1)=i by omega]
 ·rename_i e
  rw [h i hi]
  by_cases e1:m+1≤i
  ·rw [if_pos e1,if_pos (by omega)]
  ·rw [if_neg e1,if_neg (by omega)]
def Picks (op:Int→Int→Int):Prop:=∀x y,op x y=x∨op x y=y
theorem fwG_bd (ho:Picks op) {f:Nat→Int} (hf:∀i,-200000≤f i∧f i≤200000) (hs: -3000≤s∧s≤3000):∀i:Nat,-200000 - 3000*(i:Int)≤fwG op f s i∧fwG op f s i≤200000+3000*(i:Int)
 | 0=>by have:=hf 0;unfold fwG;omega
 | i+1=>by
   have h1:=hf (i+1)
   have h2:=fwG_bd ho hf hs i
   unfold fwG
   rcases ho (f (i+1)) (fwG op f s i+s)with e | e<;>rw [e]<;>omega
theorem bkG_bd (ho:Picks op) {f:Nat→Int} (hf:∀i,-200000≤f i∧f i≤200000) (hs: -3000≤s∧s≤3000) {n:Nat} (hn:n≤100):∀i:Nat,-500000 - 3000*(i:Int)≤bkG op f s n i∧bkG op f s n i≤500000+3000*(i:Int)
 | 0=>by have:=fwG_bd ho hf hs (n - 1);unfold bkG;omega
 | i+1=>by
   have h1:=fwG_bd ho hf hs (n - 1 - (i+1))
   have h2:=bkG_bd ho hf hs hn i
   unfold bkG
   rcases ho (fwG op f s (n - 1 - (i+1))) (bkG op f s n i+s)with e | e<;>rw [e]<;>omega
theorem fol_bd {m:Nat} (ho:Picks op) (hf:∀i,-200000≤bX l i∧bX l i≤200000) (hs: -3000≤s∧s≤3000) (hn:l.length≤100) (h:∀i,i < l.length→bX L i=if m≤i then bkG op (bX l) s l.length (l.length - 1 - i)else fwG op (bX l) s i) {i:Nat} (hi:i < l.length): -1000000≤bX L i∧bX L i≤1000000:=by
 rw [h i hi]
 have h1:=bkG_bd ho hf hs hn (l.length - 1 - i)
 have h2:=fwG_bd ho hf hs i
 split<;>omega
theorem fol_bd1 {k:Nat} (ho:Picks op) (hf:∀i,-200000≤bX l i∧bX l i≤200000) (hs: -3000≤s∧s≤3000) (hn:l.length≤100) (h:∀i,i < l.length→bX L i=if i < k then fwG op (bX l) s i else bX l i) {i:Nat} (hi:i < l.length): -1000000≤bX L i∧bX L i≤1000000:=by
 rw [h i hi]
 have h1:=hf i
 have h2:=fwG_bd ho hf hs i
 split<;>omega
theorem fwG_min (f:Nat→Int) (s:Int):∀i,fwG min f s i=fw f s i
 | 0=>rfl
 | i+1=>by unfold fwG fw;rw [fwG_min f s i]
theorem bkG_min (f:Nat→Int) (s:Int) (n:Nat):∀i,bkG min f s n i=bk f s n i
 | 0=>fwG_min f s _
 | i+1=>by unfold bkG bk;rw [bkG_min f s n i,fwG_min]
theorem fwG_max (f:Nat→Int) (s:Int):∀i,fwG max f (-s) i= -fw (fun j=> -f j) s i
 | 0=>by unfold fwG fw;omega
 | i+1=>by unfold fwG fw;rw [fwG_max f s i];omega
theorem bkG_max (f:Nat→Int) (s:Int) (n:Nat):∀i,bkG max f (-s) n i= -bk (fun j=> -f j) s n i
 | 0=>fwG_max f s _
 | i+1=>by unfold bkG bk;rw [bkG_max f s n i,fwG_max];omega
end Go.Proofs.YthmdhlopeponcaaGreatDoor
namespace Go.Proofs.YthmdhlopeponcaaGreatDoor
open Go.RowKit Go.Shelf Dig
theorem L1_set (L:List Int) (k:Nat) (v:Int):(L1 L).set k (.int .i64 v)=L1 (L.set k v):=by unfold L1;rw [List.map_set]
def PickC (op:Int→Int→Int) (g:Nat) (cb:Array Value):Prop:=Picks op∧∀ (W:World) (x y:Int),Calls Tryz.prog g (#[.int .i64 x,.int .i64 y]++cb) W (Gives (.int .i64 (op x y)) W)
section
variable (w W:World)
set_option maxHeartbeats 8000000 in
set_option maxRecDepth 100000 in
theorem follow_any (g c:Nat) (l:List Int) (s:Int) (op:Int→Int→Int) (pk:Nat) (hp:PickC op pk #[]) (eg:EG pk) (hn0:0 < l.length) (hn:l.length≤100) (_hcap:l.length≤c∧c≤maxLen) (hf:∀i,-200000≤bX l i∧bX l i≤200000) (hs: -3000≤s∧s≤3000)
  (hS:Sy w W [] [⟨.slice (some ⟨g,0,none⟩) l.length c,3,1,l.length,L1 l⟩] []):
  Calls Tryz.prog 121 #[.slice (some ⟨g,0,none⟩) l.length c,.int .i64 s,.func (.func pk) #[] #[]] W
   (fun e w'=>e= .returned (.slice (some ⟨g,0,none⟩) l.length c)∧Sy w w' [] [⟨.slice (some ⟨g,0,none⟩) l.length c,3,1,l.length,L1 (folL op s l)⟩] []):=by
 have HF:=Lib.hid hf
 have HP:=Lib.hid hp
 have hC:=Lib.hid hS
 unfold maxLen at _hcap
 clear hf hp hS
 go_enter Tryz.func121,Tryz.ntmps121
 go_wp2
 go_loopw [7] (fun iv wr=>∃ (k:Nat) (L:List Int),k+1≤l.length∧L.length=l.length∧iv= .int .i64 ((k+1:Nat):Int)∧Hid (∀i,i < l.length→bX L i=if i < k+1 then fwG op (bX l) s i else bX l i)∧Hid (Sy w wr [] [⟨.slice (some ⟨g,0,none⟩) l.length c,3,1,l.length,L1 L⟩] [])) (fun iv _=>l.length - (intOf iv).toNat)
 case atStart=>exact⟨0,l,by omega,rfl,rfl,Lib.hid (fun i hi=>by
  split
  ·obtain rfl:i=0:=by omega
   rfl
  ·rfl),hC⟩
 case round=>
  clear hC
  obtain ⟨k,L,hk,hL,rfl,HV,hS⟩:=hrel
  by_cases hlt:k+1 < l.length
  ·have HX:=Lib.hid (show(L1 L)[k+1]? =some (.int .i64 (bX L (k+1)))from by rw [bX_at (by omega)];exact L1_get L (k+1) (by omega))
   have HY:=Lib.hid (show(L1 L)[k]? =some (.int .i64 (bX L k))from by rw [bX_at (by omega)];exact L1_get L k (by omega))
   have hb:=fol_bd1 HP.out.1 HF.out hs hn HV.out (show k < l.length by omega)
   have HST:=Lib.hid (fun x y (hx:bX L (k+1)=x) (hy:bX L k=y)=>fol_step1 hL hlt HV.out hx hy)
   have HST2:=Lib.hid (HST.out _ _ rfl rfl)
   clear HST HV
   generalize bX L (k+1)=x at*
   generalize bX L k=y at*
   have HKC:=Lib.hid (fun V=>HP.out.2 V x (y+s))
   have HSE:=Lib.hid (L1_set L (k+1) (op x (y+s)))
   generalize op x (y+s)=v at*
   have w1:IntKind.i64.wrap (y+s)=y+s:=IntWalk.i64_in _ (by omega)
   obtain ⟨n1,hn1⟩:∃n1:Nat,n1=k+1:=⟨_,rfl⟩
   rw [←hn1]at HX HST2 HSE hlt⊢
   have i2:IntKind.i64.wrap ((n1:Int) - 1)=(k:Int):=by rw [IntWalk.i64_in _ (by omega)];omega
   have i0:(0:Int)≤(k:Int):=by omega
   have i1:(k:Int) < (l.length:Int):=by omega
   have i3:(0:Int)≤(n1:Int):=by omega
   have i4:(n1:Int) < (l.length:Int):=by omega
   have HN1:=Lib.hid hn1
   clear hn1 hk
   go_upto_region 4 with fail
   refine wp_region_held_drew (S:=(fun w'=>True)) (by kernel_rfl) trivial (fun hH=>?_)
   refine wpAnyH_geny (show Sy w _ [] [⟨.slice (some ⟨g,0,none⟩) l.length c,3,1,l.length,L1 L⟩] []from hS.out.drew) hH ?_
   intro VA_0 hc hHA_0
   have hVA_0:=Lib.hid hc
   clear hc hH hS
   refine tkL 0 ?_ rfl hHA_0 ?_ ?_;rotate_left
   ·intro wS hSw;(try dsimp only at hSw);go_simp;try with_reducible rfl
   try simp only [Act.put,zI,z0,zS]
   refine tkL 1 ?_ rfl hHA_0 ?_ ?_;rotate_left
   ·intro wS hSw;(try dsimp only at hSw);go_simp;try with_reducible rfl
   try simp only [Act.put,zI,z0,zS]
   refine tkL 2 ?_ rfl hHA_0 ?_ ?_;rotate_left
   ·intro wS hSw;(try dsimp only at hSw);go_simp;try with_reducible rfl
   try simp only [Act.put,zI,z0,zS]
   refine tkL 3 ?_ rfl hHA_0 ?_ ?_;rotate_left
   ·intro wS hSw;(try dsimp only at hSw);go_simp;try with_reducible rfl
   try simp only [Act.put,zI,z0,zS]
   refine tkL 4 ?_ rfl hHA_0 ?_ ?_;rotate_left
   ·intro wS hSw;(try dsimp only at hSw);go_simp;try with_reducible rfl
   try simp only [Act.put,zI,z0,zS]
   refine tkL 5 ?_ rfl hHA_0 ?_ ?_;rotate_left
   ·intro wS hSw;(try dsimp only at hSw);go_simp;try with_reducible rfl
   try simp only [Act.put,zI,z0,zS]
   refine tkL 7 ?_ rfl hHA_0 ?_ ?_;rotate_left
   ·intro wS hSw;(try dsimp only at hSw);go_simp;try with_reducible rfl
   try simp only [Act.put,zI,z0,zS]
   refine tkL 8 ?_ rfl hHA_0 ?_ ?_;rotate_left
   ·intro wS hSw;(try dsimp only at hSw);go_simp;try with_reducible rfl
   try simp only [Act.put,zI,z0,zS]
   refine tkL 9 ?_ rfl hHA_0 ?_ ?_;rotate_left
   ·intro wS hSw;(try dsimp only at hSw);go_simp;try with_reducible rfl
   try simp only [Act.put,zI,z0,zS]
   refine tkL 10 ?_ rfl hHA_0 ?_ ?_;rotate_left
   ·intro wS hSw;(try dsimp only at hSw);go_simp;try with_reducible rfl
   try simp only [Act.put,zI,z0,zS]
   refine tkL 12 ?_ rfl hHA_0 ?_ ?_;rotate_left
   ·intro wS hSw;(try dsimp only at hSw);go_simp;try with_reducible rfl
   try simp only [Act.put,zI,z0,zS]
   refine wpAnyH_ready (rs:=[6,11]) (by kernel_rfl) (by simp) ?_
   refine AllReadyH.cons (o:=⟨_,_,_,_,_,_⟩) rfl (fun Kq hKq=>?_) ?_
   ·have cQ0:=hVA_0.out.rcell 0 rfl HX.out
    go_simp
    refine stepY hKq (show Sy w _ [] [⟨.slice (some ⟨g,0,none⟩) l.length c,3,1,l.length,L1 L⟩] []from hVA_0.out) (fun _ hX=>trivial) ?_
    intro VA_1 hc hHA_1
    have hVA_1:=Lib.hid hc
    clear hc hKq Kq hVA_0 cQ0 hHA_0
    try simp only [Act.put,zI,z0,zS]
    refine rdy1 11 rfl (fun Kq hKq=>?_)
    have cQ0:=hVA_1.out.rcell 0 rfl HY.out
    go_simp
    refine stepY hKq (show Sy w _ [] [⟨.slice (some ⟨g,0,none⟩) l.length c,3,1,l.length,L1 L⟩] []from hVA_1.out) (fun _ hX=>trivial) ?_
    intro VA_2 hc hHA_2
    have hVA_2:=Lib.hid hc
    clear hc hKq Kq hVA_1 cQ0 hHA_1
    try simp only [Act.put,zI,z0,zS]
    refine tkL 13 ?_ rfl hHA_2 ?_ ?_;rotate_left
    ·intro wS hSw;(try dsimp only at hSw);go_simp;try with_reducible rfl
    try simp only [Act.put,zI,z0,zS]
    refine rdy1 14 rfl (fun Kq hKq=>?_)
    go_simp
    refine(HKC.out _).mono ?_
    rintro e wT ⟨rfl,hb⟩
    (try go_wp2_with fail)
    refine stepY hKq (show Sy w _ [] [⟨.slice (some ⟨g,0,none⟩) l.length c,3,1,l.length,L1 L⟩] []from(hVA_2.out.call hb)) (fun _ hX=>trivial) ?_
    intro VA_3 hc hHA_3
    have hVA_3:=Lib.hid hc
    clear hc hKq Kq hVA_2 hb hHA_2
    try simp only [Act.put,zI,z0,zS]
    refine tkL 15 ?_ rfl hHA_3 ?_ ?_;rotate_left
    ·intro wS hSw;(try dsimp only at hSw);go_simp;try with_reducible rfl
    try simp only [Act.put,zI,z0,zS]
    refine rdy1 16 rfl (fun Kq hKq=>?_)
    have cQ0:=hVA_3.out.rcell 0 rfl HX.out
    have fQ0:=hVA_3.out.rfree 0 rfl n1
    go_simp
    refine stepY hKq (show Sy w _ [] [⟨.slice (some ⟨g,0,none⟩) l.length c,3,1,l.length,(L1 L).set n1 (.int .i64 v)⟩] []from(hVA_3.out.ostore 0 rfl n1 (.int .i64 v))) (fun _ hX=>trivial) ?_
    intro VA_4 hc hHA_4
    have hVA_4:=Lib.hid hc
    clear hc hKq Kq hVA_3 cQ0 fQ0 hHA_3
    try simp only [Act.put]
    refine wpAnyH_done (by kernel_rfl) ?_ _
    have hJ:=Lib.hid hVA_4.out
    rw [HSE.out]at hJ
    go_wp2
    go_roundw
    case rel=>exact⟨n1,L.set n1 v,by have:=HN1.out;omega,by rw [List.length_set];exact hL,by go_num,HST2,hJ⟩
    case measure=>simp [intOf];omega
   refine AllReadyH.cons (o:=⟨_,_,_,_,_,_⟩) rfl (fun Kq hKq=>?_) ?_
   ·have cQ0:=hVA_0.out.rcell 0 rfl HY.out
    go_simp
    refine stepY hKq (show Sy w _ [] [⟨.slice (some ⟨g,0,none⟩) l.length c,3,1,l.length,L1 L⟩] []from hVA_0.out) (fun _ hX=>trivial) ?_
    intro VA_1 hc hHA_1
    have hVA_1:=Lib.hid hc
    clear hc hKq Kq hVA_0 cQ0 hHA_0
    try simp only [Act.put,zI,z0,zS]
    refine tkL 13 ?_ rfl hHA_1 ?_ ?_;rotate_left
    ·intro wS hSw;(try dsimp only at hSw);go_simp;try with_reducible rfl
    try simp only [Act.put,zI,z0,zS]
    refine rdy1 6 rfl (fun Kq hKq=>?_)
    have cQ0:=hVA_1.out.rcell 0 rfl HX.out
    go_simp
    refine stepY hKq (show Sy w _ [] [⟨.slice (some ⟨g,0,none⟩) l.length c,3,1,l.length,L1 L⟩] []from hVA_1.out) (fun _ hX=>trivial) ?_
    intro VA_2 hc hHA_2
    have hVA_2:=Lib.hid hc
    clear hc hKq Kq hVA_1 cQ0 hHA_1
    try simp only [Act.put,zI,z0,zS]
    refine rdy1 14 rfl (fun Kq hKq=>?_)
    go_simp
    refine(HKC.out _).mono ?_
    rintro e wT ⟨rfl,hb⟩
    (try go_wp2_with fail)
    refine stepY hKq (show Sy w _ [] [⟨.slice (some ⟨g,0,none⟩) l.length c,3,1,l.length,L1 L⟩] []from(hVA_2.out.call hb)) (fun _ hX=>trivial) ?_
    intro VA_3 hc hHA_3
    have hVA_3:=Lib.hid hc
    clear hc hKq Kq hVA_2 hb hHA_2
    try simp only [Act.put,zI,z0,zS]
    refine tkL 15 ?_ rfl hHA_3 ?_ ?_;rotate_left
    ·intro wS hSw;(try dsimp only at hSw);go_simp;try with_reducible rfl
    try simp only [Act.put,zI,z0,zS]
    refine rdy1 16 rfl (fun Kq hKq=>?_)
    have cQ0:=hVA_3.out.rcell 0 rfl HX.out
    have fQ0:=hVA_3.out.rfree 0 rfl n1
    go_simp
    refine stepY hKq (show Sy w _ [] [⟨.slice (some ⟨g,0,none⟩) l.length c,3,1,l.length,(L1 L).set n1 (.int .i64 v)⟩] []from(hVA_3.out.ostore 0 rfl n1 (.int .i64 v))) (fun _ hX=>trivial) ?_
    intro VA_4 hc hHA_4
    have hVA_4:=Lib.hid hc
    clear hc hKq Kq hVA_3 cQ0 fQ0 hHA_3
    try simp only [Act.put]
    refine wpAnyH_done (by kernel_rfl) ?_ _
    have hJ:=Lib.hid hVA_4.out
    rw [HSE.out]at hJ
    go_wp2
    go_roundw
    case rel=>exact⟨n1,L.set n1 v,by have:=HN1.out;omega,by rw [List.length_set];exact hL,by go_num,HST2,hJ⟩
    case measure=>simp [intOf];omega
   exact AllReadyH.nil
  ·have hkl:k+1=l.length:=by omega
   rw [hkl]at HV⊢
   clear hlt hkl
   have HV2:=Lib.hid (show ∀i,i < l.length→bX L i=if l.length - 1≤i then bkG op (bX l) s l.length (l.length - 1 - i)else fwG op (bX l) s i from fun i hi=>by
    rw [HV.out i hi,if_pos (by omega)]
    split
    ·obtain rfl:i=l.length - 1:=by omega
     rw [Nat.sub_self];rfl
    ·rfl)
   have j0:IntKind.i64.wrap ((l.length:Int) - 2)=(l.length:Int) - 2:=IntWalk.i64_in _ (by omega)
   clear HV hk
   go_wp2
   go_loopw [8] (fun iv wr=>∃ (m:Nat) (L:List Int),m+1≤l.length∧L.length=l.length∧iv= .int .i64 ((m:Int) - 1)∧Hid (∀i,i < l.length→bX L i=if m≤i then bkG op (bX l) s l.length (l.length - 1 - i)else fwG op (bX l) s i)∧Hid (Sy w wr [] [⟨.slice (some ⟨g,0,none⟩) l.length c,3,1,l.length,L1 L⟩] [])) (fun iv _=>(intOf iv+1).toNat)
   case atStart=>exact⟨l.length - 1,L,by omega,hL,by congr 1;omega,HV2,hS⟩
   case round=>
    clear hS HV2 hL L j0
    obtain ⟨m',L,hm,hL,rfl,HV,hS⟩:=hrel
    rcases Nat.eq_zero_or_pos m' with hm0 | hm0
    ·subst hm0
     have HL:=Lib.hid (show L=folL op s l from bX_ext (by rw [hL,folL_len]) fun i hi=>by rw [HV.out i (by omega),if_pos (Nat.zero_le _),folL_at (by omega)])
     go_wp2
     go_ret
     refine⟨rfl,?_⟩
     rw [←HL.out];exact hS.out
    ·obtain ⟨m,rfl⟩:∃m,m'=m+1:=⟨m' - 1,by omega⟩
     have e0:(((m+1:Nat):Int)) - 1=(m:Int):=by omega
     rw [e0]
     have HX:=Lib.hid (show(L1 L)[m]? =some (.int .i64 (bX L m))from by rw [bX_at (by omega)];exact L1_get L m (by omega))
     have HY:=Lib.hid (show(L1 L)[m+1]? =some (.int .i64 (bX L (m+1)))from by rw [bX_at (by omega)];exact L1_get L (m+1) (by omega))
     have hb:=fol_bd HP.out.1 HF.out hs hn HV.out (show m+1 < l.length by omega)
     have HST2:=Lib.hid (fol_step2 hL (by omega) HV.out (m:=m) rfl rfl)
     clear HV e0
     generalize bX L (m+1)=y at*
     generalize bX L m=x at*
     have HKC:=Lib.hid (fun V=>HP.out.2 V x (y+s))
     have HSE:=Lib.hid (L1_set L m (op x (y+s)))
     generalize op x (y+s)=v at*
     have w1:IntKind.i64.wrap (y+s)=y+s:=IntWalk.i64_in _ (by omega)
     have HMI:=Lib.hid hm
     obtain ⟨n1,hn1⟩:∃n1:Nat,n1=m+1:=⟨_,rfl⟩
     rw [←hn1]at HY hm
     have i2:IntKind.i64.wrap ((m:Int)+1)=(n1:Int):=by rw [IntWalk.i64_in _ (by omega)];omega
     have i5:IntKind.i64.wrap ((m:Int) - 1)=(m:Int) - 1:=IntWalk.i64_in _ (by omega)
     have i0:(0:Int)≤(m:Int):=by omega
     have i1:(m:Int) < (l.length:Int):=by omega
     have i3:(0:Int)≤(n1:Int):=by omega
     have i4:(n1:Int) < (l.length:Int):=by omega
     clear hn1 hm hm0
     go_upto_region 8 with fail
     refine wp_region_held_drew (S:=(fun w'=>True)) (by kernel_rfl) trivial (fun hH=>?_)
     refine wpAnyH_geny (show Sy w _ [] [⟨.slice (some ⟨g,0,none⟩) l.length c,3,1,l.length,L1 L⟩] []from hS.out.drew) hH ?_
     intro VB_0 hc hHB_0
     have hVB_0:=Lib.hid hc
     clear hc hH hS
     refine tkL 0 ?_ rfl hHB_0 ?_ ?_;rotate_left
     ·intro wS hSw;(try dsimp only at hSw);go_simp;try with_reducible rfl
     try simp only [Act.put,zI,z0,zS]
     refine tkL 1 ?_ rfl hHB_0 ?_ ?_;rotate_left
     ·intro wS hSw;(try dsimp only at hSw);go_simp;try with_reducible rfl
     try simp only [Act.put,zI,z0,zS]
     refine tkL 2 ?_ rfl hHB_0 ?_ ?_;rotate_left
     ·intro wS hSw;(try dsimp only at hSw);go_simp;try with_reducible rfl
     try simp only [Act.put,zI,z0,zS]
     refine tkL 3 ?_ rfl hHB_0 ?_ ?_;rotate_left
     ·intro wS hSw;(try dsimp only at hSw);go_simp;try with_reducible rfl
     try simp only [Act.put,zI,z0,zS]
     refine tkL 4 ?_ rfl hHB_0 ?_ ?_;rotate_left
     ·intro wS hSw;(try dsimp only at hSw);go_simp;try with_reducible rfl
     try simp only [Act.put,zI,z0,zS]
     refine tkL 5 ?_ rfl hHB_0 ?_ ?_;rotate_left
     ·intro wS hSw;(try dsimp only at hSw);go_simp;try with_reducible rfl
     try simp only [Act.put,zI,z0,zS]
     refine tkL 7 ?_ rfl hHB_0 ?_ ?_;rotate_left
     ·intro wS hSw;(try dsimp only at hSw);go_simp;try with_reducible rfl
     try simp only [Act.put,zI,z0,zS]
     refine tkL 8 ?_ rfl hHB_0 ?_ ?_;rotate_left
     ·intro wS hSw;(try dsimp only at hSw);go_simp;try with_reducible rfl
     try simp only [Act.put,zI,z0,zS]
     refine tkL 9 ?_ rfl hHB_0 ?_ ?_;rotate_left
     ·intro wS hSw;(try dsimp only at hSw);go_simp;try with_reducible rfl
     try simp only [Act.put,zI,z0,zS]
     refine tkL 10 ?_ rfl hHB_0 ?_ ?_;rotate_left
     ·intro wS hSw;(try dsimp only at hSw);go_simp;try with_reducible rfl
     try simp only [Act.put,zI,z0,zS]
     refine tkL 12 ?_ rfl hHB_0 ?_ ?_;rotate_left
     ·intro wS hSw;(try dsimp only at hSw);go_simp;try with_reducible rfl
     try simp only [Act.put,zI,z0,zS]
     refine wpAnyH_ready (rs:=[6,11]) (by kernel_rfl) (by simp) ?_
     refine AllReadyH.cons (o:=⟨_,_,_,_,_,_⟩) rfl (fun Kq hKq=>?_) ?_
     ·have cQ0:=hVB_0.out.rcell 0 rfl HX.out
      go_simp
      refine stepY hKq (show Sy w _ [] [⟨.slice (some ⟨g,0,none⟩) l.length c,3,1,l.length,L1 L⟩] []from hVB_0.out) (fun _ hX=>trivial) ?_
      intro VB_1 hc hHB_1
      have hVB_1:=Lib.hid hc
      clear hc hKq Kq hVB_0 cQ0 hHB_0
      try simp only [Act.put,zI,z0,zS]
      refine rdy1 11 rfl (fun Kq hKq=>?_)
      have cQ0:=hVB_1.out.rcell 0 rfl HY.out
      go_simp
      refine stepY hKq (show Sy w _ [] [⟨.slice (some ⟨g,0,none⟩) l.length c,3,1,l.length,L1 L⟩] []from hVB_1.out) (fun _ hX=>trivial) ?_
      intro VB_2 hc hHB_2
      have hVB_2:=Lib.hid hc
      clear hc hKq Kq hVB_1 cQ0 hHB_1
      try simp only [Act.put,zI,z0,zS]
      refine tkL 13 ?_ rfl hHB_2 ?_ ?_;rotate_left
      ·intro wS hSw;(try dsimp only at hSw);go_simp;try with_reducible rfl
      try simp only [Act.put,zI,z0,zS]
      refine rdy1 14 rfl (fun Kq hKq=>?_)
      go_simp
      refine(HKC.out _).mono ?_
      rintro e wT ⟨rfl,hb⟩
      (try go_wp2_with fail)
      refine stepY hKq (show Sy w _ [] [⟨.slice (some ⟨g,0,none⟩) l.length c,3,1,l.length,L1 L⟩] []from(hVB_2.out.call hb)) (fun _ hX=>trivial) ?_
      intro VB_3 hc hHB_3
      have hVB_3:=Lib.hid hc
      clear hc hKq Kq hVB_2 hb hHB_2
      try simp only [Act.put,zI,z0,zS]
      refine tkL 15 ?_ rfl hHB_3 ?_ ?_;rotate_left
      ·intro wS hSw;(try dsimp only at hSw);go_simp;try with_reducible rfl
      try simp only [Act.put,zI,z0,zS]
      refine rdy1 16 rfl (fun Kq hKq=>?_)
      have cQ0:=hVB_3.out.rcell 0 rfl HX.out
      have fQ0:=hVB_3.out.rfree 0 rfl m
      go_simp
      refine stepY hKq (show Sy w _ [] [⟨.slice (some ⟨g,0,none⟩) l.length c,3,1,l.length,(L1 L).set m (.int .i64 v)⟩] []from(hVB_3.out.ostore 0 rfl m (.int .i64 v))) (fun _ hX=>trivial) ?_
      intro VB_4 hc hHB_4
      have hVB_4:=Lib.hid hc
      clear hc hKq Kq hVB_3 cQ0 fQ0 hHB_3
      try simp only [Act.put]
      refine wpAnyH_done (by kernel_rfl) ?_ _
      have hJ:=Lib.hid hVB_4.out
      rw [HSE.out]at hJ
      go_wp2
      go_roundw
      case rel=>exact⟨m,L.set m v,by have:=HMI.out;omega,by rw [List.length_set];exact hL,rfl,HST2,hJ⟩
      case measure=>simp [intOf]
     refine AllReadyH.cons (o:=⟨_,_,_,_,_,_⟩) rfl (fun Kq hKq=>?_) ?_
     ·have cQ0:=hVB_0.out.rcell 0 rfl HY.out
      go_simp
      refine stepY hKq (show Sy w _ [] [⟨.slice (some ⟨g,0,none⟩) l.length c,3,1,l.length,L1 L⟩] []from hVB_0.out) (fun _ hX=>trivial) ?_
      intro VB_1 hc hHB_1
      have hVB_1:=Lib.hid hc
      clear hc hKq Kq hVB_0 cQ0 hHB_0
      try simp only [Act.put,zI,z0,zS]
      refine tkL 13 ?_ rfl hHB_1 ?_ ?_;rotate_left
      ·intro wS hSw;(try dsimp only at hSw);go_simp;try with_reducible rfl
      try simp only [Act.put,zI,z0,zS]
      refine rdy1 6 rfl (fun Kq hKq=>?_)
      have cQ0:=hVB_1.out.rcell 0 rfl HX.out
      go_simp
      refine stepY hKq (show Sy w _ [] [⟨.slice (some ⟨g,0,none⟩) l.length c,3,1,l.length,L1 L⟩] []from hVB_1.out) (fun _ hX=>trivial) ?_
      intro VB_2 hc hHB_2
      have hVB_2:=Lib.hid hc
      clear hc hKq Kq hVB_1 cQ0 hHB_1
      try simp only [Act.put,zI,z0,zS]
      refine rdy1 14 rfl (fun Kq hKq=>?_)
      go_simp
      refine(HKC.out _).mono ?_
      rintro e wT ⟨rfl,hb⟩
      (try go_wp2_with fail)
      refine stepY hKq (show Sy w _ [] [⟨.slice (some ⟨g,0,none⟩) l.length c,3,1,l.length,L1 L⟩] []from(hVB_2.out.call hb)) (fun _ hX=>trivial) ?_
      intro VB_3 hc hHB_3
      have hVB_3:=Lib.hid hc
      clear hc hKq Kq hVB_2 hb hHB_2
      try simp only [Act.put,zI,z0,zS]
      refine tkL 15 ?_ rfl hHB_3 ?_ ?_;rotate_left
      ·intro wS hSw;(try dsimp only at hSw);go_simp;try with_reducible rfl
      try simp only [Act.put,zI,z0,zS]
      refine rdy1 16 rfl (fun Kq hKq=>?_)
      have cQ0:=hVB_3.out.rcell 0 rfl HX.out
      have fQ0:=hVB_3.out.rfree 0 rfl m
      go_simp
      refine stepY hKq (show Sy w _ [] [⟨.slice (some ⟨g,0,none⟩) l.length c,3,1,l.length,(L1 L).set m (.int .i64 v)⟩] []from(hVB_3.out.ostore 0 rfl m (.int .i64 v))) (fun _ hX=>trivial) ?_
      intro VB_4 hc hHB_4
      have hVB_4:=Lib.hid hc
      clear hc hKq Kq hVB_3 cQ0 fQ0 hHB_3
      try simp only [Act.put]
      refine wpAnyH_done (by kernel_rfl) ?_ _
      have hJ:=Lib.hid hVB_4.out
      rw [HSE.out]at hJ
      go_wp2
      go_roundw
      case rel=>exact⟨m,L.set m v,by have:=HMI.out;omega,by rw [List.length_set];exact hL,rfl,HST2,hJ⟩
      case measure=>simp [intOf]
     exact AllReadyH.nil
end
end Go.Proofs.YthmdhlopeponcaaGreatDoor
namespace Go.Proofs.YthmdhlopeponcaaGreatDoor
open Go.RowKit Go.Shelf Dig
theorem picks_min:Picks min:=fun x y=>by omega
theorem picks_max:Picks max:=fun x y=>by omega
set_option maxHeartbeats 1000000 in
theorem feet1_any:PickC min 62 #[]:=⟨picks_min,fun W x y=>by
 show Calls _ _ #[.int .i64 x,.int .i64 y] _ _
 rcases Int.lt_or_le y x with h | h
 ·go_enter Tryz.func62,Tryz.ntmps62
  go_wp2
  go_ret
  exact⟨ret_int (by omega),Below.refl _ _⟩
 ·have h2:¬ y < x:=by omega
  go_enter Tryz.func62,Tryz.ntmps62
  go_wp2
  go_ret
  exact⟨ret_int (by omega),Below.refl _ _⟩⟩
set_option maxHeartbeats 1000000 in
theorem heads1_any:PickC max 64 #[]:=⟨picks_max,fun W x y=>by
 show Calls _ _ #[.int .i64 x,.int .i64 y] _ _
 rcases Int.lt_or_le x y with h | h
 ·go_enter Tryz.func64,Tryz.ntmps64
  go_wp2
  go_ret
  exact⟨ret_int (by omega),Below.refl _ _⟩
 ·have h2:¬ x < y:=by omega
  go_enter Tryz.func64,Tryz.ntmps64
  go_wp2
  go_ret
  exact⟨ret_int (by omega),Below.refl _ _⟩⟩
theorem eg_feet1:EG 62:=enters_of Tryz.func62 (by kernel_rfl) rfl
theorem eg_heads1:EG 64:=enters_of Tryz.func64 (by kernel_rfl) rfl
theorem eg_foot:EG 61:=enters_of Tryz.func61 (by kernel_rfl) rfl
theorem eg_head:EG 63:=enters_of Tryz.func63 (by kernel_rfl) rfl
def lvErr (l:List Pt) (bs:List Int) (far rise:Int):Int:=if brkB l bs=true then(if inB far 0 3000 && inB rise 0 3000 then 0 else 3)else 2
def RetLv (w:World) (k:Int) (vs:List Int) (e:Ending) (w':World):Prop:=
 (k=0∧∃a c,e= .returned (.tuple #[.slice a vs.length c,.int .i64 0])∧w'.ownsRow w.heap.size 3 1 (.slice a vs.length c) vs.length (L1 vs)∧Below w.heap.size w w')∨
 (k≠0∧e= .returned (.tuple #[.slice none 0 0,.int .i64 k])∧Below w.heap.size w w')
theorem tdC_get {v:Value} {ts:List (Int×Int)} {k:Nat} (h:k < ts.length):(tdC v ts)[k*3]? =some v∧(tdC v ts)[k*3+1]? =some (.int .i64 ts[k].1)∧(tdC v ts)[k*3+2]? =some (.int .i64 ts[k].2):=
 ⟨flat_get (k:=3) (f:=fun t:Int×Int=>[v,.int .i64 t.1,.int .i64 t.2]) (fun _=>rfl) ts k 0 h (by omega),flat_get (k:=3) (f:=fun t:Int×Int=>[v,.int .i64 t.1,.int .i64 t.2]) (fun _=>rfl) ts k 1 h (by omega),flat_get (k:=3) (f:=fun t:Int×Int=>[v,.int .i64 t.1,.int .i64 t.2]) (fun _=>rfl) ts k 2 h (by omega)⟩
end Go.Proofs.YthmdhlopeponcaaGreatDoor
namespace Go.Proofs.YthmdhlopeponcaaGreatDoor
open Go.RowKit Go.Shelf Dig
section
variable (w:World)
set_option maxHeartbeats 8000000 in
set_option maxRecDepth 100000 in
theorem levels_any (sa:Option Addr) (sn sc:Nat) (l:List Pt) (hs:Sx 2 w sa sn sc (L2 l)) (ba:Option Addr) (bn bc:Nat) (bs:List Int) (hb:Sx 1 w ba bn bc (L1 bs)) (far rise step:Int) (hst:(0≤rise∧rise≤3000)→ -3000≤step∧step≤3000)
  (lv pk:Nat) (f:Int×Int→Int) (op:Int→Int→Int) (hp:PickC op pk #[]) (ep:EG pk) (el:EG lv)
  (hl:brkB l bs=true→(0≤far∧far≤3000)→∀W,Below w.heap.size w W→∀t∈nbr bs,Calls Tryz.prog lv (#[.agg #[.slice sa sn sc,.int .i64 t.1,.int .i64 t.2],.int .i64 far]++ #[]) W (Gives (.int .i64 (f t)) W)∧ -200000≤f t∧f t≤200000):
  Calls Tryz.prog 60 #[.slice sa sn sc,.slice ba bn bc,.int .i64 far,.int .i64 rise,.int .i64 step,.func (.func lv) #[] #[],.func (.func pk) #[] #[]] w (RetLv w (lvErr l bs far rise) (folL op step ((nbr bs).map f))):=by
 have HT:=Lib.hid (fun W (hW:Below w.heap.size w W)=>treads_any W sa sn sc l (hs.below hW) ba bn bc bs (hb.below hW))
 have HL:=Lib.hid hl
 have HE:=Lib.hid (show lvErr l bs far rise=if brkB l bs=true then(if inB far 0 3000 && inB rise 0 3000 then 0 else 3)else 2 from rfl)
 have hln:brkB l bs=true→2≤bs.length∧bs.length≤61:=fun h=>by
  unfold brkB at h
  rw [Bool.and_eq_true,Bool.and_eq_true]at h
  have:=inB_iff.1 h.2.1
  omega
 generalize lvErr l bs far rise=er at*
 generalize brkB l bs=ok at*
 have hC:=Lib.hid (Sy.enter w)
 clear hs hb hl
 go_enter Tryz.func60,Tryz.ntmps60
 go_wp2_with fail
 refine(HT.out _ hC.out.be).mono ?_
 rintro e w1 (⟨h1,a,c,rfl,hr,hbb⟩ | ⟨h1,rfl,hbb⟩)
 rotate_left
 ·have hD:=Lib.hid (hC.out.call hbb)
  have he:=HE.out
  rw [h1,if_neg (by decide)]at he
  clear HE HL hC hbb HT
  subst he
  go_wp2
  go_ret2
  exact .inr ⟨by decide,rfl,hD.out.be⟩
 obtain ⟨hl1,hl2⟩:=hln h1
 have hD:=Lib.hid (hC.out.adopt hbb hr)
 have he:=HE.out
 rw [if_pos h1]at he
 have HE2:=Lib.hid he
 have HL2:=Lib.hid (HL.out h1)
 clear HE HL hC hbb HT he h1 hr hln
 cases q1:inB far 0 3000
 ·have he:=HE2.out
  rw [q1,Bool.false_and,if_neg (by decide)]at he
  clear HE2 HL2
  subst he
  go_wp2_with ((with_reducible refine(hwithin_any _ _ _ _).mono ?_);rintro e w2 ⟨rfl,rfl⟩)
  go_ret2
  exact .inr ⟨by decide,rfl,hD.out.be⟩
 cases q2:inB rise 0 3000
 ·have he:=HE2.out
  rw [q1,q2,Bool.and_false,if_neg (by decide)]at he
  clear HE2 HL2
  subst he
  go_wp2_with ((with_reducible refine(hwithin_any _ _ _ _).mono ?_);rintro e w2 ⟨rfl,rfl⟩)
  go_ret2
  exact .inr ⟨by decide,rfl,hD.out.be⟩
 have he:=HE2.out
 rw [q1,q2,Bool.and_true,if_pos rfl]at he
 have HL3:=Lib.hid (HL2.out (inB_iff.1 q1))
 have hs2:=hst (inB_iff.1 q2)
 clear HE2 HL2
 subst he
 go_wp2_with ((with_reducible refine(hwithin_any _ _ _ _).mono ?_);rintro e w2 ⟨rfl,rfl⟩)
 have HN:=Lib.hid (nbr_len bs)
 have HM:=Lib.hid (show ∀k (h:k < (nbr bs).length),(nbr bs)[k]∈nbr bs from fun k h=>List.getElem_mem h)
 have HTD:=Lib.hid (fun k (h:k < (nbr bs).length)=>tdC_get (v:= .slice sa sn sc) h)
 obtain ⟨nn,hnn⟩:∃nn,bs.length - 1=nn:=⟨_,rfl⟩
 rw [hnn]at hD HN⊢
 have hn1:0 < nn∧nn≤60:=by omega
 clear hl1 hl2 hnn q1 q2
 obtain ⟨g,hga,hnc⟩:=hD.out.oaddr 0 rfl hn1.1
 subst hga
 go_loopw [42,18] (fun iv sv wr=>∃k:Nat,∃a2 c2,k≤nn∧iv= .int .i64 k∧sv= .slice a2 k c2∧Hid (Sy w wr [] [⟨.slice (some ⟨g,0,none⟩) nn c,120,3,nn,tdC (.slice sa sn sc) (nbr bs)⟩,⟨.slice a2 k c2,3,1,k,L1 (((nbr bs).map f).take k)⟩] [])) (fun iv _ _=>nn - (intOf iv).toNat)
 case atStart=>exact⟨0,none,0,Nat.zero_le _,rfl,rfl,Lib.hid (hD.out.onil 3 1)⟩
 case round=>
  clear hD
  obtain ⟨k,a2,c2,hk,rfl,rfl,hS⟩:=hrel
  by_cases hkl:k < nn
  ·have hkn:k < (nbr bs).length:=by rw [HN.out];exact hkl
   obtain ⟨t0,t1,t2⟩:=HTD.out k hkn
   obtain ⟨hcall,hbd⟩:=(show(∀W,Below w.heap.size w W→Calls Tryz.prog lv #[.agg #[.slice sa sn sc,.int .i64 (nbr bs)[k].1,.int .i64 (nbr bs)[k].2],.int .i64 far] W (Gives (.int .i64 (f (nbr bs)[k])) W))∧True from⟨fun W hW=>(HL3.out W hW _ (HM.out k hkn)).1,trivial⟩)
   have HCA:=Lib.hid hcall
   have HTK:=Lib.hid (show L1 (((nbr bs).map f).take (k+1))=L1 (((nbr bs).map f).take k)++ [.int .i64 (f (nbr bs)[k])]from by
    rw [List.take_succ_eq_append_getElem (by rw [List.length_map];exact hkn),List.getElem_map];unfold L1;rw [List.map_append];rfl)
   clear hcall hbd
   generalize f (nbr bs)[k]=v at*
   generalize (nbr bs)[k]=t at*
   obtain ⟨u1,u2⟩:=t
   dsimp only at t1 t2 HCA
   have c0:=hS.out.rcell 0 rfl t0
   have c1:=hS.out.rcell 0 rfl t1
   have c2':=hS.out.rcell 0 rfl t2
   have i0:(0:Int)≤(k:Int):=by omega
   have i1:(k:Int) < (nn:Int):=by omega
   have hE:=Lib.hid (hS.out.al wr.heap.size #[.slice sa sn sc,.int .i64 u1,.int .i64 u2] 120 rfl)
   clear t0 t1 t2
   go_upto_region 10 with fail
   refine wp_geny hE.out ?_
   intro V1 hc
   have hG:=Lib.hid hc
   clear hc hE hS c0 c1 c2'
   generalize wr.heap.size=bb at*
   have c0:=hG.out.cell 0 0 rfl rfl
   have c1:=hG.out.cell 0 1 rfl rfl
   have c2':=hG.out.cell 0 2 rfl rfl
   go_wp2_with fail
   refine(HCA.out _ hG.out.be).mono ?_
   rintro e w3 ⟨rfl,hb3⟩
   have hH:=Lib.hid (hG.out.call hb3)
   clear hb3 hG c0 c1 c2'
   go_wp2_with (refine wpList_append_sy (o:=⟨some 52,_,_,_,_,_⟩) rfl (hH.out.onew w3.heap.size #[.int .i64 v] 3 1 1 rfl (by omega) rfl) 1 2 rfl rfl _ _ _ rfl und_hint info_hint rfl (by omega) rfl rfl (by intro u hu;simp at hu;rcases hu with rfl;rfl) (by omega) (by omega) ?_;intro a3 c3 V3 hV3;have hJ:=Lib.hid hV3;clear hV3 hH)
   have hK:=Lib.hid (hJ.out.thin (bs':=[]) (List.nil_sublist _) (List.Sublist.cons_cons _ (List.Sublist.cons_cons _ (List.nil_sublist _))))
   clear hJ
   go_roundw
   case rel=>exact⟨k+1,a3,c3,by omega,by go_num,rfl,by rw [HTK.out];exact hK⟩
   case measure=>simp [intOf];omega
  ·obtain rfl:k=nn:=by omega
   have hJ:=Lib.hid (hS.out.thin (bs':=[]) (os':=[⟨.slice a2 k c2,3,1,k,L1 (((nbr bs).map f).take k)⟩]) (List.Sublist.refl _) (List.Sublist.cons _ (List.Sublist.refl _)))
   clear hS
   have hb2:∀i,-200000≤bX ((nbr bs).map f) i∧bX ((nbr bs).map f) i≤200000:=fun i=>by
    rcases Nat.lt_or_ge i ((nbr bs).map f).length with h | h
    ·rw [bX_at h,List.getElem_map]
     exact(HL3.out w (Below.refl _ _) _ (HM.out i (by rw [List.length_map]at h;exact h))).2
    ·unfold bX;rw [List.getD_eq_getElem?_getD,List.getElem?_eq_none h];exact⟨by decide,by decide⟩
   have HLE:=Lib.hid (show((nbr bs).map f).length=k from by rw [List.length_map];exact HN.out)
   have HTA:=Lib.hid (show((nbr bs).map f).take k=(nbr bs).map f from List.take_of_length_le (by rw [HLE.out];exact Nat.le_refl _))
   rw [HTA.out]at hJ
   generalize (nbr bs).map f=vs at*
   clear HTA HL3 HM HTD HN
   have hle:=HLE.out
   subst hle
   obtain ⟨g2,hg2,hcc⟩:=hJ.out.oaddr 0 rfl hn1.1
   subst hg2
   have hmx:c2≤maxLen:=(hJ.out.osx 0 rfl).cap.2
   have HFO:=Lib.hid (fun V (hV:Sy w V [] [⟨.slice (some ⟨g2,0,none⟩) vs.length c2,3,1,vs.length,L1 vs⟩] [])=>follow_any w V g2 c2 vs step op pk hp ep hn1.1 (by omega) ⟨hcc,hmx⟩ hb2 hs2 hV)
   have HLF:=Lib.hid (folL_len op step vs)
   clear hb2
   go_wp2_with fail
   refine(HFO.out _ hJ.out).mono ?_
   rintro e w3 ⟨rfl,hK⟩
   have hK2:=Lib.hid hK
   clear hK hJ HFO
   go_wp2
   go_ret2
   refine .inl ⟨rfl,_,c2,by rw [HLF.out];rfl,?_,hK2.out.be⟩
   rw [HLF.out]
   exact hK2.out.orow 0 rfl
end
end Go.Proofs.YthmdhlopeponcaaGreatDoor

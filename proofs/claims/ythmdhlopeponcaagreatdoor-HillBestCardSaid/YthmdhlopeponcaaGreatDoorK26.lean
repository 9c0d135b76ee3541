/- part -/
import Derived.Test.YthmdhlopeponcaaGreatDoorK25
set_option maxRecDepth 100000
set_option maxHeartbeats 8000000
namespace Go.Proofs.YthmdhlopeponcaaGreatDoor
open Go.RowKit Go.Shelf Dig
def RetBest (w:World) (c:Ct) (e:Ending) (w':World):Prop:=∃ (a:OA) (n c0:Nat) (m:Bool) (d:OA) (e1 f:Nat) (ba:OA) (bn bc:Nat),e= .returned (.tuple #[.slice ba bn bc,.agg #[.slice a n c0,.bool m,.slice d e1 f],.int .i64 0])/\Rd w' (.slice a n c0) m (.slice d e1 f) c.1/\w'.ownsRow w.heap.size 3 1 (.slice ba bn bc) bn (L1 c.2)/\Below w.heap.size w w'
def BestPost (w:World) (r:Option Ct) (e:Ending) (w':World):Prop:=match r with
 | none=>e= .returned (.tuple #[.slice none 0 0,.agg #[.slice none 0 0,.bool false,.slice none 0 0],.int .i64 12])/\Below w.heap.size w w'
 | some c=>RetBest w c e w'
def RowRd (B:Nat) (T:List Cut) (V:World):Prop:=∀x∈T,CRd B x V
def TabOK (T:List Cut) (f:Nat->Option Ct):Prop:=T.length=61/\(∀x∈T,Bq 17800 x.q)/\∀ (j:Nat) (h:j < T.length),nC T[j]=f j
theorem TabOK.congr {T:List Cut} {f g:Nat->Option Ct} (h:TabOK T f) (hf:∀j,f j=g j):TabOK T g:=⟨h.1,h.2.1,fun j hj=>(h.2.2 j hj).trans (hf j)⟩
theorem TabOK.put {T:List Cut} {f g:Nat->Option Ct} (h:TabOK T f) {k:Nat} {D:Cut} (hD:Bq 17800 D.q) (hk:nC D=g k) (hf:∀j,j≠k->f j=g j):TabOK (T.set k D) g:=by
 refine⟨by rw [List.length_set];exact h.1,fun x hx=>?_,fun j hj=>?_⟩
 ·rcases List.mem_or_eq_of_mem_set hx with h1 | rfl
  ·exact h.2.1 x h1
  ·exact hD
 ·rw [List.getElem_set]
  split
  ·rename_i e;subst e;exact hk
  ·rename_i e;rw [h.2.2 j (by simpa using hj),hf j (fun e2=>e e2.symm)]
theorem tab_zero:TabOK (List.replicate 61 zC) (fun _=>none):=⟨List.length_replicate,fun x hx=>by rw [(List.mem_replicate.1 hx).2];exact bq_zero 17799,fun j hj=>by rw [List.getElem_replicate];rfl⟩
theorem RowRd.put {B:Nat} {T:List Cut} {V:World} (h:RowRd B T V) {k:Nat} {D:Cut} (hD:CRd B D V):RowRd B (T.set k D) V:=fun x hx=>by
 rcases List.mem_or_eq_of_mem_set hx with h1 | rfl
 ·exact h x h1
 ·exact hD
theorem row_zero {B n:Nat} {V:World} :RowRd B (List.replicate n zC) V:=fun x hx=>by rw [(List.mem_replicate.1 hx).2];exact zC_rd
theorem mst_C {m B:Nat} {x:Cut} :Mst m (CRd B x):=fun V V' h hr=>⟨mst_R V V' h hr.1,mst_own V V' h hr.2⟩
theorem mst_Row {m B:Nat} {T:List Cut} :Mst m (RowRd B T):=fun V V' h hr x hx=>mst_C V V' h (hr x hx)
theorem sub_take {α:Type} (n:Nat) (l:List α) {l':List α} (h:l.take n=l'):l'.Sublist l:=h ▸ List.take_sublist n l
theorem cC_one (x:Cut):(cC x).toArray.all (·.oneCell')=true:=by simp [cC,Value.oneCell']
theorem LC_one (T:List Cut):(LC T).toArray.all (·.oneCell')=true:=by
 refine all_oneCell_toArray fun v hv=>?_;unfold LC at hv;obtain ⟨x,_,h⟩:=List.mem_flatMap.1 hv;unfold cC at h;simp only [List.mem_cons,List.not_mem_nil,or_false]at h;rcases h with rfl | rfl | rfl | rfl<;>rfl
theorem zero_cut:(Tryz.prog.info? 138).map (·.zero)=some (some (.agg (cC zC).toArray)):=by kernel_rfl
theorem zero_tab:(Tryz.prog.info? 139).map (·.zero)=some (some (.agg (LC (List.replicate 61 zC)).toArray)):=by kernel_rfl
theorem size_cut:(Tryz.prog.info? 138).map (·.size)=some 4:=by kernel_rfl
theorem size_tab:(Tryz.prog.info? 139).map (·.size)=some 244:=by kernel_rfl
theorem clone_any (w:World) (b:Addr) (n c:Nat) (zs:List Int) (hs:Sx 1 w (some b) n c (L1 zs)) (hn:0 < n) (hn2:n<=1000):
  Calls Tryz.prog 77 #[.slice (some b) n c] w (fun e w'=>∃a' c',e= .returned (.slice a' n c')/\w'.ownsRow w.heap.size 3 1 (.slice a' n c') n (L1 zs)/\Below w.heap.size w w'):=by
 obtain ⟨g,o,hb⟩:=hs.addr hn;cases hb;have hl:=hs.n1;refine(Tryz.slices_Clone_int g o n c zs w (by omega) (by omega) (fun j hj=>by rw [hs.at1 hj];congr 2;rw [List.getD_eq_getElem?_getD,List.getElem?_eq_getElem hj];rfl)).mono ?_;rintro e w' ⟨v',rfl,hr,hne,hb⟩;rw [List.take_of_length_le (by omega)]at hr;rcases hr.2 with ⟨h1,_⟩ | ⟨g',cap,cur,rfl,_⟩
 ·exact absurd h1 hne
 ·exact⟨_,_,rfl,hr,hb⟩
section
variable (w:World)
theorem mW23_9 {P_:Prop} (h:P_:=by
 go_wp2;go_meet;exact⟨_,(⟨a6,n6,c6,m6,d6,e6,f6,yq+cost i k,some ⟨gA,0,none⟩,ybn+1,AI,ybs++ [at_ k]⟩:Cut),rfl,ζ ⟨rfl,rfl,_,rfl⟩,ζ (hW.out.imp (fun V h r hr=>by
  have h1:=h _ (List.mem_of_getElem? (i:=5) rfl);have h2:=h _ (List.mem_of_getElem? (i:=6) rfl);simp only [List.mem_cons,List.not_mem_nil,or_false]at hr;rcases hr with rfl | rfl | rfl | rfl | rfl
  ·exact h _ (List.mem_of_getElem? (i:=0) rfl)
  ·exact h _ (List.mem_of_getElem? (i:=1) rfl)
  ·exact h _ (List.mem_of_getElem? (i:=2) rfl)
  ·exact h _ (List.mem_of_getElem? (i:=3) rfl)
  ·exact⟨h1,by show V.ownsRow _ _ _ _ _ (L1 (ybs++ [at_ k]));rw [L1_append];exact h2⟩))⟩):P_:=h
theorem mW23_0 {P_:Prop} (h:P_:=by
 try simp only [zP]
 refine rdy1 20 rfl (fun Kq AB=>?_);rw [if_pos (by rfl)];refine op_append_sy AD.out 1 0 rfl rfl _ _ _ rfl und_hint info_hint rfl (by omega) rfl rfl (by intro u hu;simp at hu;rcases hu with rfl;rfl) (by omega) (by omega) (fun AM AI _ hc=>?_);refine stW AB hc ?_;intro AU AA AH;clear AB Kq AD hc AJ;try simp only [zP]
 refine tkA 21 rfl AH ?_;try simp only [zP]
 refine rdy1 23 rfl (fun Kq AB=>?_);have cQ0:=AA.out.c 9 0;have fQ0:=AA.out.f 9 0;have cQ1:=AA.out.c 9 1;have fQ1:=AA.out.f 9 1;have cQ2:=AA.out.c 9 2;have fQ2:=AA.out.f 9 2;have cQ3:=AA.out.c 9 3;have fQ3:=AA.out.f 9 3;go_simp;refine stW AB (AA.out|>.set (j:=0) (v:= .slice a6 n6 c6) 9 rfl|>.set (j:=1) (v:= .bool m6) 9 rfl|>.set (j:=2) (v:= .slice d6 e6 f6) 9 rfl|>.set (j:=3) (v:= .slice AM (ybn+1) AI) 9 rfl) ?_;intro AV AE AO;clear AB Kq AA cQ0 fQ0 cQ1 fQ1 cQ2 fQ2 cQ3 fQ3 AH;try simp only [Act.put]
 refine wpAnyH_done (by kernel_rfl) ?_ _;refine NoPanic.normal ?_;obtain ⟨gA,hgA,-⟩:=AE.out.oaddr 1 rfl (by omega);subst hgA;have hW:=ζ (Sy.retire (os:=[]) (AE.out.thin (List.Sublist.refl _) (List.Sublist.cons _ (List.Sublist.refl _))));exact mW23_9):P_:=h
theorem mW23_1 {P_:Prop} (h:P_:=by
 intro AT AD AJ;clear AB Kq AC AL;try simp only [zP]
 refine rdy1 20 rfl (fun Kq AB=>?_);rw [if_pos (by rfl)];refine op_append_sy AD.out 0 1 rfl rfl _ _ _ rfl und_hint info_hint rfl (by omega) rfl rfl (by intro u hu;simp at hu;rcases hu with rfl;rfl) (by omega) (by omega) (fun AM AI _ hc=>?_);refine stW AB hc ?_;intro AU AA AH;clear AB Kq AD hc AJ;try simp only [zP]
 refine tkA 21 rfl AH ?_;try simp only [zP]
 refine rdy1 23 rfl (fun Kq AB=>?_);have cQ0:=AA.out.c 9 0;have fQ0:=AA.out.f 9 0;have cQ1:=AA.out.c 9 1;have fQ1:=AA.out.f 9 1;have cQ2:=AA.out.c 9 2;have fQ2:=AA.out.f 9 2;have cQ3:=AA.out.c 9 3;have fQ3:=AA.out.f 9 3;go_simp;refine stW AB (AA.out|>.set (j:=0) (v:= .slice a6 n6 c6) 9 rfl|>.set (j:=1) (v:= .bool m6) 9 rfl|>.set (j:=2) (v:= .slice d6 e6 f6) 9 rfl|>.set (j:=3) (v:= .slice AM (ybn+1) AI) 9 rfl) ?_;intro AV AE AO;clear AB Kq AA cQ0 fQ0 cQ1 fQ1 cQ2 fQ2 cQ3 fQ3 AH;try simp only [Act.put]
 refine wpAnyH_done (by kernel_rfl) ?_ _;refine NoPanic.normal ?_;obtain ⟨gA,hgA,-⟩:=AE.out.oaddr 0 rfl (by omega);subst hgA;have hW:=ζ (Sy.retire (os:=[]) (AE.out.thin (List.Sublist.refl _) (List.Sublist.cons_cons _ (List.nil_sublist _))));exact mW23_9):P_:=h
theorem mW23_8 {P_:Prop} (h:P_:=by
 go_wp2;go_meet;exact⟨_,(⟨a6,n6,c6,m6,d6,e6,f6,yq+cost i k,some ⟨gA,0,none⟩,ybn+1,AX,ybs++ [at_ k]⟩:Cut),rfl,ζ ⟨rfl,rfl,_,rfl⟩,ζ (hW.out.imp (fun V h r hr=>by
  have h1:=h _ (List.mem_of_getElem? (i:=5) rfl);have h2:=h _ (List.mem_of_getElem? (i:=6) rfl);simp only [List.mem_cons,List.not_mem_nil,or_false]at hr;rcases hr with rfl | rfl | rfl | rfl | rfl
  ·exact h _ (List.mem_of_getElem? (i:=0) rfl)
  ·exact h _ (List.mem_of_getElem? (i:=1) rfl)
  ·exact h _ (List.mem_of_getElem? (i:=2) rfl)
  ·exact h _ (List.mem_of_getElem? (i:=3) rfl)
  ·exact⟨h1,by show V.ownsRow _ _ _ _ _ (L1 (ybs++ [at_ k]));rw [L1_append];exact h2⟩))⟩):P_:=h
theorem mW23_7 {P_:Prop} (h:P_:=by
 try simp only [zP]
 refine rdy1 13 rfl (fun Kq AB=>?_);go_simp;go_at_call 77;refine(clone_any _ A0 ybn ybc ybs (Sx.owns (((AC.out.r 1 rfl:RowRd w.heap.size T _) _ AY.out).2)) hyn1 hyn2).mono ?_;rintro e wT ⟨a8,c8,rfl,hr,hb⟩;(try go_wp2_with fail);refine stW AB (AC.out.adopt hb hr) ?_;intro AT AD AJ;clear AB Kq AC hb hr AL;exact mW23_0):P_:=h
theorem mW23_2 {P_:Prop} (h:P_:=by
 try simp only [zP]
 refine rdyL [13,22] ?_;refine arc rfl (fun Kq AB=>?_) ?_
 ·go_simp;go_at_call 77;refine(clone_any _ A0 ybn ybc ybs (Sx.owns (((AF.out.r 1 rfl:RowRd w.heap.size T _) _ AY.out).2)) hyn1 hyn2).mono ?_;rintro e wT ⟨a8,c8,rfl,hr,hb⟩;(try go_wp2_with fail);refine stW AB (AF.out.adopt hb hr) ?_;intro AS AC AL;clear AB Kq AF hb hr AN;try simp only [zP]
  refine rdyL [20,22] ?_;refine arc rfl (fun Kq AB=>?_) ?_
  ·rw [if_pos (by rfl)];refine op_append_sy AC.out 1 0 rfl rfl _ _ _ rfl und_hint info_hint rfl (by omega) rfl rfl (by intro u hu;simp at hu;rcases hu with rfl;rfl) (by omega) (by omega) (fun A5 AX _ hc=>?_);refine stW AB hc ?_;intro AT AD AJ;clear AB Kq AC hc AL;(try simp only [zP]);refine tkA 21 rfl AJ ?_;(try simp only [zP]);refine rdy1 22 rfl (fun Kq AB=>?_);go_simp;refine stW AB (AD.out.al AT.heap.size #[.slice none 0 0,.bool false,.slice none 0 0,.slice none 0 0] 138 rfl) ?_;intro AU AA AH;clear AB Kq AD AJ;(try simp only [zP]);refine rdy1 23 rfl (fun Kq AB=>?_);have cQ0:=AA.out.c 9 0;have fQ0:=AA.out.f 9 0;have cQ1:=AA.out.c 9 1;have fQ1:=AA.out.f 9 1;have cQ2:=AA.out.c 9 2;have fQ2:=AA.out.f 9 2;have cQ3:=AA.out.c 9 3;have fQ3:=AA.out.f 9 3;go_simp;refine stW AB (AA.out|>.set (j:=0) (v:= .slice a6 n6 c6) 9 rfl|>.set (j:=1) (v:= .bool m6) 9 rfl|>.set (j:=2) (v:= .slice d6 e6 f6) 9 rfl|>.set (j:=3) (v:= .slice A5 (ybn+1) AX) 9 rfl) ?_;intro AV AE AO;clear AB Kq AA cQ0 fQ0 cQ1 fQ1 cQ2 fQ2 cQ3 fQ3 AH;(try simp only [Act.put]);refine wpAnyH_done (by kernel_rfl) ?_ _;refine NoPanic.normal ?_;obtain ⟨gA,hgA,-⟩:=AE.out.oaddr 1 rfl (by omega);subst hgA;have hW:=ζ (Sy.retire (os:=[]) (AE.out.thin (List.Sublist.refl _) (List.Sublist.cons _ (List.Sublist.refl _))));exact mW23_8
  refine arc rfl (fun Kq AB=>?_) ?_
  ·go_simp;refine stW AB (AC.out.al AS.heap.size #[.slice none 0 0,.bool false,.slice none 0 0,.slice none 0 0] 138 rfl) ?_;intro AT AD AJ;clear AB Kq AC AL;exact mW23_0
  exact AllReadyH.nil
 refine arc rfl (fun Kq AB=>?_) ?_
 ·go_simp;refine stW AB (AF.out.al AW.heap.size #[.slice none 0 0,.bool false,.slice none 0 0,.slice none 0 0] 138 rfl) ?_;intro AS AC AL;clear AB Kq AF AN;exact mW23_7
 exact AllReadyH.nil):P_:=h
theorem mW23_3 {P_:Prop} (h:P_:=by
 try simp only [zP]
 refine rdy1 8 rfl (fun Kq AB=>?_);go_simp;go_at_call 40;refine(radd_b (((AF.out.r 1 rfl:RowRd w.heap.size T _) _ AY.out).1) (AF.out.r 4 rfl) BY.out BC.out (by omega) (by omega)).mono ?_;rintro e wT ⟨a6,n6,c6,m6,d6,e6,f6,rfl,hz,hb⟩;(try go_wp2_with fail);refine stW AB ((AF.out.call hb).pR rfl rfl hz) ?_;intro AS AC AL;clear AB Kq AF hb hz AN;exact mW23_7):P_:=h
theorem mW23_14 {P_:Prop} (h:P_:=by
 try simp only [zP]
 refine rdy1 19 rfl (fun Kq AB=>?_);go_simp;refine stW AB (AC.out.onew AS.heap.size #[.int .i64 (at_ k)] 3 1 1 rfl (by omega) rfl) ?_;exact mW23_1):P_:=h
theorem mW23_4 {P_:Prop} (h:P_:=by
 try simp only [zP]
 refine rdyL [13,19] ?_;refine arc rfl (fun Kq AB=>?_) ?_
 ·go_simp;go_at_call 77;refine(clone_any _ A0 ybn ybc ybs (Sx.owns (((AF.out.r 1 rfl:RowRd w.heap.size T _) _ AY.out).2)) hyn1 hyn2).mono ?_;rintro e wT ⟨a8,c8,rfl,hr,hb⟩;(try go_wp2_with fail);refine stW AB (AF.out.adopt hb hr) ?_;intro AS AC AL;clear AB Kq AF hb hr AN;exact mW23_14
 refine arc rfl (fun Kq AB=>?_) ?_
 ·go_simp;refine stW AB (AF.out.onew AW.heap.size #[.int .i64 (at_ k)] 3 1 1 rfl (by omega) rfl) ?_;intro AS AC AL;clear AB Kq AF AN;exact mW23_7
 exact AllReadyH.nil):P_:=h
theorem mW23_5 {P_:Prop} (h:P_:=by
 have Aq:=ζ (hT.out.range 8 rfl);go_upto_region 31 with fail
 go_upto_region 32 with (first | ((with_reducible refine wpList_ld (o:=⟨some 162,_,_,_,_,_⟩) rfl _ _ rfl _ _ ?_ (LC T2) _ Aq.out Tryz.underlying139 ?_ ?_ VT Ak.out ?_);(· exact rfl);(· exact rfl);(· exact(by rw [LC_len,Ac.out];exact size_tab));(try simp only [zP])) | ((with_reducible refine wpList_st (b:=b20) (old:=(LC T).toArray) (t:=139) (o:=⟨none,_,_,_,_,_⟩) rfl hT.out 6 ?_ _ _ _ rfl ?_ (LC T2).toArray ?_ ?_ ?_ (LC_one T2) ?_);(· exact rfl);(· exact rfl);(· exact Ak.out.symm);(· exact(by rw [List.size_toArray,LC_len,Ac.out];exact size_tab));(· exact(by simp [LC_len,BM.out,Ac.out]));intro V5 h1;have hU:=ζ h1;clear h1) | fail)
 go_wp2;go_roundw
 case rel=>exact⟨t+1,T2,z,by omega,by go_num,Av,ζ ⟨HX.out,BZ.out⟩,ζ ((hU.out.thin (sub_take 8 _ rfl) (List.Sublist.refl _)).imp (fun V h r hr=>by
  have h3:RowRd w.heap.size T2 V:=h _ (List.mem_of_getElem? (i:=3) rfl);simp only [List.mem_cons,List.not_mem_nil,or_false]at hr;rcases hr with rfl | rfl | rfl
  ·exact h _ (List.mem_of_getElem? (i:=0) rfl)
  ·exact h3
  ·exact h3 _ BD.out))⟩
 case measure=>simp [intOf];omega):P_:=h
theorem mW23_6 {P_:Prop} (h:P_:=by
 intro A4 AG AR;clear AB Kq AK AZ;try simp only [zP]
 refine rdy1 7 rfl (fun Kq AB=>?_);go_simp;go_at_call 76;refine(Ar.out _ AG.out.be i k hi hkn m b18 b7 b8 b10 b13 (AG.out.c 5 0) (AG.out.c 0 0) (AG.out.c 1 0) (AG.out.c 2 0) (AG.out.c 3 0) (AG.out.lt 5 rfl) (AG.out.lt 0 rfl) (AG.out.lt 1 rfl) (AG.out.lt 2 rfl) (AG.out.lt 3 rfl) (AG.out.r 0 rfl)).mono ?_;rintro e wT ⟨a5,n5,c5,m5,d5,e5,f5,rfl,hR,hMI,hMC⟩;(try go_wp2_with fail);refine stW AB (Sy.pR (Sy.mcall AG.out hm0 hMC (by intro r hr;simp only [List.mem_cons,List.not_mem_nil,or_false]at hr;rcases hr with rfl | rfl | rfl;exact mst_Row;exact mst_C;exact mst_Row) (fun V hV=>MI.turned AG.out rfl rfl hMC hMI hV)) rfl rfl hR) ?_;intro AW AF AN;clear AB Kq AG hMC hMI hR AR;exact mW23_3):P_:=h
theorem mW23_10 {P_:Prop} (h:P_:=by
 try simp only [zP]
 refine rdyL [8,22] ?_;refine arc rfl (fun Kq AB=>?_) ?_
 ·go_simp;go_at_call 40;refine(radd_b (((AG.out.r 1 rfl:RowRd w.heap.size T _) _ AY.out).1) (AG.out.r 4 rfl) BY.out BC.out (by omega) (by omega)).mono ?_;rintro e wT ⟨a6,n6,c6,m6,d6,e6,f6,rfl,hz,hb⟩;(try go_wp2_with fail);refine stW AB ((AG.out.call hb).pR rfl rfl hz) ?_;intro AW AF AN;clear AB Kq AG hb hz AR;exact mW23_2
 refine arc rfl (fun Kq AB=>?_) ?_
 ·go_simp;refine stW AB (AG.out.al A4.heap.size #[.slice none 0 0,.bool false,.slice none 0 0,.slice none 0 0] 138 rfl) ?_;intro AW AF AN;clear AB Kq AG AR;exact mW23_3
 exact AllReadyH.nil):P_:=h
theorem mW23_11 {P_:Prop} (h:P_:=by
 try simp only [zP]
 refine rdyL [8,19] ?_;refine arc rfl (fun Kq AB=>?_) ?_
 ·go_simp;go_at_call 40;refine(radd_b (((AG.out.r 1 rfl:RowRd w.heap.size T _) _ AY.out).1) (AG.out.r 4 rfl) BY.out BC.out (by omega) (by omega)).mono ?_;rintro e wT ⟨a6,n6,c6,m6,d6,e6,f6,rfl,hz,hb⟩;(try go_wp2_with fail);refine stW AB ((AG.out.call hb).pR rfl rfl hz) ?_;intro AW AF AN;clear AB Kq AG hb hz AR;exact mW23_4
 refine arc rfl (fun Kq AB=>?_) ?_
 ·go_simp;refine stW AB (AG.out.onew A4.heap.size #[.int .i64 (at_ k)] 3 1 1 rfl (by omega) rfl) ?_;intro AW AF AN;clear AB Kq AG AR;exact mW23_3
 exact AllReadyH.nil):P_:=h
theorem mW23_12 {P_:Prop} (h:P_:=by
 go_wp2;go_roundw
 case rel=>exact⟨t+1,T2,C,by omega,by go_num,Av,ζ ⟨HX.out,Ax.out.2⟩,ζ ((hU.out.thin (sub_take 8 _ rfl) (List.Sublist.refl _)).imp (fun V h r hr=>by
  have h3:RowRd w.heap.size T2 V:=h _ (List.mem_of_getElem? (i:=3) rfl);simp only [List.mem_cons,List.not_mem_nil,or_false]at hr;rcases hr with rfl | rfl | rfl
  ·exact h _ (List.mem_of_getElem? (i:=0) rfl)
  ·exact h3
  ·exact h _ (List.mem_of_getElem? (i:=2) rfl)))⟩
 case measure=>simp [intOf];omega):P_:=h
theorem mW23_13 {P_:Prop} (h:P_:=by
 clear Az AY Ab BY hi61 hk61;go_wp2;go_roundw
 case rel=>exact⟨i+1,T3,by omega,by go_num,ζ (Ag.out.congr (fun j=>by
  by_cases hj:j=k
  ·rw [if_pos hj,if_pos hj,HX.out]
  ·rw [if_neg hj,if_neg hj])),hS⟩
 case measure=>simp [intOf];omega):P_:=h
theorem hBest_ok (sa:OA) (sn sc:Nat) (l:List Pt) (a b unit least depth:Int) (hs:Sx 2 w sa sn sc (L2 l)) (n mo:Nat) (hse:strErr l a b=0) (hbn:b=atC a unit n) (hn:n<=60) (hu:1<=unit) (hd:0<=depth/\depth<=3000) (hm:1<=mo/\mo<=60) (hle:1<=least/\least<=200000):
  Calls Tryz.prog 32 #[.slice sa sn sc,.int .i64 a,.int .i64 b,.int .i64 unit,.int .i64 least,.int .i64 mo,.int .i64 depth] w (BestPost w (bestC l a unit least depth n mo)):=by
 have hp:profB l=true:=by
  by_cases h:profB l=true
  ·exact h
  ·rw [strErr_bad (Bool.not_eq_true _ ▸ h)]at hse;cases hse
 have hT:Strt l a (atC a unit n):=hbn ▸ strErr_zero hse;have g3:=hT.in100;have hab:a < b/\b - a<=200000:=by rw [hbn];omega
 have hba:b - a=(n:Int)*unit:=by rw [hbn];unfold atC;omega
 have HK:=ζ (fun W (hW:Below w.heap.size w W)=>hstretched_any W sa sn sc l a b (hs.below hW));rw [hse]at HK;have HD:=ζ (fun W=>hwithin_any W depth 0 3000);have HM:=ζ (fun W=>hwithin_any W mo 1 60);have HL:=ζ (fun W=>hwithin_any W least 1 200000);rw [show inB depth 0 3000=true from inB_iff.2 hd]at HD;rw [show inB mo 1 60=true from inB_iff.2 (by omega)]at HM;rw [show inB least 1 200000=true from inB_iff.2 hle]at HL;have n1:1<=n:=by
  rcases Nat.eq_zero_or_pos n with h | h
  ·subst h;rw [atC_zero]at g3;omega
  ·exact h
 have hq:n*unit<=200000:=by rw [<-hba,hbn];omega
 have Ar:=ζ (fun W (hW:Below w.heap.size w W) i k (hik:i < k) (hk:k<=n)=>costOf_any W sa sn sc l a unit depth n i k (hs.below hW) hT hn hu hd hik hk);have BX:=ζ (fun k (hk:k<=n)=>show IntKind.i64.wrap ((k:Int)*unit)=(k:Int)*unit/\IntKind.i64.wrap (a+(k:Int)*unit)=atC a unit k by
  have h1:=atC_le (a:=a) hu hk;have h2:=atC_le (a:=a) hu (Nat.zero_le k);rw [atC_zero]at h2;have e:atC a unit k=a+(k:Int)*unit:=rfl;exact⟨IntWalk.i64_in _ (by omega),IntWalk.i64_in _ (by omega)⟩)
 have Bn:=ζ (fun(i k:Nat) (hik:i < k) (hk:k<=n)=>show IntKind.i64.wrap (((k:Int) - (i:Int))*unit)=((k:Int) - (i:Int))*unit by
  have h1:=Int.mul_le_mul_of_nonneg_right (show(k:Int) - (i:Int)<=(n:Int)by omega) (show 0<=unit by omega);have h2:=Int.mul_nonneg (show 0<=(k:Int) - (i:Int)by omega) (show 0<=unit by omega);exact IntWalk.i64_in _ (by omega))
 have B0:=ζ (fun(i k:Nat) (hik:i < k) (hk:k<=n)=>show Bq 7001 (costI l a unit depth i k)by
  have e1:=atC_le (a:=a) hu (Nat.zero_le i);rw [atC_zero]at e1;have B1:Strt l (atC a unit i) (atC a unit k):=⟨hT.ok,Int.le_trans hT.lo e1,atC_lt hu hik,Int.le_trans (atC_le hu hk) hT.hi⟩
  have:=foot_inZ B1 hd.1 hd.2;exact B1.above_bq (by unfold InZ;omega))
 have BO:=ζ (fun(t i k:Nat) (c:Ct) (h:rowC l a unit least depth n t i=some c) (hik:i < k) (hk:k<=n) (ht:t+1<=60) (hl:¬ ((k:Int) - (i:Int))*unit < least)=>show Bq 17800 (c.1+costI l a unit depth i k)from((row_chn h).step hik hl).bq hu hT hk ht hp hd);have B2:=ζ (fun r k=>show nextC l a unit least depth r k 0=none from rfl);have B3:=ζ (fun r k i (h:r i=none)=>show nextC l a unit least depth r k (i+1)=nextC l a unit least depth r k i by show pickC l a unit least depth r k i _=_;unfold pickC;rw [h]);have B4:=ζ (fun(r:Nat->Option Ct) (k i:Nat) (c:Ct) (h:r i=some c) (hl:((k:Int) - (i:Int))*unit < least)=>show nextC l a unit least depth r k (i+1)=nextC l a unit least depth r k i by show pickC l a unit least depth r k i _=_;unfold pickC;rw [h];exact if_pos hl);have BJ:=ζ (fun(r:Nat->Option Ct) (k i:Nat) (c:Ct) (h:r i=some c) (hl:¬ ((k:Int) - (i:Int))*unit < least)=>show nextC l a unit least depth r k (i+1)=if betB (c.1+costI l a unit depth i k,c.2++ [atC a unit k]) (nextC l a unit least depth r k i)=true then some (c.1+costI l a unit depth i k,c.2++ [atC a unit k])else nextC l a unit least depth r k i by show pickC l a unit least depth r k i _=_;unfold pickC;rw [h];exact if_neg hl);have B5:=ζ (show rowC l a unit least depth n 0=fun j=>if j=0 then some (0,[a])else none from rfl);have BP:=ζ (fun t j=>show rowC l a unit least depth n (t+1) j=if 1<=j/\j<=n then nextC l a unit least depth (rowC l a unit least depth n t) j j else none from rfl);have B6:=ζ (show bestC l a unit least depth n 0=none from rfl);have BQ:=ζ (fun t=>show bestC l a unit least depth n (t+1)=takeC (rowC l a unit least depth n (t+1) n) (bestC l a unit least depth n t)from rfl);have B7:=ζ (fun t i c (h:rowC l a unit least depth n t i=some c)=>show c.2.length=t+1 from(row_chn h).len);obtain ⟨cost,hcost⟩:∃f,costI l a unit depth=f:=⟨_,rfl⟩
 obtain ⟨nx,hnx⟩:∃f,nextC l a unit least depth=f:=⟨_,rfl⟩
 obtain ⟨rw_,hrw⟩:∃f,rowC l a unit least depth n=f:=⟨_,rfl⟩
 obtain ⟨bst,hbst⟩:∃f,bestC l a unit least depth n=f:=⟨_,rfl⟩
 obtain ⟨at_,hat⟩:∃f,atC a unit=f:=⟨_,rfl⟩
 rw [hcost]at Ar B0 BO BJ;rw [hnx]at B2 B3 B4 BJ BP;rw [hrw]at BO B5 BP BQ B7;rw [hbst]at B6 BQ⊢;rw [hat]at BX BJ;clear hcost hnx hrw hbst hat hT hp hbn;have q0:IntKind.i64.wrap (b - a)=b - a:=IntWalk.i64_in _ (by omega);have q1:¬ unit < 1:=by omega
 have q2:unit≠0:=by omega
 have q3:(b - a) % unit=0:=by rw [hba,Int.mul_emod_left]
 have q4:(b - a) / unit=(n:Int):=by rw [hba];exact Int.mul_ediv_cancel _ q2
 have q5:¬ (60:Int) < (n:Int):=by omega
 have q6:a < b:=by omega
 clear hs hse hd hle;go_enter Tryz.func32,Tryz.ntmps32;go_upto_region 1 with (first | (refine wpList_bx (o:=⟨some 7,_,_,_,_,_⟩) rfl (Sy.enter w) _ _ rfl #[.slice sa sn sc] rfl ?_;intro b7 V1 h1;have hA:=ζ h1;clear h1) | (refine wpList_bx (o:=⟨some 8,_,_,_,_,_⟩) rfl hA.out _ _ rfl #[.int .i64 a] rfl ?_;intro b8 V2 h1;have hB:=ζ h1;clear h1 hA) | (refine wpList_bx (o:=⟨some 10,_,_,_,_,_⟩) rfl hB.out _ _ rfl #[.int .i64 unit] rfl ?_;intro b10 V3 h1;have hC:=ζ h1;clear h1 hB) | (refine wpList_bx (o:=⟨some 13,_,_,_,_,_⟩) rfl hC.out _ _ rfl #[.int .i64 depth] rfl ?_;intro b13 V4 h1;have hD:=ζ h1;clear h1 hC) | (refine wpList_al (o:=⟨some 15,_,_,_,_,_⟩) rfl hD.out _ rfl _ zero_hR ?_;intro b15 V5 h1;have hE:=ζ (show Sy w V5 [(b7,#[.slice sa sn sc],25),(b8,#[.int .i64 a],3),(b10,#[.int .i64 unit],3),(b13,#[.int .i64 depth],3),(b15,zR,42)] [] []from h1);clear h1 hD) | fail)
 have x0:V5.cell? ⟨b7,0,none⟩=some (.slice sa sn sc):=hE.out.c 0 0;have x1:V5.cell? ⟨b8,0,none⟩=some (.int .i64 a):=hE.out.c 1 0;go_wp2_with fail
 refine(HK.out _ hE.out.be).mono ?_;rintro e W6 ⟨rfl,hb⟩;have hF:=ζ (hE.out.call hb);clear hb hE HK x0 x1;have x1:W6.cell? ⟨b8,0,none⟩=some (.int .i64 a):=hF.out.c 1 0;have x2:W6.cell? ⟨b10,0,none⟩=some (.int .i64 unit):=hF.out.c 2 0;have x3:W6.cell? ⟨b13,0,none⟩=some (.int .i64 depth):=hF.out.c 3 0;go_upto_region 9 with (first | ((with_reducible refine(HD.out _).mono ?_);rintro e w1 ⟨rfl,rfl⟩) | ((with_reducible refine(HM.out _).mono ?_);rintro e w1 ⟨rfl,rfl⟩) | ((with_reducible refine(HL.out _).mono ?_);rintro e w1 ⟨rfl,rfl⟩))
 clear HD HM HL x1 x2 x3;go_upto_region 10 with (first | (refine wpList_mkMap (o:=⟨some 79,_,_,_,_,_⟩) rfl hF.out rfl rfl cost _ rfl ?_;intro m V7 hm0 h1;have hG:=ζ h1;clear h1 hF) | fail)
 have hH:=ζ (show Sy w _ [(b7,#[.slice sa sn sc],25),(b8,#[.int .i64 a],3),(b10,#[.int .i64 unit],3),(b13,#[.int .i64 depth],3),(b15,zR,42),(V7.heap.size,#[.map (some m)],134)] [] [MI m cost]from hG.out.al V7.heap.size #[.map (some m)] 134 rfl);obtain ⟨b18,hb18⟩:∃b,V7.heap.size=b:=⟨_,rfl⟩
 rw [hb18]at hH⊢;refine wp_geny hH.out ?_;intro V8 hc;have hI:=ζ hc;clear hc hH hG hb18;go_upto_region 12 with (first | (refine wpList_al (o:=⟨some 20,_,_,_,_,_⟩) rfl hI.out _ rfl _ zero_tab ?_;intro b20 V9 h1;have hJ:=ζ (show Sy w V9 [(b7,#[.slice sa sn sc],25),(b8,#[.int .i64 a],3),(b10,#[.int .i64 unit],3),(b13,#[.int .i64 depth],3),(b15,zR,42),(b18,#[.map (some m)],134),(b20,(LC (List.replicate 61 zC)).toArray,139)] [] [MI m cost]from h1);clear h1 hI) | fail)
 have x1:=hJ.out.c 1 0;have BK:=ζ (hJ.out.onew V9.heap.size #[.int .i64 a] 3 1 1 rfl (by omega) rfl);have c3:(V9.alloc (.cells #[.int .i64 a] 3)).cell? ⟨b20,3,none⟩=some (.slice none 0 0):=BK.out.c 6 3;have f3:(V9.alloc (.cells #[.int .i64 a] 3)).frozen? ⟨b20,3,none⟩=false:=BK.out.f 6 3;go_upto_region 13 with fail
 have hK:=ζ (show Sy w _ [(b7,#[.slice sa sn sc],25),(b8,#[.int .i64 a],3),(b10,#[.int .i64 unit],3),(b13,#[.int .i64 depth],3),(b15,zR,42),(b18,#[.map (some m)],134),(b20,(LC ((⟨none,0,0,false,none,0,0,0,some ⟨V9.heap.size,0,none⟩,1,1,[a]⟩:Cut)::List.replicate 60 zC)).toArray,139)] [⟨.slice (some ⟨V9.heap.size,0,none⟩) 1 1,3,1,1,[.int .i64 a]⟩] [MI m cost]from BK.out.set (j:=3) (v:= .slice (some ⟨V9.heap.size,0,none⟩) 1 1) 6 rfl);generalize V9.heap.size=g at*;refine wp_geny hK.out ?_;intro V10 hc;have hL:=ζ (show Sy w V10 [(b7,#[.slice sa sn sc],25),(b8,#[.int .i64 a],3),(b10,#[.int .i64 unit],3),(b13,#[.int .i64 depth],3),(b15,zR,42),(b18,#[.map (some m)],134),(b20,(LC ((⟨none,0,0,false,none,0,0,0,some ⟨g,0,none⟩,1,1,[a]⟩:Cut)::List.replicate 60 zC)).toArray,139)] [] [MI m cost,RowRd w.heap.size ((⟨none,0,0,false,none,0,0,0,some ⟨g,0,none⟩,1,1,[a]⟩:Cut)::List.replicate 60 zC),CRd w.heap.size zC]from(Sy.retire (os:=[]) hc).imp (fun V h r hr=>by
  simp only [List.mem_cons,List.not_mem_nil,or_false]at hr;have h1:V.ownsRow w.heap.size 3 1 (.slice (some ⟨g,0,none⟩) 1 1) 1 [.int .i64 a]:=h (fun V=>V.ownsRow w.heap.size 3 1 (.slice (some ⟨g,0,none⟩) 1 1) 1 [.int .i64 a]) (by simp);rcases hr with rfl | rfl | rfl
  ·exact h _ (by simp)
  ·intro x hx;rcases List.mem_cons.1 hx with rfl | hx
   ·exact⟨Rd.nil,h1⟩
   ·exact row_zero (n:=60) x hx
  ·exact zC_rd))
 clear hc hK BK hJ x1 c3 f3;go_upto_region 14 with (first | (refine wpList_al (o:=⟨some 21,_,_,_,_,_⟩) rfl hL.out _ rfl _ zero_cut ?_;intro b21 V11 h1;have hM:=ζ (show Sy w V11 [(b7,#[.slice sa sn sc],25),(b8,#[.int .i64 a],3),(b10,#[.int .i64 unit],3),(b13,#[.int .i64 depth],3),(b15,zR,42),(b18,#[.map (some m)],134),(b20,(LC ((⟨none,0,0,false,none,0,0,0,some ⟨g,0,none⟩,1,1,[a]⟩:Cut)::List.replicate 60 zC)).toArray,139),(b21,(cC zC).toArray,138)] [] [MI m cost,RowRd w.heap.size ((⟨none,0,0,false,none,0,0,0,some ⟨g,0,none⟩,1,1,[a]⟩:Cut)::List.replicate 60 zC),CRd w.heap.size zC]from h1);clear h1 hL) | fail)
 go_wp2;go_loopw [86] (fun iv wr=>∃ (t:Nat) (T:List Cut) (C:Cut),t<=mo/\iv= .int .i64 t/\Hid (TabOK T (rw_ t))/\Hid (nC C=bst t/\Bq 17800 C.q)/\Hid (Sy w wr [(b7,#[.slice sa sn sc],25),(b8,#[.int .i64 a],3),(b10,#[.int .i64 unit],3),(b13,#[.int .i64 depth],3),(b15,zR,42),(b18,#[.map (some m)],134),(b20,(LC T).toArray,139),(b21,(cC C).toArray,138)] [] [MI m cost,RowRd w.heap.size T,CRd w.heap.size C])) (fun iv _=>mo - (intOf iv).toNat)
 case atStart=>exact⟨0,(⟨none,0,0,false,none,0,0,0,some ⟨g,0,none⟩,1,1,[a]⟩:Cut)::List.replicate 60 zC,zC,Nat.zero_le _,rfl,ζ (by rw [B5.out];exact tab_zero.put (k:=0) (D:=(⟨none,0,0,false,none,0,0,0,some ⟨g,0,none⟩,1,1,[a]⟩:Cut)) (bq_zero 17799) (g:=fun j=>if j=0 then some (0,[a])else none) (by simp [nC]) (fun j hj=>by rw [if_neg hj])),ζ ⟨by rw [B6.out];rfl,bq_zero 17799⟩,hM⟩
 case round=>
  clear hM;obtain ⟨t,T,C,ht,rfl,BL,Ax,hS⟩:=hrel;by_cases hlt:t < mo
  ·have j1:(t:Int) < (mo:Int):=(by omega);go_upto_region 17 with (first | (refine wpList_al (o:=⟨some 22,_,_,_,_,_⟩) rfl hS.out _ rfl _ zero_tab ?_;intro b22 V12 h1;have hN:=ζ (show Sy w V12 [(b7,#[.slice sa sn sc],25),(b8,#[.int .i64 a],3),(b10,#[.int .i64 unit],3),(b13,#[.int .i64 depth],3),(b15,zR,42),(b18,#[.map (some m)],134),(b20,(LC T).toArray,139),(b21,(cC C).toArray,138),(b22,(LC (List.replicate 61 zC)).toArray,139)] [] [MI m cost,RowRd w.heap.size T,CRd w.heap.size C,RowRd w.heap.size (List.replicate 61 zC)]from(Sy.push h1 (r:=RowRd w.heap.size (List.replicate 61 zC)) (fun V _=>row_zero)));clear h1 hS) | fail)
   go_wp2;go_loopw [23] (fun kv wr=>∃ (k:Nat) (T2:List Cut),1<=k/\k<=n+1/\kv= .int .i64 k/\Hid (TabOK T2 (fun j=>if 1<=j/\j < k then nx (rw_ t) j j else none))/\Hid (Sy w wr [(b7,#[.slice sa sn sc],25),(b8,#[.int .i64 a],3),(b10,#[.int .i64 unit],3),(b13,#[.int .i64 depth],3),(b15,zR,42),(b18,#[.map (some m)],134),(b20,(LC T).toArray,139),(b21,(cC C).toArray,138),(b22,(LC T2).toArray,139)] [] [MI m cost,RowRd w.heap.size T,CRd w.heap.size C,RowRd w.heap.size T2])) (fun kv _=>n+1 - (intOf kv).toNat)
   case atStart=>exact⟨1,List.replicate 61 zC,Nat.le_refl _,by omega,rfl,ζ (tab_zero.congr (fun j=>by rw [if_neg (by omega)])),hN⟩
   case round=>
    clear hN;obtain ⟨k,T2,hk1,hk2,rfl,As,hS⟩:=hrel;by_cases hkn:k<=n
    ·have j2:(k:Int)<=(n:Int):=(by omega);go_wp2;go_loopw [94] (fun iv wr=>∃ (i:Nat) (T3:List Cut),i<=k/\iv= .int .i64 i/\Hid (TabOK T3 (fun j=>if j=k then nx (rw_ t) k i else if 1<=j/\j < k then nx (rw_ t) j j else none))/\Hid (Sy w wr [(b7,#[.slice sa sn sc],25),(b8,#[.int .i64 a],3),(b10,#[.int .i64 unit],3),(b13,#[.int .i64 depth],3),(b15,zR,42),(b18,#[.map (some m)],134),(b20,(LC T).toArray,139),(b21,(cC C).toArray,138),(b22,(LC T3).toArray,139)] [] [MI m cost,RowRd w.heap.size T,CRd w.heap.size C,RowRd w.heap.size T3])) (fun iv _=>k - (intOf iv).toNat)
     case atStart=>exact⟨0,T2,Nat.zero_le _,rfl,ζ (As.out.congr (fun j=>by
      by_cases hj:j=k
      ·rw [if_pos hj,if_neg (by omega),B2.out]
      ·rw [if_neg hj])),hS⟩
     case round=>
      clear hS As;obtain ⟨i,T3,hik,rfl,Ag,hS⟩:=hrel;by_cases hi:i < k
      ·have hi61:i < T.length:=(by have:=BL.out.1;omega);have hk61:k < T3.length:=(by have:=Ag.out.1;omega);have Az:=ζ (BL.out.2.2 i hi61);have AY:=ζ (List.getElem_mem hi61);have Ab:=ζ (fun j v (hj:(cC T[i])[j]? =some v)=>show(LC T).toArray[i*4+j]? =some v by rw [List.getElem?_toArray,LC_get hi61 (List.getElem?_eq_some_iff.1 hj).1];exact hj);have BY:=ζ (BL.out.2.1 _ (List.getElem_mem hi61));generalize T[i]=y at*;have i0:(0:Int)<=(i:Int):=(by omega);have i1:(i:Int) < 61:=(by omega);have i2:(i:Int) < (k:Int):=(by omega);have v1:IntKind.i64.wrap ((i:Int)+1)=(i:Int)+1:=IntWalk.i64_in _ (by omega);have v2:IntKind.i64.wrap ((k:Int) - (i:Int))=(k:Int) - (i:Int):=IntWalk.i64_in _ (by omega);have v3:=Bn.out i k hi hkn;obtain ⟨ya,yn,yc,ym,yd,ye,yf,yq,yba,ybn,ybc,ybs⟩:=y;have x4:wr.cell? ⟨b20,i*4+3,none⟩=some (.slice yba ybn ybc):=hS.out.cell 6 (i*4+3) rfl (Ab.out 3 _ rfl);have x2:wr.cell? ⟨b10,0,none⟩=some (.int .i64 unit):=hS.out.c 2 0;have hnil:=isnil_int yba ybn ybc;cases yba with
       | none=>
         have HX:=ζ (B3.out (rw_ t) k i (by rw [<-Az.out];simp [nC]));exact mW23_13
       | some A0=>
         have BA:=ζ (show rw_ t i=some (yq,ybs)by rw [<-Az.out];simp [nC]);by_cases hl:((k:Int) - (i:Int))*unit < least
         ·have HX:=ζ (B4.out (rw_ t) k i _ BA.out hl);exact mW23_13
         have hl2:=Int.not_lt.1 hl;have BR:=ζ (show Bq 17800 (yq+cost i k)from BO.out t i k (yq,ybs) BA.out hi hkn (by omega) (by first | exact hl | exact hl2));have BC:=ζ (B0.out i k hi hkn);have HN:=ζ (BJ.out (rw_ t) k i _ BA.out (by first | exact hl | exact hl2));have hyl:=B7.out t i _ BA.out;have hyn:=(Sx.owns (((hS.out.r 1 rfl:RowRd w.heap.size T wr) _ AY.out).2)).n1;dsimp only at hyl hyn HN;have hyn1:0 < ybn:=(by omega);have hyn2:ybn<=1000:=(by omega);obtain ⟨v5,v6⟩:=BX.out k hkn;clear hyl hyn;go_upto_region 24 with fail
         clear hnil x4 x2 hl Az BA v1 v2 v3 hl2;go_cut [25] (fun p wx=>∃ (c25:Nat) (D:Cut),p= .pointer (some ⟨c25,0,none⟩)/\Hid (D.q=yq+cost i k/\D.bs=ybs++ [at_ k]/\∃A1,D.ba=some A1)/\Hid (Sy w wx [(b7,#[.slice sa sn sc],25),(b8,#[.int .i64 a],3),(b10,#[.int .i64 unit],3),(b13,#[.int .i64 depth],3),(b15,zR,42),(b18,#[.map (some m)],134),(b20,(LC T).toArray,139),(b21,(cC C).toArray,138),(b22,(LC T3).toArray,139),(c25,(cC D).toArray,138)] [] [MI m cost,RowRd w.heap.size T,CRd w.heap.size C,RowRd w.heap.size T3,CRd w.heap.size D]))
         case first=>
          clear HN BR;have HSL:∀V ex os rs,Sy w V ([(b7,#[.slice sa sn sc],25),(b8,#[.int .i64 a],3),(b10,#[.int .i64 unit],3),(b13,#[.int .i64 depth],3),(b15,zR,42),(b18,#[.map (some m)],134),(b20,(LC T).toArray,139),(b21,(cC C).toArray,138),(b22,(LC T3).toArray,139)]++ex) os rs->(fun w'=>w'.cell? ⟨b8,0,none⟩=some (.int .i64 a)/\w'.cell? ⟨b10,0,none⟩=some (.int .i64 unit)/\w'.cell? ⟨b20,i*4,none⟩=some (.slice ya yn yc)/\w'.cell? ⟨b20,i*4+1,none⟩=some (.bool ym)/\w'.cell? ⟨b20,i*4+2,none⟩=some (.slice yd ye yf)/\w'.cell? ⟨b20,i*4+3,none⟩=some (.slice (some A0) ybn ybc)/\True) V:=fun V ex os rs hX=>⟨hX.c 1 0,hX.c 2 0,(hX.cell 6 (i*4) rfl (Ab.out 0 _ rfl)),(hX.cell 6 (i*4+1) rfl (Ab.out 1 _ rfl)),(hX.cell 6 (i*4+2) rfl (Ab.out 2 _ rfl)),(hX.cell 6 (i*4+3) rfl (Ab.out 3 _ rfl)),trivial⟩
          refine wp_region_noPanic ?_;refine wp_region_held_drew (S:=(fun w'=>w'.cell? ⟨b8,0,none⟩=some (.int .i64 a)/\w'.cell? ⟨b10,0,none⟩=some (.int .i64 unit)/\w'.cell? ⟨b20,i*4,none⟩=some (.slice ya yn yc)/\w'.cell? ⟨b20,i*4+1,none⟩=some (.bool ym)/\w'.cell? ⟨b20,i*4+2,none⟩=some (.slice yd ye yf)/\w'.cell? ⟨b20,i*4+3,none⟩=some (.slice (some A0) ybn ybc)/\True)) (by kernel_rfl) ⟨hS.out.drew.c 1 0,hS.out.drew.c 2 0,(hS.out.drew.cell 6 (i*4) rfl (Ab.out 0 _ rfl)),(hS.out.drew.cell 6 (i*4+1) rfl (Ab.out 1 _ rfl)),(hS.out.drew.cell 6 (i*4+2) rfl (Ab.out 2 _ rfl)),(hS.out.drew.cell 6 (i*4+3) rfl (Ab.out 3 _ rfl)),trivial⟩ (fun hH=>?_);refine wpAnyH_geny (show Sy w _ [(b7,#[.slice sa sn sc],25),(b8,#[.int .i64 a],3),(b10,#[.int .i64 unit],3),(b13,#[.int .i64 depth],3),(b15,zR,42),(b18,#[.map (some m)],134),(b20,(LC T).toArray,139),(b21,(cC C).toArray,138),(b22,(LC T3).toArray,139)] [] [MI m cost,RowRd w.heap.size T,CRd w.heap.size C,RowRd w.heap.size T3]from hS.out.drew) hH ?_;intro BB hc AP;have AQ:=ζ hc;clear hc hH hS;refine tkA 0 rfl AP ?_;(try simp only [zP]);refine tkA 1 rfl AP ?_;(try simp only [zP]);refine tkA 2 rfl AP ?_;(try simp only [zP]);refine tkA 3 rfl AP ?_;(try simp only [zP]);refine tkA 4 rfl AP ?_;(try simp only [zP]);refine tkA 5 rfl AP ?_;(try simp only [zP]);refine tkA 6 rfl AP ?_;(try simp only [zP]);refine tkA 9 rfl AP ?_;(try simp only [zP]);refine tkA 10 rfl AP ?_;(try simp only [zP]);refine tkA 11 rfl AP ?_;(try simp only [zP]);refine tkA 12 rfl AP ?_;(try simp only [zP]);refine tkA 14 rfl AP ?_;(try simp only [zP]);refine tkA 15 rfl AP ?_;(try simp only [zP]);refine tkA 16 rfl AP ?_;(try simp only [zP]);refine tkA 17 rfl AP ?_;(try simp only [zP]);refine tkA 18 rfl AP ?_;(try simp only [zP]);refine rdyL [7,19,22] ?_;refine arc rfl (fun Kq AB=>?_) ?_
          ·go_simp;go_at_call 76;refine(Ar.out _ AQ.out.be i k hi hkn m b18 b7 b8 b10 b13 (AQ.out.c 5 0) (AQ.out.c 0 0) (AQ.out.c 1 0) (AQ.out.c 2 0) (AQ.out.c 3 0) (AQ.out.lt 5 rfl) (AQ.out.lt 0 rfl) (AQ.out.lt 1 rfl) (AQ.out.lt 2 rfl) (AQ.out.lt 3 rfl) (AQ.out.r 0 rfl)).mono ?_;rintro e wT ⟨a5,n5,c5,m5,d5,e5,f5,rfl,hR,hMI,hMC⟩;(try go_wp2_with fail);refine stW AB (Sy.pR (Sy.mcall AQ.out hm0 hMC (by intro r hr;simp only [List.mem_cons,List.not_mem_nil,or_false]at hr;rcases hr with rfl | rfl | rfl;exact mst_Row;exact mst_C;exact mst_Row) (fun V hV=>MI.turned AQ.out rfl rfl hMC hMI hV)) rfl rfl hR) ?_;intro A9 AK AZ;clear AB Kq AQ hMC hMI hR AP;(try simp only [zP]);refine rdyL [8,19,22] ?_;refine arc rfl (fun Kq AB=>?_) ?_
           ·go_simp;go_at_call 40;refine(radd_b (((AK.out.r 1 rfl:RowRd w.heap.size T _) _ AY.out).1) (AK.out.r 4 rfl) BY.out BC.out (by omega) (by omega)).mono ?_;rintro e wT ⟨a6,n6,c6,m6,d6,e6,f6,rfl,hz,hb⟩;(try go_wp2_with fail);refine stW AB ((AK.out.call hb).pR rfl rfl hz) ?_;intro A4 AG AR;clear AB Kq AK hb hz AZ;(try simp only [zP]);refine rdyL [13,19,22] ?_;refine arc rfl (fun Kq AB=>?_) ?_
            ·go_simp;go_at_call 77;refine(clone_any _ A0 ybn ybc ybs (Sx.owns (((AG.out.r 1 rfl:RowRd w.heap.size T _) _ AY.out).2)) hyn1 hyn2).mono ?_;rintro e wT ⟨a8,c8,rfl,hr,hb⟩;(try go_wp2_with fail);refine stW AB (AG.out.adopt hb hr) ?_;intro AW AF AN;clear AB Kq AG hb hr AR;(try simp only [zP]);refine rdyL [19,22] ?_;refine arc rfl (fun Kq AB=>?_) ?_
             ·go_simp;refine stW AB (AF.out.onew AW.heap.size #[.int .i64 (at_ k)] 3 1 1 rfl (by omega) rfl) ?_;intro AS AC AL;clear AB Kq AF AN;(try simp only [zP]);refine rdyL [20,22] ?_;refine arc rfl (fun Kq AB=>?_) ?_
              ·rw [if_pos (by rfl)];refine op_append_sy AC.out 0 1 rfl rfl _ _ _ rfl und_hint info_hint rfl (by omega) rfl rfl (by intro u hu;simp at hu;rcases hu with rfl;rfl) (by omega) (by omega) (fun A5 AX _ hc=>?_);refine stW AB hc ?_;intro AT AD AJ;clear AB Kq AC hc AL;(try simp only [zP]);refine tkA 21 rfl AJ ?_;(try simp only [zP]);refine rdy1 22 rfl (fun Kq AB=>?_);go_simp;refine stW AB (AD.out.al AT.heap.size #[.slice none 0 0,.bool false,.slice none 0 0,.slice none 0 0] 138 rfl) ?_;intro AU AA AH;clear AB Kq AD AJ;(try simp only [zP]);refine rdy1 23 rfl (fun Kq AB=>?_);have cQ0:=AA.out.c 9 0;have fQ0:=AA.out.f 9 0;have cQ1:=AA.out.c 9 1;have fQ1:=AA.out.f 9 1;have cQ2:=AA.out.c 9 2;have fQ2:=AA.out.f 9 2;have cQ3:=AA.out.c 9 3;have fQ3:=AA.out.f 9 3;go_simp;refine stW AB (AA.out|>.set (j:=0) (v:= .slice a6 n6 c6) 9 rfl|>.set (j:=1) (v:= .bool m6) 9 rfl|>.set (j:=2) (v:= .slice d6 e6 f6) 9 rfl|>.set (j:=3) (v:= .slice A5 (ybn+1) AX) 9 rfl) ?_;intro AV AE AO;clear AB Kq AA cQ0 fQ0 cQ1 fQ1 cQ2 fQ2 cQ3 fQ3 AH;(try simp only [Act.put]);refine wpAnyH_done (by kernel_rfl) ?_ _;refine NoPanic.normal ?_;obtain ⟨gA,hgA,-⟩:=AE.out.oaddr 0 rfl (by omega);subst hgA;have hW:=ζ (Sy.retire (os:=[]) (AE.out.thin (List.Sublist.refl _) (List.Sublist.cons_cons _ (List.nil_sublist _))));exact mW23_8
              refine arc rfl (fun Kq AB=>?_) ?_
              ·go_simp;refine stW AB (AC.out.al AS.heap.size #[.slice none 0 0,.bool false,.slice none 0 0,.slice none 0 0] 138 rfl) ?_;exact mW23_1
              exact AllReadyH.nil
             refine arc rfl (fun Kq AB=>?_) ?_
             ·go_simp;refine stW AB (AF.out.al AW.heap.size #[.slice none 0 0,.bool false,.slice none 0 0,.slice none 0 0] 138 rfl) ?_;intro AS AC AL;clear AB Kq AF AN;exact mW23_14
             exact AllReadyH.nil
            refine arc rfl (fun Kq AB=>?_) ?_
            ·go_simp;refine stW AB (AG.out.onew A4.heap.size #[.int .i64 (at_ k)] 3 1 1 rfl (by omega) rfl) ?_;intro AW AF AN;clear AB Kq AG AR;exact mW23_2
            refine arc rfl (fun Kq AB=>?_) ?_
            ·go_simp;refine stW AB (AG.out.al A4.heap.size #[.slice none 0 0,.bool false,.slice none 0 0,.slice none 0 0] 138 rfl) ?_;intro AW AF AN;clear AB Kq AG AR;exact mW23_4
            exact AllReadyH.nil
           refine arc rfl (fun Kq AB=>?_) ?_
           ·go_simp;refine stW AB (AK.out.onew A9.heap.size #[.int .i64 (at_ k)] 3 1 1 rfl (by omega) rfl) ?_;intro A4 AG AR;clear AB Kq AK AZ;exact mW23_10
           refine arc rfl (fun Kq AB=>?_) ?_
           ·go_simp;refine stW AB (AK.out.al A9.heap.size #[.slice none 0 0,.bool false,.slice none 0 0,.slice none 0 0] 138 rfl) ?_;intro A4 AG AR;clear AB Kq AK AZ;exact mW23_11
           exact AllReadyH.nil
          refine arc rfl (fun Kq AB=>?_) ?_
          ·go_simp;refine stW AB (AQ.out.onew BB.heap.size #[.int .i64 (at_ k)] 3 1 1 rfl (by omega) rfl) ?_;intro A9 AK AZ;clear AB Kq AQ AP;(try simp only [zP]);refine rdyL [7,22] ?_;refine arc rfl (fun Kq AB=>?_) ?_
           ·go_simp;go_at_call 76;refine(Ar.out _ AK.out.be i k hi hkn m b18 b7 b8 b10 b13 (AK.out.c 5 0) (AK.out.c 0 0) (AK.out.c 1 0) (AK.out.c 2 0) (AK.out.c 3 0) (AK.out.lt 5 rfl) (AK.out.lt 0 rfl) (AK.out.lt 1 rfl) (AK.out.lt 2 rfl) (AK.out.lt 3 rfl) (AK.out.r 0 rfl)).mono ?_;rintro e wT ⟨a5,n5,c5,m5,d5,e5,f5,rfl,hR,hMI,hMC⟩;(try go_wp2_with fail);refine stW AB (Sy.pR (Sy.mcall AK.out hm0 hMC (by intro r hr;simp only [List.mem_cons,List.not_mem_nil,or_false]at hr;rcases hr with rfl | rfl | rfl;exact mst_Row;exact mst_C;exact mst_Row) (fun V hV=>MI.turned AK.out rfl rfl hMC hMI hV)) rfl rfl hR) ?_;intro A4 AG AR;clear AB Kq AK hMC hMI hR AZ;exact mW23_10
           refine arc rfl (fun Kq AB=>?_) ?_
           ·go_simp;refine stW AB (AK.out.al A9.heap.size #[.slice none 0 0,.bool false,.slice none 0 0,.slice none 0 0] 138 rfl) ?_;exact mW23_6
           exact AllReadyH.nil
          refine arc rfl (fun Kq AB=>?_) ?_
          ·go_simp;refine stW AB (AQ.out.al BB.heap.size #[.slice none 0 0,.bool false,.slice none 0 0,.slice none 0 0] 138 rfl) ?_;intro A9 AK AZ;clear AB Kq AQ AP;(try simp only [zP]);refine rdyL [7,19] ?_;refine arc rfl (fun Kq AB=>?_) ?_
           ·go_simp;go_at_call 76;refine(Ar.out _ AK.out.be i k hi hkn m b18 b7 b8 b10 b13 (AK.out.c 5 0) (AK.out.c 0 0) (AK.out.c 1 0) (AK.out.c 2 0) (AK.out.c 3 0) (AK.out.lt 5 rfl) (AK.out.lt 0 rfl) (AK.out.lt 1 rfl) (AK.out.lt 2 rfl) (AK.out.lt 3 rfl) (AK.out.r 0 rfl)).mono ?_;rintro e wT ⟨a5,n5,c5,m5,d5,e5,f5,rfl,hR,hMI,hMC⟩;(try go_wp2_with fail);refine stW AB (Sy.pR (Sy.mcall AK.out hm0 hMC (by intro r hr;simp only [List.mem_cons,List.not_mem_nil,or_false]at hr;rcases hr with rfl | rfl | rfl;exact mst_Row;exact mst_C;exact mst_Row) (fun V hV=>MI.turned AK.out rfl rfl hMC hMI hV)) rfl rfl hR) ?_;intro A4 AG AR;clear AB Kq AK hMC hMI hR AZ;exact mW23_11
           refine arc rfl (fun Kq AB=>?_) ?_
           ·go_simp;refine stW AB (AK.out.onew A9.heap.size #[.int .i64 (at_ k)] 3 1 1 rfl (by omega) rfl) ?_;exact mW23_6
           exact AllReadyH.nil
          exact AllReadyH.nil
         case rest=>
          clear hS Ab AY BY v5 v6 hyn1 hyn2;obtain ⟨c25,D,rfl,An,hS⟩:=hcut;have hzq:nC T3[k]=nx (rw_ t) k i:=(Ag.out.2.2 k hk61).trans (if_pos rfl);have BD:=ζ (List.getElem_mem hk61);have BZ:=ζ (Ag.out.2.1 _ (List.getElem_mem hk61));have BE:=ζ (fun j v (hj:(cC T3[k])[j]? =some v)=>show(LC T3).toArray[k*4+j]? =some v by rw [List.getElem?_toArray,LC_get hk61 (List.getElem?_eq_some_iff.1 hj).1];exact hj);generalize T3[k]=z at*;have B8:=ζ (show Bq 17800 D.q by rw [An.out.1];exact BR.out);obtain ⟨VD,hVD⟩:∃V,Value.agg (cC D).toArray=V:=⟨_,rfl⟩
          obtain ⟨VZ,hVZ⟩:∃V,Value.agg (cC z).toArray=V:=⟨_,rfl⟩
          obtain ⟨bb,hbb⟩:∃bb,betB (D.q,D.bs) (nC z)=bb:=⟨_,rfl⟩
          have Bp:=ζ (fun W (h1:CRd w.heap.size D W) (h2:CRd w.heap.size z W)=>show Calls Tryz.prog 78 #[VD,VZ] W (Gives (.bool bb) W)by
           rw [<-hVD,<-hVZ,<-hbb];exact better_any W _ D z h1 h2 B8.out BZ.out (by omega) (by omega))
          have BS:=ζ hVD;have Aj:=ζ hVZ;have B9:=ζ (show nx (rw_ t) k (i+1)=if bb=true then nC D else nx (rw_ t) k i by
           rw [HN.out,<-hbb,An.out.1,An.out.2.1,hzq];obtain ⟨A1,Br⟩:=An.out.2.2;unfold nC;rw [Br,An.out.1,An.out.2.1];simp)
          clear hVD hVZ hbb hzq HN BR An;have v1:IntKind.i64.wrap ((i:Int)+1)=(i:Int)+1:=IntWalk.i64_in _ (by omega);have k0:(0:Int)<=(k:Int):=(by omega);have k1:(k:Int) < 61:=(by omega);go_upto_region 25 with fail
          refine wp_region_noPanic ?_;refine wp_region_held_drew (S:=(fun w'=>w'.rangeAt c25 0 (cC D)/\w'.rangeAt b22 (k*4) (cC z)/\True)) (by kernel_rfl) ⟨(hS.out.drew.range 9 rfl),(fun j v hj=>hS.out.drew.cell 8 (k*4+j) rfl (BE.out j v hj)),trivial⟩ (fun hH=>?_);refine wpAnyH_geny (show Sy w _ [(b7,#[.slice sa sn sc],25),(b8,#[.int .i64 a],3),(b10,#[.int .i64 unit],3),(b13,#[.int .i64 depth],3),(b15,zR,42),(b18,#[.map (some m)],134),(b20,(LC T).toArray,139),(b21,(cC C).toArray,138),(b22,(LC T3).toArray,139),(c25,(cC D).toArray,138)] [] [MI m cost,RowRd w.heap.size T,CRd w.heap.size C,RowRd w.heap.size T3,CRd w.heap.size D]from hS.out.drew) hH ?_;intro Bs hc A6;have A8:=ζ hc;clear hc hH hS;refine wpAnyH_take (i:=0) (oi:=⟨_,_,_,_,_,_⟩) (v:=VD) rfl (by kernel_rfl) (by kernel_rfl) (by kernel_rfl) (fun _ _ _ h=>h) (yieldsIf_ld (by rfl) _ _ rfl c25 0 rfl (cC D) _ (fun _ h=>h.1) Tryz.underlying138 rfl size_cut VD BS.out) A6 ?_;(try simp only [zP]);refine tkA 1 rfl A6 ?_;(try simp only [zP]);refine tkA 2 rfl A6 ?_;(try simp only [zP]);refine wpAnyH_take (i:=3) (oi:=⟨_,_,_,_,_,_⟩) (v:=VZ) rfl (by kernel_rfl) (by kernel_rfl) (by kernel_rfl) (fun _ _ _ h=>h) (yieldsIf_ld (by rfl) _ _ rfl b22 (k*4) rfl (cC z) _ (fun _ h=>h.2.1) Tryz.underlying138 rfl size_cut VZ Aj.out) A6 ?_;(try simp only [zP]);refine rdy1 4 rfl (fun Kq AB=>?_);go_simp;go_at_call 78;refine(Bp.out _ (A8.out.r 4 rfl) ((A8.out.r 3 rfl:RowRd w.heap.size T3 _) _ BD.out)).mono ?_;rintro e wT ⟨rfl,hb⟩;(try go_wp2_with fail);refine stepZ AB (show Sy w _ [(b7,#[.slice sa sn sc],25),(b8,#[.int .i64 a],3),(b10,#[.int .i64 unit],3),(b13,#[.int .i64 depth],3),(b15,zR,42),(b18,#[.map (some m)],134),(b20,(LC T).toArray,139),(b21,(cC C).toArray,138),(b22,(LC T3).toArray,139),(c25,(cC D).toArray,138)] [] [MI m cost,RowRd w.heap.size T,CRd w.heap.size C,RowRd w.heap.size T3,CRd w.heap.size D]from(A8.out.call hb)) (fun _ hX=>⟨(hX.range 9 rfl),(fun j v hj=>hX.cell 8 (k*4+j) rfl (BE.out j v hj)),trivial⟩) ?_;intro Bx Ad Bb;clear AB Kq A8 hb A6;(try simp only [zP]);refine wpAnyH_done (by kernel_rfl) ?_ _;refine NoPanic.normal ?_;cases bb with
          | false=>
            go_wp2;go_roundw
            case rel=>exact⟨i+1,T3,by omega,by go_num,ζ (Ag.out.congr (fun j=>by
             by_cases hj:j=k
             ·rw [if_pos hj,if_pos hj,B9.out];rfl
             ·rw [if_neg hj,if_neg hj])),ζ ((Ad.out.thin (sub_take 9 _ rfl) (List.Sublist.refl _)).imp (fun V h r hr=>by simp only [List.mem_cons,List.not_mem_nil,or_false]at hr;rcases hr with rfl | rfl | rfl | rfl;exact h _ (List.mem_of_getElem? (i:=0) rfl);exact h _ (List.mem_of_getElem? (i:=1) rfl);exact h _ (List.mem_of_getElem? (i:=2) rfl);exact h _ (List.mem_of_getElem? (i:=3) rfl)))⟩
            case measure=>simp [intOf];omega
          | true=>
            have Bz:=ζ (Ad.out.range 9 rfl);go_upto_region 26 with fail
            go_upto_region 27 with (first | ((with_reducible refine wpList_ld (o:=⟨some 139,_,_,_,_,_⟩) rfl _ _ rfl _ _ ?_ (cC D) _ Bz.out Tryz.underlying138 ?_ ?_ VD BS.out ?_);(· exact rfl);(· exact rfl);(· exact size_cut);(try simp only [zP])) | ((with_reducible refine wpList_stC (b:=b22) (T:=T3) (t:=139) (o:=⟨none,_,_,_,_,_⟩) rfl Ad.out 8 ?_ _ _ _ rfl hk61 ?_ D ?_ size_cut ?_);(· exact rfl);(· exact rfl);(· exact BS.out.symm);intro VX h1;have hX:=ζ h1;clear h1) | fail)
            go_wp2;go_roundw
            case rel=>exact⟨i+1,T3.set k D,by omega,by go_num,ζ (Ag.out.put B8.out (k:=k) (by rw [if_pos rfl,B9.out];rfl) (fun j hj=>by rw [if_neg hj,if_neg hj])),ζ ((hX.out.thin (sub_take 9 _ rfl) (List.Sublist.refl _)).imp (fun V h r hr=>by
             have h3:=h _ (List.mem_of_getElem? (i:=3) rfl);have h4:=h _ (List.mem_of_getElem? (i:=4) rfl);simp only [List.mem_cons,List.not_mem_nil,or_false]at hr;rcases hr with rfl | rfl | rfl | rfl
             ·exact h _ (List.mem_of_getElem? (i:=0) rfl)
             ·exact h _ (List.mem_of_getElem? (i:=1) rfl)
             ·exact h _ (List.mem_of_getElem? (i:=2) rfl)
             ·exact RowRd.put h3 h4))⟩
            case measure=>simp [intOf];omega
      ·obtain rfl:i=k:=by omega
       clear hi hik;have v1:IntKind.i64.wrap ((i:Int)+1)=(i:Int)+1:=IntWalk.i64_in _ (by omega);go_wp2;go_roundw
       case rel=>exact⟨i+1,T3,by omega,by omega,by go_num,ζ (Ag.out.congr (fun j=>by
        by_cases hj:j=i
        ·subst hj;rw [if_pos rfl,if_pos (by omega)]
        ·rw [if_neg hj];by_cases h:1<=j/\j < i
         ·rw [if_pos h,if_pos (by omega)]
         ·rw [if_neg h,if_neg (by omega)])),hS⟩
       case measure=>simp [intOf];omega
    ·obtain rfl:k=n+1:=by omega
     have hn61:n < T2.length:=(by have:=As.out.1;omega);have Av:=ζ (show TabOK T2 (rw_ (t+1))from As.out.congr (fun j=>by
      rw [BP.out];by_cases h:1<=j/\j<=n
      ·rw [if_pos h,if_pos (by omega)]
      ·rw [if_neg h,if_neg (by omega)]))
     have BD:=ζ (List.getElem_mem hn61);have Bc:=ζ (Av.out.2.2 n hn61);have BZ:=ζ (As.out.2.1 _ (List.getElem_mem hn61));have BE:=ζ (hS.out.rangeC 8 rfl hn61);generalize T2[n]=z at*;obtain ⟨VZ,hVZ⟩:∃V,Value.agg (cC z).toArray=V:=⟨_,rfl⟩
     have Aj:=ζ hVZ;obtain ⟨VT,hVT⟩:∃V,Value.agg (LC T2).toArray=V:=⟨_,rfl⟩
     have Ak:=ζ hVT;have Ap:=ζ (show bst (t+1)=takeC (nC z) (nC C)by rw [BQ.out,Bc.out,Ax.out.1]);have Ac:=ζ Av.out.1;have BM:=ζ BL.out.1;clear hVZ hVT Bc As hk1 hk2 hkn;have m0:(0:Int)<=(n:Int):=(by omega);have m1:(n:Int) < 61:=(by omega);have j3:¬ ((n+1:Nat):Int)<=(n:Int):=(by omega);go_upto_region 28 with fail
     go_upto_region 29 with (first | ((with_reducible refine wpList_ld (o:=⟨some 144,_,_,_,_,_⟩) rfl _ _ rfl _ _ ?_ (cC z) _ BE.out Tryz.underlying138 ?_ ?_ VZ Aj.out ?_);(· exact rfl);(· exact rfl);(· exact size_cut);(try simp only [zP])) | ((with_reducible refine wpList_al (o:=⟨some 26,_,_,_,_,_⟩) rfl hS.out _ rfl _ zero_cut ?_);intro b26 V1 h1;have hO:=ζ h1;clear h1 hS;(try simp only [zP])) | ((with_reducible refine wpList_st (b:=b26) (old:=(Value.agg (cC zC).toArray).cells) (t:=138) (o:=⟨none,_,_,_,_,_⟩) rfl hO.out 9 ?_ _ _ _ rfl ?_ (cC z).toArray ?_ ?_ ?_ (cC_one z) ?_);(· exact rfl);(· exact rfl);(· exact Aj.out.symm);(· exact size_cut);(· exact rfl);intro V2 h1;have hP:=ζ (show Sy w V2 [(b7,#[.slice sa sn sc],25),(b8,#[.int .i64 a],3),(b10,#[.int .i64 unit],3),(b13,#[.int .i64 depth],3),(b15,zR,42),(b18,#[.map (some m)],134),(b20,(LC T).toArray,139),(b21,(cC C).toArray,138),(b22,(LC T2).toArray,139),(b26,(cC z).toArray,138)] [] [MI m cost,RowRd w.heap.size T,CRd w.heap.size C,RowRd w.heap.size T2]from h1);clear h1 hO) | fail)
     clear BE hn61;obtain ⟨zb,hzb⟩:∃x,z.ba=x:=⟨_,rfl⟩
     obtain ⟨cb,hcb⟩:∃x,C.ba=x:=⟨_,rfl⟩
     have y3:V2.cell? ⟨b26,3,none⟩=some (.slice zb z.bn z.bc):=hP.out.cell 9 3 rfl (by rw [<-hzb];rfl);have y7:V2.cell? ⟨b21,3,none⟩=some (.slice cb C.bn C.bc):=hP.out.cell 7 3 rfl (by rw [<-hcb];rfl);have Bf:=ζ hzb;have Af:=ζ hcb;clear hzb hcb;have hnz:=notnil_int zb z.bn z.bc;have hnc:=isnil_int cb C.bn C.bc;cases zb with
     | none=>
       have HX:=ζ (show nC C=bst (t+1)by rw [Ap.out];unfold takeC;rw [show nC z=none by unfold nC;rw [Bf.out];rfl]);clear Ap;have Aq:=ζ (hP.out.range 8 rfl);go_upto_region 31 with fail
       go_upto_region 32 with (first | ((with_reducible refine wpList_ld (o:=⟨some 162,_,_,_,_,_⟩) rfl _ _ rfl _ _ ?_ (LC T2) _ Aq.out Tryz.underlying139 ?_ ?_ VT Ak.out ?_);(· exact rfl);(· exact rfl);(· exact(by rw [LC_len,Ac.out];exact size_tab));(try simp only [zP])) | ((with_reducible refine wpList_st (b:=b20) (old:=(LC T).toArray) (t:=139) (o:=⟨none,_,_,_,_,_⟩) rfl hP.out 6 ?_ _ _ _ rfl ?_ (LC T2).toArray ?_ ?_ ?_ (LC_one T2) ?_);(· exact rfl);(· exact rfl);(· exact Ak.out.symm);(· exact(by rw [List.size_toArray,LC_len,Ac.out];exact size_tab));(· exact(by simp [LC_len,BM.out,Ac.out]));intro V5 h1;have hU:=ζ h1;clear h1) | fail)
       exact mW23_12
     | some A1=>
       have BF:=ζ (show nC z=some (z.q,z.bs)by unfold nC;rw [Bf.out];simp);cases cb with
       | none=>
         have HX:=ζ (show nC z=bst (t+1)by rw [Ap.out,BF.out,show nC C=none by unfold nC;rw [Af.out];rfl];rfl);clear Ap BF;have BT:=ζ (hP.out.range 9 rfl);go_upto_region 30 with fail
         go_upto_region 31 with (first | ((with_reducible refine wpList_ld (o:=⟨some 161,_,_,_,_,_⟩) rfl _ _ rfl _ _ ?_ (cC z) _ BT.out Tryz.underlying138 ?_ ?_ VZ Aj.out ?_);(· exact rfl);(· exact rfl);(· exact size_cut);(try simp only [zP])) | ((with_reducible refine wpList_st (b:=b21) (old:=(cC C).toArray) (t:=138) (o:=⟨none,_,_,_,_,_⟩) rfl hP.out 7 ?_ _ _ _ rfl ?_ (cC z).toArray ?_ ?_ ?_ (cC_one z) ?_);(· exact rfl);(· exact rfl);(· exact Aj.out.symm);(· exact size_cut);(· exact rfl);intro V4 h1;have hT:=ζ h1;clear h1) | fail)
         exact mW23_5
       | some A2=>
         have BU:=ζ (show nC C=some (C.q,C.bs)by unfold nC;rw [Af.out];simp);have Bg:=ζ (fun W (h1:CRd w.heap.size z W) (h2:CRd w.heap.size C W)=>hcmp_is (v:=cmpQ z.q C.q) h1.1 h2.1 BZ.out Ax.out.2 (by omega) (by omega) rfl);have BV:=ζ (fun(h:cmpQ z.q C.q < 0)=>show nC z=bst (t+1)by rw [Ap.out,BF.out,BU.out];unfold takeC;simp only;rw [if_pos h]);have BW:=ζ (fun(h:¬ cmpQ z.q C.q < 0)=>show nC C=bst (t+1)by rw [Ap.out,BF.out,BU.out];unfold takeC;simp only;rw [if_neg h]);generalize cmpQ z.q C.q=v at*;have e0:V2.cell? ⟨b26,0,none⟩=some (.slice z.a z.n z.c):=hP.out.c 9 0;have e1:V2.cell? ⟨b26,1,none⟩=some (.bool z.m):=hP.out.c 9 1;have e2:V2.cell? ⟨b26,2,none⟩=some (.slice z.d z.e z.f):=hP.out.c 9 2;have f0:V2.cell? ⟨b21,0,none⟩=some (.slice C.a C.n C.c):=hP.out.c 7 0;have f1:V2.cell? ⟨b21,1,none⟩=some (.bool C.m):=hP.out.c 7 1;have f2:V2.cell? ⟨b21,2,none⟩=some (.slice C.d C.e C.f):=hP.out.c 7 2;clear Ap BF BU;go_wp2_with fail
         refine(Bg.out _ ((hP.out.r 3 rfl:RowRd w.heap.size T2 _) _ BD.out) (hP.out.r 2 rfl)).mono ?_;rintro e V3 ⟨rfl,hb⟩;have BN:=ζ (hP.out.call hb);clear hb hP Bg e0 e1 e2 f0 f1 f2 y3 y7;by_cases hv:v < 0
         ·have HX:=ζ (BV.out (by first | exact hv | omega));clear BV BW;have BT:=ζ (BN.out.range 9 rfl);go_upto_region 30 with fail
          go_upto_region 31 with (first | ((with_reducible refine wpList_ld (o:=⟨some 161,_,_,_,_,_⟩) rfl _ _ rfl _ _ ?_ (cC z) _ BT.out Tryz.underlying138 ?_ ?_ VZ Aj.out ?_);(· exact rfl);(· exact rfl);(· exact size_cut);(try simp only [zP])) | ((with_reducible refine wpList_st (b:=b21) (old:=(cC C).toArray) (t:=138) (o:=⟨none,_,_,_,_,_⟩) rfl BN.out 7 ?_ _ _ _ rfl ?_ (cC z).toArray ?_ ?_ ?_ (cC_one z) ?_);(· exact rfl);(· exact rfl);(· exact Aj.out.symm);(· exact size_cut);(· exact rfl);intro V4 h1;have hT:=ζ h1;clear h1) | fail)
          exact mW23_5
         ·have HX:=ζ (BW.out (by first | exact hv | omega));clear BV BW;have Aq:=ζ (BN.out.range 8 rfl);go_upto_region 31 with fail
          go_upto_region 32 with (first | ((with_reducible refine wpList_ld (o:=⟨some 162,_,_,_,_,_⟩) rfl _ _ rfl _ _ ?_ (LC T2) _ Aq.out Tryz.underlying139 ?_ ?_ VT Ak.out ?_);(· exact rfl);(· exact rfl);(· exact(by rw [LC_len,Ac.out];exact size_tab));(try simp only [zP])) | ((with_reducible refine wpList_st (b:=b20) (old:=(LC T).toArray) (t:=139) (o:=⟨none,_,_,_,_,_⟩) rfl BN.out 6 ?_ _ _ _ rfl ?_ (LC T2).toArray ?_ ?_ ?_ (LC_one T2) ?_);(· exact rfl);(· exact rfl);(· exact Ak.out.symm);(· exact(by rw [List.size_toArray,LC_len,Ac.out];exact size_tab));(· exact(by simp [LC_len,BM.out,Ac.out]));intro V5 h1;have hU:=ζ h1;clear h1) | fail)
          exact mW23_12
  ·have HX:=ζ (show nC C=bst mo by rw [Ax.out.1,show t=mo by omega]);have j1:¬ (t:Int) < (mo:Int):=(by omega);obtain ⟨cb,hcb⟩:∃x,C.ba=x:=⟨_,rfl⟩
   have y7:wr.cell? ⟨b21,3,none⟩=some (.slice cb C.bn C.bc):=hS.out.cell 7 3 rfl (by rw [<-hcb];rfl);have Af:=ζ hcb;clear hcb hlt;have hnc:=isnil_int cb C.bn C.bc;cases cb with
   | none=>
     have HE:=ζ (show bst mo=none by rw [<-HX.out];unfold nC;rw [Af.out];rfl);have DA:=hS.out.c 4 0;have Bj:=hS.out.f 4 0;have DB:=hS.out.c 4 1;have Bk:=hS.out.f 4 1;have DC:=hS.out.c 4 2;have Bl:=hS.out.f 4 2;go_wp2;have hZ:=ζ (hS.out|>.set (j:=0) (v:= .slice none 0 0) 4 rfl|>.set (j:=1) (v:= .bool false) 4 rfl|>.set (j:=2) (v:= .slice none 0 0) 4 rfl);refine ret_sy hZ.out (v:= .tuple #[.slice none 0 0,.agg #[.slice none 0 0,.bool false,.slice none 0 0],.int .i64 12]) (fun hF=>?_) rfl (fun hF=>by show BestPost w (bst mo) _ _;rw [HE.out];exact⟨rfl,hF.be⟩);have g0:=hF.c 4 0;have g1:=hF.c 4 1;have g2:=hF.c 4 2;simp [results,Tryz.results32,go_sem,g0,g1,g2]
   | some A1=>
     have HE:=ζ (show bst mo=some (C.q,C.bs)by rw [<-HX.out];unfold nC;rw [Af.out];simp);clear HX;go_upto_region 35 with fail
     refine wp_region_held_drew (S:=(fun w'=>w'.cell? ⟨b21,0,none⟩=some (.slice C.a C.n C.c)/\w'.cell? ⟨b21,1,none⟩=some (.bool C.m)/\w'.cell? ⟨b21,2,none⟩=some (.slice C.d C.e C.f)/\w'.cell? ⟨b21,3,none⟩=some (.slice (some A1) C.bn C.bc)/\True)) (by kernel_rfl) ⟨(hS.out.drew.c 7 0),(hS.out.drew.c 7 1),(hS.out.drew.c 7 2),(hS.out.drew.cell 7 3 rfl (by rw [<-Af.out];rfl)),trivial⟩ (fun hH=>?_);refine wpAnyH_geny (show Sy w _ [(b7,#[.slice sa sn sc],25),(b8,#[.int .i64 a],3),(b10,#[.int .i64 unit],3),(b13,#[.int .i64 depth],3),(b15,zR,42),(b18,#[.map (some m)],134),(b20,(LC T).toArray,139),(b21,(cC C).toArray,138)] [] [MI m cost,RowRd w.heap.size T,CRd w.heap.size C]from hS.out.drew) hH ?_;intro DD hc A7;have Al:=ζ hc;clear hc hH hS;refine tkA 0 rfl A7 ?_;(try simp only [zP]);refine tkA 1 rfl A7 ?_;(try simp only [zP]);refine tkA 2 rfl A7 ?_;(try simp only [zP]);refine tkA 3 rfl A7 ?_;(try simp only [zP]);refine rdy1 4 rfl (fun Kq AB=>?_);go_simp;refine stepZ AB (show Sy w _ [(b7,#[.slice sa sn sc],25),(b8,#[.int .i64 a],3),(b10,#[.int .i64 unit],3),(b13,#[.int .i64 depth],3),(b15,zR,42),(b18,#[.map (some m)],134),(b20,(LC T).toArray,139),(b21,(cC C).toArray,138)] [] [MI m cost,RowRd w.heap.size T,CRd w.heap.size C]from Al.out) (fun _ hX=>⟨(hX.c 7 0),(hX.c 7 1),(hX.c 7 2),(hX.cell 7 3 rfl (by rw [<-Af.out];rfl)),trivial⟩) ?_;intro DE A3 BG;clear AB Kq Al A7;(try simp only [zP]);refine rdy1 5 rfl (fun Kq AB=>?_);have cQ0:=A3.out.c 4 0;have fQ0:=A3.out.f 4 0;have cQ1:=A3.out.c 4 1;have fQ1:=A3.out.f 4 1;have cQ2:=A3.out.c 4 2;have fQ2:=A3.out.f 4 2;go_simp;refine stepZ AB (show Sy w _ [(b7,#[.slice sa sn sc],25),(b8,#[.int .i64 a],3),(b10,#[.int .i64 unit],3),(b13,#[.int .i64 depth],3),(b15,#[.slice C.a C.n C.c,.bool C.m,.slice C.d C.e C.f],42),(b18,#[.map (some m)],134),(b20,(LC T).toArray,139),(b21,(cC C).toArray,138)] [] [MI m cost,RowRd w.heap.size T,CRd w.heap.size C]from(A3.out|>.set (j:=0) (v:= .slice C.a C.n C.c) 4 rfl|>.set (j:=1) (v:= .bool C.m) 4 rfl|>.set (j:=2) (v:= .slice C.d C.e C.f) 4 rfl)) (fun _ hX=>⟨(hX.c 7 0),(hX.c 7 1),(hX.c 7 2),(hX.cell 7 3 rfl (by rw [<-Af.out];rfl)),trivial⟩) ?_;intro DF Am BH;clear AB Kq A3 cQ0 fQ0 cQ1 fQ1 cQ2 fQ2 BG;(try simp only [Act.put]);refine rdy1 6 rfl (fun Kq AB=>?_);go_simp;refine stepZ AB (show Sy w _ [(b7,#[.slice sa sn sc],25),(b8,#[.int .i64 a],3),(b10,#[.int .i64 unit],3),(b13,#[.int .i64 depth],3),(b15,#[.slice C.a C.n C.c,.bool C.m,.slice C.d C.e C.f],42),(b18,#[.map (some m)],134),(b20,(LC T).toArray,139),(b21,(cC C).toArray,138)] [] [MI m cost,RowRd w.heap.size T,CRd w.heap.size C]from Am.out) (fun _ hX=>⟨(hX.c 7 0),(hX.c 7 1),(hX.c 7 2),(hX.cell 7 3 rfl (by rw [<-Af.out];rfl)),trivial⟩) ?_;intro DG BI Bm;clear AB Kq Am BH;(try simp only [zP]);refine wpAnyH_done (by kernel_rfl) ?_ _;go_wp2;refine ret_sy BI.out (v:= .tuple #[.slice (some A1) C.bn C.bc,.agg #[.slice C.a C.n C.c,.bool C.m,.slice C.d C.e C.f],.int .i64 0]) (fun hF=>?_) rfl (fun hF=>by show BestPost w (bst mo) _ _;rw [HE.out];exact⟨_,_,_,_,_,_,_,_,_,_,rfl,(hF.r 2 rfl:CRd _ C _).1,by rw [<-Af.out];exact(hF.r 2 rfl:CRd _ C _).2,hF.be⟩);have g0:=hF.c 4 0;have g1:=hF.c 4 1;have g2:=hF.c 4 2;simp [results,Tryz.results32,go_sem,g0,g1,g2]
end
end Go.Proofs.YthmdhlopeponcaaGreatDoor

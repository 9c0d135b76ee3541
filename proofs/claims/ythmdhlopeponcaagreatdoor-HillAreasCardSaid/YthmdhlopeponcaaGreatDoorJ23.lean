/- a part of the proof -/
import Derived.Test.YthmdhlopeponcaaGreatDoorJ1
import Derived.Test.YthmdhlopeponcaaGreatDoorJ22
import Derived.Test.YthmdhlopeponcaaGreatDoorJ0
import Derived.Test.YthmdhlopeponcaaGreatDoorJ3
set_option maxRecDepth 100000
set_option maxHeartbeats 8000000
namespace Go.Proofs.YthmdhlopeponcaaGreatDoor
open Go.RowKit Go.Shelf Dig
theorem L1_set (L:List Int) (k:Nat) (v:Int):(L1 L).set k (.int .i64 v)=L1 (L.set k v):=by unfold L1;rw [List.map_set]
def PickC (op:Int->Int->Int) (g:Nat) (cb:Array Value):Prop:=Picks op/\∀ (W:World) (x y:Int),Calls Tryz.prog g (#[.int .i64 x,.int .i64 y]++cb) W (Gives (.int .i64 (op x y)) W)
section
variable (w W:World)
theorem mW13_0 {P_ : Prop} (h : P_ := by
 try simp only [zP]
 refine rdy1 14 rfl (fun Kq AA=>?_)
 go_simp
 refine(HKC.out _).mono ?_
 rintro e wT ⟨rfl,hb⟩
 (try go_wp2_with fail)
 refine stepZ AA (show Sy w _ [] [⟨.slice (some ⟨g,0,none⟩) l.length c,3,1,l.length,L1 L⟩] []from(AJ.out.call hb)) (fun _ hX=>trivial) ?_
 intro AX AD AK
 clear AA Kq AJ hb AO
 try simp only [zP]
 refine tkA 15 rfl AK ?_
 try simp only [zP]
 refine rdy1 16 rfl (fun Kq AA=>?_)
 have cQ0:=AD.out.rcell 0 rfl HX.out
 have fQ0:=AD.out.rfree 0 rfl n1
 go_simp
 refine stepZ AA (show Sy w _ [] [⟨.slice (some ⟨g,0,none⟩) l.length c,3,1,l.length,(L1 L).set n1 (.int .i64 v)⟩] []from(AD.out.ostore 0 rfl n1 (.int .i64 v))) (fun _ hX=>trivial) ?_
 intro AY AR AT
 clear AA Kq AD cQ0 fQ0 AK
 try simp only [Act.put]
 refine wpAnyH_done (by kernel_rfl) ?_ _
 have hJ:=ζ AR.out
 rw [HSE.out]at hJ
 go_wp2
 go_roundw
 case rel=>exact⟨n1,L.set n1 v,by have:=HN1.out;omega,by rw [List.length_set];exact hL,by go_num,HST2,hJ⟩
 case measure=>simp [intOf];omega) : P_ := h
theorem mW13_1 {P_ : Prop} (h : P_ := by
 try simp only [zP]
 refine rdy1 14 rfl (fun Kq AA=>?_)
 go_simp
 refine(HKC.out _).mono ?_
 rintro e wT ⟨rfl,hb⟩
 (try go_wp2_with fail)
 refine stepZ AA (show Sy w _ [] [⟨.slice (some ⟨g,0,none⟩) l.length c,3,1,l.length,L1 L⟩] []from(AL.out.call hb)) (fun _ hX=>trivial) ?_
 intro A1 AE AM
 clear AA Kq AL hb AQ
 try simp only [zP]
 refine tkA 15 rfl AM ?_
 try simp only [zP]
 refine rdy1 16 rfl (fun Kq AA=>?_)
 have cQ0:=AE.out.rcell 0 rfl HX.out
 have fQ0:=AE.out.rfree 0 rfl m
 go_simp
 refine stepZ AA (show Sy w _ [] [⟨.slice (some ⟨g,0,none⟩) l.length c,3,1,l.length,(L1 L).set m (.int .i64 v)⟩] []from(AE.out.ostore 0 rfl m (.int .i64 v))) (fun _ hX=>trivial) ?_
 intro A2 AS AU
 clear AA Kq AE cQ0 fQ0 AM
 try simp only [Act.put]
 refine wpAnyH_done (by kernel_rfl) ?_ _
 have hJ:=ζ AS.out
 rw [HSE.out]at hJ
 go_wp2
 go_roundw
 case rel=>exact⟨m,L.set m v,by have:=HMI.out;omega,by rw [List.length_set];exact hL,rfl,HST2,hJ⟩
 case measure=>simp [intOf]) : P_ := h
theorem follow_any (g c:Nat) (l:List Int) (s:Int) (op:Int->Int->Int) (pk:Nat) (hp:PickC op pk #[]) (eg:EG pk) (hn0:0 < l.length) (hn:l.length<=100) (_hcap:l.length<=c/\c<=maxLen) (hf:∀i,-200000<=bX l i/\bX l i<=200000) (hs: -3000<=s/\s<=3000)
  (hS:Sy w W [] [⟨.slice (some ⟨g,0,none⟩) l.length c,3,1,l.length,L1 l⟩] []):
  Calls Tryz.prog 121 #[.slice (some ⟨g,0,none⟩) l.length c,.int .i64 s,.func (.func pk) #[] #[]] W
   (fun e w'=>e= .returned (.slice (some ⟨g,0,none⟩) l.length c)/\Sy w w' [] [⟨.slice (some ⟨g,0,none⟩) l.length c,3,1,l.length,L1 (folL op s l)⟩] []):=by
 have HF:=ζ hf
 have HP:=ζ hp
 have hC:=ζ hS
 unfold maxLen at _hcap
 clear hf hp hS
 go_enter Tryz.func121,Tryz.ntmps121
 go_wp2
 go_loopw [7] (fun iv wr=>∃ (k:Nat) (L:List Int),k+1<=l.length/\L.length=l.length/\iv= .int .i64 ((k+1:Nat):Int)/\Hid (∀i,i < l.length->bX L i=if i < k+1 then fwG op (bX l) s i else bX l i)/\Hid (Sy w wr [] [⟨.slice (some ⟨g,0,none⟩) l.length c,3,1,l.length,L1 L⟩] [])) (fun iv _=>l.length - (intOf iv).toNat)
 case atStart=>exact⟨0,l,by omega,rfl,rfl,ζ (fun i hi=>by
  split
  ·obtain rfl:i=0:=by omega
   rfl
  ·rfl),hC⟩
 case round=>
  clear hC
  obtain ⟨k,L,hk,hL,rfl,HV,hS⟩:=hrel
  by_cases hlt:k+1 < l.length
  ·have HX:=ζ (show(L1 L)[k+1]? =some (.int .i64 (bX L (k+1)))by rw [bX_at (by omega)];exact L1_get L (k+1) (by omega))
   have HY:=ζ (show(L1 L)[k]? =some (.int .i64 (bX L k))by rw [bX_at (by omega)];exact L1_get L k (by omega))
   have hb:=fol_bd1 HP.out.1 HF.out hs hn HV.out (show k < l.length by omega)
   have HST:=ζ (fun x y (hx:bX L (k+1)=x) (hy:bX L k=y)=>fol_step1 hL hlt HV.out hx hy)
   have HST2:=ζ (HST.out _ _ rfl rfl)
   clear HST HV
   generalize bX L (k+1)=x at*
   generalize bX L k=y at*
   have HKC:=ζ (fun V=>HP.out.2 V x (y+s))
   have HSE:=ζ (L1_set L (k+1) (op x (y+s)))
   generalize op x (y+s)=v at*
   have w1:IntKind.i64.wrap (y+s)=y+s:=IntWalk.i64_in _ (by omega)
   obtain ⟨n1,hn1⟩:∃n1:Nat,n1=k+1:=⟨_,rfl⟩
   rw [<-hn1]at HX HST2 HSE hlt⊢
   have i2:IntKind.i64.wrap ((n1:Int) - 1)=(k:Int):=by rw [IntWalk.i64_in _ (by omega)];omega
   have i0:(0:Int)<=(k:Int):=by omega
   have i1:(k:Int) < (l.length:Int):=by omega
   have i3:(0:Int)<=(n1:Int):=by omega
   have i4:(n1:Int) < (l.length:Int):=by omega
   have HN1:=ζ hn1
   clear hn1 hk
   go_upto_region 4 with fail
   refine wp_region_held_drew (S:=(fun w'=>True)) (by kernel_rfl) trivial (fun hH=>?_)
   refine wpAnyH_geny (show Sy w _ [] [⟨.slice (some ⟨g,0,none⟩) l.length c,3,1,l.length,L1 L⟩] []from hS.out.drew) hH ?_
   intro A3 hc AB
   have AH:=ζ hc
   clear hc hH hS
   refine tkA 0 rfl AB ?_
   try simp only [zP]
   refine tkA 1 rfl AB ?_
   try simp only [zP]
   refine tkA 2 rfl AB ?_
   try simp only [zP]
   refine tkA 3 rfl AB ?_
   try simp only [zP]
   refine tkA 4 rfl AB ?_
   try simp only [zP]
   refine tkA 5 rfl AB ?_
   try simp only [zP]
   refine tkA 7 rfl AB ?_
   try simp only [zP]
   refine tkA 8 rfl AB ?_
   try simp only [zP]
   refine tkA 9 rfl AB ?_
   try simp only [zP]
   refine tkA 10 rfl AB ?_
   try simp only [zP]
   refine tkA 12 rfl AB ?_
   try simp only [zP]
   refine rdyL [6,11] ?_
   refine arc rfl (fun Kq AA=>?_) ?_
   ·have cQ0:=AH.out.rcell 0 rfl HX.out
    go_simp
    refine stepZ AA (show Sy w _ [] [⟨.slice (some ⟨g,0,none⟩) l.length c,3,1,l.length,L1 L⟩] []from AH.out) (fun _ hX=>trivial) ?_
    intro AV AF AN
    clear AA Kq AH cQ0 AB
    try simp only [zP]
    refine rdy1 11 rfl (fun Kq AA=>?_)
    have cQ0:=AF.out.rcell 0 rfl HY.out
    go_simp
    refine stepZ AA (show Sy w _ [] [⟨.slice (some ⟨g,0,none⟩) l.length c,3,1,l.length,L1 L⟩] []from AF.out) (fun _ hX=>trivial) ?_
    intro AW AJ AO
    clear AA Kq AF cQ0 AN
    try simp only [zP]
    refine tkA 13 rfl AO ?_
    exact mW13_0
   refine arc rfl (fun Kq AA=>?_) ?_
   ·have cQ0:=AH.out.rcell 0 rfl HY.out
    go_simp
    refine stepZ AA (show Sy w _ [] [⟨.slice (some ⟨g,0,none⟩) l.length c,3,1,l.length,L1 L⟩] []from AH.out) (fun _ hX=>trivial) ?_
    intro AV AF AN
    clear AA Kq AH cQ0 AB
    try simp only [zP]
    refine tkA 13 rfl AN ?_
    try simp only [zP]
    refine rdy1 6 rfl (fun Kq AA=>?_)
    have cQ0:=AF.out.rcell 0 rfl HX.out
    go_simp
    refine stepZ AA (show Sy w _ [] [⟨.slice (some ⟨g,0,none⟩) l.length c,3,1,l.length,L1 L⟩] []from AF.out) (fun _ hX=>trivial) ?_
    intro AW AJ AO
    clear AA Kq AF cQ0 AN
    exact mW13_0
   exact AllReadyH.nil
  ·have hkl:k+1=l.length:=by omega
   rw [hkl]at HV⊢
   clear hlt hkl
   have HV2:=ζ (show ∀i,i < l.length->bX L i=if l.length - 1<=i then bkG op (bX l) s l.length (l.length - 1 - i)else fwG op (bX l) s i from fun i hi=>by
    rw [HV.out i hi,if_pos (by omega)]
    split
    ·obtain rfl:i=l.length - 1:=by omega
     rw [Nat.sub_self];rfl
    ·rfl)
   have j0:IntKind.i64.wrap ((l.length:Int) - 2)=(l.length:Int) - 2:=IntWalk.i64_in _ (by omega)
   clear HV hk
   go_wp2
   go_loopw [8] (fun iv wr=>∃ (m:Nat) (L:List Int),m+1<=l.length/\L.length=l.length/\iv= .int .i64 ((m:Int) - 1)/\Hid (∀i,i < l.length->bX L i=if m<=i then bkG op (bX l) s l.length (l.length - 1 - i)else fwG op (bX l) s i)/\Hid (Sy w wr [] [⟨.slice (some ⟨g,0,none⟩) l.length c,3,1,l.length,L1 L⟩] [])) (fun iv _=>(intOf iv+1).toNat)
   case atStart=>exact⟨l.length - 1,L,by omega,hL,by congr 1;omega,HV2,hS⟩
   case round=>
    clear hS HV2 hL L j0
    obtain ⟨m',L,hm,hL,rfl,HV,hS⟩:=hrel
    rcases Nat.eq_zero_or_pos m' with hm0 | hm0
    ·subst hm0
     have HL:=ζ (show L=folL op s l from bX_ext (by rw [hL,folL_len]) fun i hi=>by rw [HV.out i (by omega),if_pos (Nat.zero_le _),folL_at (by omega)])
     go_wp2
     go_ret
     refine⟨rfl,?_⟩
     rw [<-HL.out];exact hS.out
    ·obtain ⟨m,rfl⟩:∃m,m'=m+1:=⟨m' - 1,by omega⟩
     have e0:(((m+1:Nat):Int)) - 1=(m:Int):=by omega
     rw [e0]
     have HX:=ζ (show(L1 L)[m]? =some (.int .i64 (bX L m))by rw [bX_at (by omega)];exact L1_get L m (by omega))
     have HY:=ζ (show(L1 L)[m+1]? =some (.int .i64 (bX L (m+1)))by rw [bX_at (by omega)];exact L1_get L (m+1) (by omega))
     have hb:=fol_bd HP.out.1 HF.out hs hn HV.out (show m+1 < l.length by omega)
     have HST2:=ζ (fol_step2 hL (by omega) HV.out (m:=m) rfl rfl)
     clear HV e0
     generalize bX L (m+1)=y at*
     generalize bX L m=x at*
     have HKC:=ζ (fun V=>HP.out.2 V x (y+s))
     have HSE:=ζ (L1_set L m (op x (y+s)))
     generalize op x (y+s)=v at*
     have w1:IntKind.i64.wrap (y+s)=y+s:=IntWalk.i64_in _ (by omega)
     have HMI:=ζ hm
     obtain ⟨n1,hn1⟩:∃n1:Nat,n1=m+1:=⟨_,rfl⟩
     rw [<-hn1]at HY hm
     have i2:IntKind.i64.wrap ((m:Int)+1)=(n1:Int):=by rw [IntWalk.i64_in _ (by omega)];omega
     have i5:IntKind.i64.wrap ((m:Int) - 1)=(m:Int) - 1:=IntWalk.i64_in _ (by omega)
     have i0:(0:Int)<=(m:Int):=by omega
     have i1:(m:Int) < (l.length:Int):=by omega
     have i3:(0:Int)<=(n1:Int):=by omega
     have i4:(n1:Int) < (l.length:Int):=by omega
     clear hn1 hm hm0
     go_upto_region 8 with fail
     refine wp_region_held_drew (S:=(fun w'=>True)) (by kernel_rfl) trivial (fun hH=>?_)
     refine wpAnyH_geny (show Sy w _ [] [⟨.slice (some ⟨g,0,none⟩) l.length c,3,1,l.length,L1 L⟩] []from hS.out.drew) hH ?_
     intro A4 hc AC
     have AI:=ζ hc
     clear hc hH hS
     refine tkA 0 rfl AC ?_
     try simp only [zP]
     refine tkA 1 rfl AC ?_
     try simp only [zP]
     refine tkA 2 rfl AC ?_
     try simp only [zP]
     refine tkA 3 rfl AC ?_
     try simp only [zP]
     refine tkA 4 rfl AC ?_
     try simp only [zP]
     refine tkA 5 rfl AC ?_
     try simp only [zP]
     refine tkA 7 rfl AC ?_
     try simp only [zP]
     refine tkA 8 rfl AC ?_
     try simp only [zP]
     refine tkA 9 rfl AC ?_
     try simp only [zP]
     refine tkA 10 rfl AC ?_
     try simp only [zP]
     refine tkA 12 rfl AC ?_
     try simp only [zP]
     refine rdyL [6,11] ?_
     refine arc rfl (fun Kq AA=>?_) ?_
     ·have cQ0:=AI.out.rcell 0 rfl HX.out
      go_simp
      refine stepZ AA (show Sy w _ [] [⟨.slice (some ⟨g,0,none⟩) l.length c,3,1,l.length,L1 L⟩] []from AI.out) (fun _ hX=>trivial) ?_
      intro AZ AG AP
      clear AA Kq AI cQ0 AC
      try simp only [zP]
      refine rdy1 11 rfl (fun Kq AA=>?_)
      have cQ0:=AG.out.rcell 0 rfl HY.out
      go_simp
      refine stepZ AA (show Sy w _ [] [⟨.slice (some ⟨g,0,none⟩) l.length c,3,1,l.length,L1 L⟩] []from AG.out) (fun _ hX=>trivial) ?_
      intro A0 AL AQ
      clear AA Kq AG cQ0 AP
      try simp only [zP]
      refine tkA 13 rfl AQ ?_
      exact mW13_1
     refine arc rfl (fun Kq AA=>?_) ?_
     ·have cQ0:=AI.out.rcell 0 rfl HY.out
      go_simp
      refine stepZ AA (show Sy w _ [] [⟨.slice (some ⟨g,0,none⟩) l.length c,3,1,l.length,L1 L⟩] []from AI.out) (fun _ hX=>trivial) ?_
      intro AZ AG AP
      clear AA Kq AI cQ0 AC
      try simp only [zP]
      refine tkA 13 rfl AP ?_
      try simp only [zP]
      refine rdy1 6 rfl (fun Kq AA=>?_)
      have cQ0:=AG.out.rcell 0 rfl HX.out
      go_simp
      refine stepZ AA (show Sy w _ [] [⟨.slice (some ⟨g,0,none⟩) l.length c,3,1,l.length,L1 L⟩] []from AG.out) (fun _ hX=>trivial) ?_
      intro A0 AL AQ
      clear AA Kq AG cQ0 AP
      exact mW13_1
     exact AllReadyH.nil
end
theorem picks_min:Picks min:=fun x y=>by omega
theorem picks_max:Picks max:=fun x y=>by omega
theorem feet1_any:PickC min 62 #[]:=⟨picks_min,fun W x y=>by
 show Calls _ _ #[.int .i64 x,.int .i64 y] _ _
 rcases Int.lt_or_le y x with h | h
 ·go_enter Tryz.func62,Tryz.ntmps62
  go_wp2
  go_ret
  exact⟨ret_int (by omega),Below.refl _ _⟩
 ·have h2:¬ y < x:=by omega
  go_enter Tryz.func62,Tryz.ntmps62
  go_wp2
  go_ret
  exact⟨ret_int (by omega),Below.refl _ _⟩⟩
theorem heads1_any:PickC max 64 #[]:=⟨picks_max,fun W x y=>by
 show Calls _ _ #[.int .i64 x,.int .i64 y] _ _
 rcases Int.lt_or_le x y with h | h
 ·go_enter Tryz.func64,Tryz.ntmps64
  go_wp2
  go_ret
  exact⟨ret_int (by omega),Below.refl _ _⟩
 ·have h2:¬ x < y:=by omega
  go_enter Tryz.func64,Tryz.ntmps64
  go_wp2
  go_ret
  exact⟨ret_int (by omega),Below.refl _ _⟩⟩
theorem eg_feet1:EG 62:=enters_of Tryz.func62 (by kernel_rfl) rfl
theorem eg_heads1:EG 64:=enters_of Tryz.func64 (by kernel_rfl) rfl
theorem eg_foot:EG 61:=enters_of Tryz.func61 (by kernel_rfl) rfl
theorem eg_head:EG 63:=enters_of Tryz.func63 (by kernel_rfl) rfl
def lvErr (l:List Pt) (bs:List Int) (far rise:Int):Int:=if brkB l bs=true then(if inB far 0 3000 && inB rise 0 3000 then 0 else 3)else 2
def RetLv (w:World) (k:Int) (vs:List Int) (e:Ending) (w':World):Prop:=
 (k=0/\∃a c,e= .returned (.tuple #[.slice a vs.length c,.int .i64 0])/\w'.ownsRow w.heap.size 3 1 (.slice a vs.length c) vs.length (L1 vs)/\Below w.heap.size w w')\/
 (k≠0/\e= .returned (.tuple #[.slice none 0 0,.int .i64 k])/\Below w.heap.size w w')
theorem tdC_get {v:Value} {ts:List (Int×Int)} {k:Nat} (h:k < ts.length):(tdC v ts)[k*3]? =some v/\(tdC v ts)[k*3+1]? =some (.int .i64 ts[k].1)/\(tdC v ts)[k*3+2]? =some (.int .i64 ts[k].2):=
 ⟨flat_get (k:=3) (f:=fun t:Int×Int=>[v,.int .i64 t.1,.int .i64 t.2]) (fun _=>rfl) ts k 0 h (by omega),flat_get (k:=3) (f:=fun t:Int×Int=>[v,.int .i64 t.1,.int .i64 t.2]) (fun _=>rfl) ts k 1 h (by omega),flat_get (k:=3) (f:=fun t:Int×Int=>[v,.int .i64 t.1,.int .i64 t.2]) (fun _=>rfl) ts k 2 h (by omega)⟩
section
variable (w:World)
theorem levels_any (sa:OA) (sn sc:Nat) (l:List Pt) (hs:Sx 2 w sa sn sc (L2 l)) (ba:OA) (bn bc:Nat) (bs:List Int) (hb:Sx 1 w ba bn bc (L1 bs)) (far rise step:Int) (hst:(0<=rise/\rise<=3000)-> -3000<=step/\step<=3000)
  (lv pk:Nat) (f:Int×Int->Int) (op:Int->Int->Int) (hp:PickC op pk #[]) (ep:EG pk) (el:EG lv)
  (hl:brkB l bs=true->(0<=far/\far<=3000)->∀W,Below w.heap.size w W->∀t∈nbr bs,Calls Tryz.prog lv (#[.agg #[.slice sa sn sc,.int .i64 t.1,.int .i64 t.2],.int .i64 far]++ #[]) W (Gives (.int .i64 (f t)) W)/\ -200000<=f t/\f t<=200000):
  Calls Tryz.prog 60 #[.slice sa sn sc,.slice ba bn bc,.int .i64 far,.int .i64 rise,.int .i64 step,.func (.func lv) #[] #[],.func (.func pk) #[] #[]] w (RetLv w (lvErr l bs far rise) (folL op step ((nbr bs).map f))):=by
 have HT:=ζ (fun W (hW:Below w.heap.size w W)=>treads_any W sa sn sc l (hs.below hW) ba bn bc bs (hb.below hW))
 have HL:=ζ hl
 have HE:=ζ (show lvErr l bs far rise=if brkB l bs=true then(if inB far 0 3000 && inB rise 0 3000 then 0 else 3)else 2 from rfl)
 have hln:brkB l bs=true->2<=bs.length/\bs.length<=61:=fun h=>by
  unfold brkB at h
  rw [Bool.and_eq_true,Bool.and_eq_true]at h
  have:=inB_iff.1 h.2.1
  omega
 generalize lvErr l bs far rise=er at*
 generalize brkB l bs=ok at*
 have hC:=ζ (Sy.enter w)
 clear hs hb hl
 go_enter Tryz.func60,Tryz.ntmps60
 go_wp2_with fail
 refine(HT.out _ hC.out.be).mono ?_
 rintro e w1 (⟨h1,a,c,rfl,hr,hbb⟩ | ⟨h1,rfl,hbb⟩)
 rotate_left
 ·have hD:=ζ (hC.out.call hbb)
  have he:=HE.out
  rw [h1,if_neg (by decide)]at he
  clear HE HL hC hbb HT
  subst he
  go_wp2
  go_ret2
  exact .inr ⟨by decide,rfl,hD.out.be⟩
 obtain ⟨hl1,hl2⟩:=hln h1
 have hD:=ζ (hC.out.adopt hbb hr)
 have he:=HE.out
 rw [if_pos h1]at he
 have HE2:=ζ he
 have HL2:=ζ (HL.out h1)
 clear HE HL hC hbb HT he h1 hr hln
 cases q1:inB far 0 3000
 ·have he:=HE2.out
  rw [q1,Bool.false_and,if_neg (by decide)]at he
  clear HE2 HL2
  subst he
  go_wp2_with ((with_reducible refine(hwithin_any _ _ _ _).mono ?_);rintro e w2 ⟨rfl,rfl⟩)
  go_ret2
  exact .inr ⟨by decide,rfl,hD.out.be⟩
 cases q2:inB rise 0 3000
 ·have he:=HE2.out
  rw [q1,q2,Bool.and_false,if_neg (by decide)]at he
  clear HE2 HL2
  subst he
  go_wp2_with ((with_reducible refine(hwithin_any _ _ _ _).mono ?_);rintro e w2 ⟨rfl,rfl⟩)
  go_ret2
  exact .inr ⟨by decide,rfl,hD.out.be⟩
 have he:=HE2.out
 rw [q1,q2,Bool.and_true,if_pos rfl]at he
 have HL3:=ζ (HL2.out (inB_iff.1 q1))
 have hs2:=hst (inB_iff.1 q2)
 clear HE2 HL2
 subst he
 go_wp2_with ((with_reducible refine(hwithin_any _ _ _ _).mono ?_);rintro e w2 ⟨rfl,rfl⟩)
 have HN:=ζ (nbr_len bs)
 have HM:=ζ (show ∀k (h:k < (nbr bs).length),(nbr bs)[k]∈nbr bs from fun k h=>List.getElem_mem h)
 have HTD:=ζ (fun k (h:k < (nbr bs).length)=>tdC_get (v:= .slice sa sn sc) h)
 obtain ⟨nn,hnn⟩:∃nn,bs.length - 1=nn:=⟨_,rfl⟩
 rw [hnn]at hD HN⊢
 have hn1:0 < nn/\nn<=60:=by omega
 clear hl1 hl2 hnn q1 q2
 obtain ⟨g,hga,hnc⟩:=hD.out.oaddr 0 rfl hn1.1
 subst hga
 go_loopw [42,18] (fun iv sv wr=>∃k:Nat,∃a2 c2,k<=nn/\iv= .int .i64 k/\sv= .slice a2 k c2/\Hid (Sy w wr [] [⟨.slice (some ⟨g,0,none⟩) nn c,120,3,nn,tdC (.slice sa sn sc) (nbr bs)⟩,⟨.slice a2 k c2,3,1,k,L1 (((nbr bs).map f).take k)⟩] [])) (fun iv _ _=>nn - (intOf iv).toNat)
 case atStart=>exact⟨0,none,0,Nat.zero_le _,rfl,rfl,ζ (hD.out.onil 3 1)⟩
 case round=>
  clear hD
  obtain ⟨k,a2,c2,hk,rfl,rfl,hS⟩:=hrel
  by_cases hkl:k < nn
  ·have hkn:k < (nbr bs).length:=by rw [HN.out];exact hkl
   obtain ⟨t0,t1,t2⟩:=HTD.out k hkn
   obtain ⟨hcall,hbd⟩:=(show(∀W,Below w.heap.size w W->Calls Tryz.prog lv #[.agg #[.slice sa sn sc,.int .i64 (nbr bs)[k].1,.int .i64 (nbr bs)[k].2],.int .i64 far] W (Gives (.int .i64 (f (nbr bs)[k])) W))/\True from⟨fun W hW=>(HL3.out W hW _ (HM.out k hkn)).1,trivial⟩)
   have HCA:=ζ hcall
   have HTK:=ζ (show L1 (((nbr bs).map f).take (k+1))=L1 (((nbr bs).map f).take k)++ [.int .i64 (f (nbr bs)[k])]by
    rw [List.take_succ_eq_append_getElem (by rw [List.length_map];exact hkn),List.getElem_map];unfold L1;rw [List.map_append];rfl)
   clear hcall hbd
   generalize f (nbr bs)[k]=v at*
   generalize (nbr bs)[k]=t at*
   obtain ⟨u1,u2⟩:=t
   dsimp only at t1 t2 HCA
   have c0:=hS.out.rcell 0 rfl t0
   have c1:=hS.out.rcell 0 rfl t1
   have c2':=hS.out.rcell 0 rfl t2
   have i0:(0:Int)<=(k:Int):=by omega
   have i1:(k:Int) < (nn:Int):=by omega
   have hE:=ζ (hS.out.al wr.heap.size #[.slice sa sn sc,.int .i64 u1,.int .i64 u2] 120 rfl)
   clear t0 t1 t2
   go_upto_region 10 with fail
   refine wp_geny hE.out ?_
   intro V1 hc
   have hG:=ζ hc
   clear hc hE hS c0 c1 c2'
   generalize wr.heap.size=bb at*
   have c0:=hG.out.c 0 0
   have c1:=hG.out.c 0 1
   have c2':=hG.out.c 0 2
   go_wp2_with fail
   refine(HCA.out _ hG.out.be).mono ?_
   rintro e w3 ⟨rfl,hb3⟩
   have hH:=ζ (hG.out.call hb3)
   clear hb3 hG c0 c1 c2'
   go_wp2_with (refine wpList_append_sy (o:=⟨some 52,_,_,_,_,_⟩) rfl (hH.out.onew w3.heap.size #[.int .i64 v] 3 1 1 rfl (by omega) rfl) 1 2 rfl rfl _ _ _ rfl und_hint info_hint rfl (by omega) rfl rfl (by intro u hu;simp at hu;rcases hu with rfl;rfl) (by omega) (by omega) ?_;intro a3 c3 V3 hV3;have hJ:=ζ hV3;clear hV3 hH)
   have hK:=ζ (hJ.out.thin (bs':=[]) (List.nil_sublist _) (List.Sublist.cons_cons _ (List.Sublist.cons_cons _ (List.nil_sublist _))))
   clear hJ
   go_roundw
   case rel=>exact⟨k+1,a3,c3,by omega,by go_num,rfl,by rw [HTK.out];exact hK⟩
   case measure=>simp [intOf];omega
  ·obtain rfl:k=nn:=by omega
   have hJ:=ζ (hS.out.thin (bs':=[]) (os':=[⟨.slice a2 k c2,3,1,k,L1 (((nbr bs).map f).take k)⟩]) (List.Sublist.refl _) (List.Sublist.cons _ (List.Sublist.refl _)))
   clear hS
   have hb2:∀i,-200000<=bX ((nbr bs).map f) i/\bX ((nbr bs).map f) i<=200000:=fun i=>by
    rcases Nat.lt_or_ge i ((nbr bs).map f).length with h | h
    ·rw [bX_at h,List.getElem_map]
     exact(HL3.out w (Below.refl _ _) _ (HM.out i (by rw [List.length_map]at h;exact h))).2
    ·unfold bX;rw [List.getD_eq_getElem?_getD,List.getElem?_eq_none h];exact⟨by decide,by decide⟩
   have HLE:=ζ (show((nbr bs).map f).length=k by rw [List.length_map];exact HN.out)
   have HTA:=ζ (show((nbr bs).map f).take k=(nbr bs).map f from List.take_of_length_le (by rw [HLE.out];exact Nat.le_refl _))
   rw [HTA.out]at hJ
   generalize (nbr bs).map f=vs at*
   clear HTA HL3 HM HTD HN
   have hle:=HLE.out
   subst hle
   obtain ⟨g2,hg2,hcc⟩:=hJ.out.oaddr 0 rfl hn1.1
   subst hg2
   have hmx:c2<=maxLen:=(hJ.out.osx 0 rfl).cap.2
   have HFO:=ζ (fun V (hV:Sy w V [] [⟨.slice (some ⟨g2,0,none⟩) vs.length c2,3,1,vs.length,L1 vs⟩] [])=>follow_any w V g2 c2 vs step op pk hp ep hn1.1 (by omega) ⟨hcc,hmx⟩ hb2 hs2 hV)
   have HLF:=ζ (folL_len op step vs)
   clear hb2
   go_wp2_with fail
   refine(HFO.out _ hJ.out).mono ?_
   rintro e w3 ⟨rfl,hK⟩
   have hK2:=ζ hK
   clear hK hJ HFO
   go_wp2
   go_ret2
   refine .inl ⟨rfl,_,c2,by rw [HLF.out];rfl,?_,hK2.out.be⟩
   rw [HLF.out]
   exact hK2.out.orow 0 rfl
end
theorem brk_ok {l:List Pt} {bs:List Int} (h:brkB l bs=true):Prof l/\(2<=bs.length/\bs.length<=61)/\(∀i,i+1 < bs.length->bX bs i < bX bs (i+1))/\∀x∈bs,hasB l x=true:=by
 unfold brkB at h
 rw [Bool.and_eq_true,Bool.and_eq_true,Bool.and_eq_true]at h
 have:=inB_iff.1 h.2.1
 exact⟨prof_iff.1 h.1,by omega,upI_iff.1 h.2.2.1,List.all_eq_true.1 h.2.2.2⟩
theorem nbr_mem {bs:List Int} {t:Int×Int} (h:t∈nbr bs):∃i,∃hi:i+1 < bs.length,t=(bs[i],bs[i+1]):=by
 obtain ⟨i,hi,rfl⟩:=List.getElem_of_mem h
 have hi2:=hi
 rw [nbr_len]at hi2
 refine⟨i,by omega,?_⟩
 have:=nbr_get (l:=bs) (i:=i) (by omega)
 rw [List.getElem?_eq_getElem hi]at this
 exact Option.some.inj this
theorem brk_strt {l:List Pt} {bs:List Int} (h:brkB l bs=true) {t:Int×Int} (ht:t∈nbr bs):Strt l t.1 t.2:=by
 obtain ⟨hP,hn,hu,hh⟩:=brk_ok h
 obtain ⟨i,hi,rfl⟩:=nbr_mem ht
 have h1:=hu i hi
 rw [bX_at hi,bX_at (show i < bs.length by omega)]at h1
 have a1:=hh _ (List.getElem_mem (show i < bs.length by omega))
 have a2:=hh _ (List.getElem_mem hi)
 unfold hasB at a1 a2
 exact⟨hP,(inB_iff.1 a1).1,h1,(inB_iff.1 a2).2⟩
theorem hFeet_any (w:World) (sa:OA) (sn sc:Nat) (l:List Pt) (hs:Sx 2 w sa sn sc (L2 l)) (ba:OA) (bn bc:Nat) (bs:List Int) (hb:Sx 1 w ba bn bc (L1 bs)) (far rise:Int) (hr: -9223372036854775807<=rise) (hr2:rise<=9223372036854775807):
  Calls Tryz.prog 18 #[.slice sa sn sc,.slice ba bn bc,.int .i64 far,.int .i64 rise] w (RetLv w (lvErr l bs far rise) (folL min (rise) ((nbr bs).map fun t=>footI l t.1 t.2 far))):=by
 have HK:=ζ (levels_any w sa sn sc l hs ba bn bc bs hb far rise (rise) (fun h=>by omega) 61 62 (fun t=>footI l t.1 t.2 far) min feet1_any eg_feet1 eg_foot
  (fun hk hf W hW t ht=>⟨foot_any W sa sn sc l t.1 t.2 far (brk_strt hk ht) (by omega) (hs.below hW),by have:=(brk_strt hk ht).lo_gd.floor;unfold footI;omega⟩))
 generalize lvErr l bs far rise=er at*
 generalize folL min (rise) ((nbr bs).map fun t=>footI l t.1 t.2 far)=vs at*
 have wn:IntKind.i64.wrap (-rise)= -rise:=IntWalk.i64_in _ (by omega)
 clear hs hb
 go_enter Tryz.func18,Tryz.ntmps18
 go_wp2_with fail
 refine HK.out.mono ?_
 rintro e w1 (⟨h1,a,c,rfl,hr,hbb⟩ | ⟨h1,rfl,hbb⟩)
 ·have HR:=ζ hr
  have HB:=ζ hbb
  clear hr hbb HK
  go_wp2
  go_ret2
  exact .inl ⟨h1,a,c,rfl,HR.out,HB.out⟩
 ·have HB:=ζ hbb
  have H1:=ζ h1
  clear hbb HK h1
  go_wp2
  go_ret2
  exact .inr ⟨H1.out,rfl,HB.out⟩
theorem hHeads_any (w:World) (sa:OA) (sn sc:Nat) (l:List Pt) (hs:Sx 2 w sa sn sc (L2 l)) (ba:OA) (bn bc:Nat) (bs:List Int) (hb:Sx 1 w ba bn bc (L1 bs)) (far rise:Int) (hr: -9223372036854775807<=rise) (hr2:rise<=9223372036854775807):
  Calls Tryz.prog 19 #[.slice sa sn sc,.slice ba bn bc,.int .i64 far,.int .i64 rise] w (RetLv w (lvErr l bs far rise) (folL max (-rise) ((nbr bs).map fun t=>headI l t.1 t.2 far))):=by
 have HK:=ζ (levels_any w sa sn sc l hs ba bn bc bs hb far rise (-rise) (fun h=>by omega) 63 64 (fun t=>headI l t.1 t.2 far) max heads1_any eg_heads1 eg_head
  (fun hk hf W hW t ht=>⟨head_any W sa sn sc l t.1 t.2 far (brk_strt hk ht) (by omega) (hs.below hW),by have:=(brk_strt hk ht).hi_gd.ceil;unfold headI;omega⟩))
 generalize lvErr l bs far rise=er at*
 generalize folL max (-rise) ((nbr bs).map fun t=>headI l t.1 t.2 far)=vs at*
 have wn:IntKind.i64.wrap (-rise)= -rise:=IntWalk.i64_in _ (by omega)
 clear hs hb
 go_enter Tryz.func19,Tryz.ntmps19
 go_wp2_with fail
 refine HK.out.mono ?_
 rintro e w1 (⟨h1,a,c,rfl,hr,hbb⟩ | ⟨h1,rfl,hbb⟩)
 ·have HR:=ζ hr
  have HB:=ζ hbb
  clear hr hbb HK
  go_wp2
  go_ret2
  exact .inl ⟨h1,a,c,rfl,HR.out,HB.out⟩
 ·have HB:=ζ hbb
  have H1:=ζ h1
  clear hbb HK h1
  go_wp2
  go_ret2
  exact .inr ⟨H1.out,rfl,HB.out⟩
def wrongB (n:Nat) (zs:List Int):Bool:=decide (zs.length≠n) || zs.any (fun z=> !inB z (-200000) 200000)
section
variable (w:World)
theorem wrong1_any (z:Int):Calls Tryz.prog 130 #[.int .i64 z] w (Gives (.bool (!inB z (-200000) 200000)) w):=by
 cases h:inB z (-200000) 200000
 all_goals
  go_enter Tryz.func130,Tryz.ntmps130
  go_wp2_with ((with_reducible refine(hwithin_any _ _ _ _).mono ?_);rintro e w1 ⟨rfl,rfl⟩)
  go_ret
  exact⟨rfl,Below.refl _ _⟩
theorem eg_wrong1:EG 130:=enters_of Tryz.func130 (by kernel_rfl) rfl
theorem wrong_any (ta:OA) (tn tc:Nat) (za:OA) (zn zc:Nat) (zs:List Int) (hz:Sx 1 w za zn zc (L1 zs)):Calls Tryz.prog 69 #[.slice ta tn tc,.slice za zn zc] w (Gives (.bool (wrongB tn zs)) w):=by
 obtain rfl:=hz.n1
 have HX:=ζ (containsFunc_int za zs.length zc zs 130 #[] (fun z=> !inB z (-200000) 200000) w hz eg_wrong1 (fun W _ x _=>wrong1_any W x))
 have HW:=ζ (show wrongB tn zs=(decide (zs.length≠tn) || zs.any (fun z=> !inB z (-200000) 200000))from rfl)
 generalize zs.any (fun z=> !inB z (-200000) 200000)=q at*
 clear hz
 by_cases h:zs.length=tn
 ·have HR:=ζ (show wrongB tn zs=q by rw [HW.out,decide_eq_false (by omega)];rfl)
  have h2:(zs.length:Int)=(tn:Int):=by omega
  clear HW h
  go_enter Tryz.func69,Tryz.ntmps69
  go_wp2_with fail
  refine HX.out.mono ?_
  rintro e w1 ⟨rfl,hb⟩
  have hB:=ζ hb
  clear hb
  go_wp2
  go_ret
  exact⟨ret_bool HR.out.symm,hB.out⟩
 ·have HR:=ζ (show wrongB tn zs=true by rw [HW.out,decide_eq_true (by omega)];rfl)
  have h2:¬ (zs.length:Int)=(tn:Int):=by omega
  clear HW h HX
  go_enter Tryz.func69,Tryz.ntmps69
  go_wp2
  go_ret
  exact⟨ret_bool HR.out.symm,Below.refl _ _⟩
end
def cntX (l:List Pt) (a:Int):Nat:=((l.map (·.x)).filter (fun x=>decide (a < x))).length
theorem filter_two:∀ (xs:List Int) {a b:Int},a < b->(xs.filter (fun x=>decide (a < x) && decide (x < b))).length+(xs.filter (fun x=>decide (b < x))).length<=(xs.filter (fun x=>decide (a < x))).length
 | [],_,_,_=>Nat.le_refl _
 | x::xs,a,b,h=>by
   have ih:=filter_two xs h
   rw [List.filter_cons,List.filter_cons,List.filter_cons]
   by_cases h1:a < x<;>by_cases h2:x < b<;>by_cases h3:b < x
   all_goals
    simp [h1,h2,h3]
    omega
theorem ins_cnt (l:List Pt) {a b:Int} (h:a < b):(ins l a b).length+cntX l b<=cntX l a:=filter_two _ h
theorem cnt_le (l:List Pt) (a:Int):cntX l a<=l.length:=by unfold cntX;refine Nat.le_trans (List.length_filter_le ..) ?_;rw [List.length_map];exact Nat.le_refl _
theorem Strt.pcs_ins {l:List Pt} {a b:Int} (hT:Strt l a b):(Proofs.YthmdhlopeponcaaGreatDoor.pcs l a b).length=(ins l a b).length+1:=by
 rw [hT.pcs,nbr_len,cor,List.length_cons,List.length_append];simp
def allP (l:List Pt) (ts:List (Int×Int)):List (Int×Int):=ts.flatMap fun t=>pcs l t.1 t.2
theorem allP_len {l:List Pt} :∀ (bs:List Int) (x:Int),(∀t∈nbr (x::bs),Strt l t.1 t.2)->(allP l (nbr (x::bs))).length<=cntX l x+bs.length
 | [],x,_=>Nat.zero_le _
 | y::r,x,h=>by
   have e:nbr (x::y::r)=(x,y)::nbr (y::r):=rfl
   rw [e]at h⊢
   have h1:=h (x,y) (List.mem_cons_self ..)
   have ih:=allP_len r y (fun t ht=>h t (List.mem_cons_of_mem _ ht))
   have h2:=ins_cnt l h1.lt
   have h3:=h1.pcs_ins
   unfold allP at*
   rw [List.flatMap_cons,List.length_append,List.length_cons]
   dsimp only at*
   omega
def digP (bs zs:List Int):List ((Int×Int)×Int):=(nbr bs).zip zs
def digA (l:List Pt) (p:(Int×Int)×Int):Rat:=above l p.1.1 p.1.2 p.2
def digQ (l:List Pt) (bs zs:List Int):Rat:=smQ ((digP bs zs).map (digA l))
theorem digP_len {bs zs:List Int} (h:zs.length=bs.length - 1):(digP bs zs).length=bs.length - 1:=by unfold digP;rw [List.length_zip,nbr_len,h,Nat.min_self]
theorem digP_at {bs zs:List Int} {k:Nat} (h1:k < (nbr bs).length) (h2:k < zs.length) (h3:k < (digP bs zs).length):(digP bs zs)[k]=((nbr bs)[k],zs[k]):=List.getElem_zip
theorem dig_flat (l:List Pt):∀P:List ((Int×Int)×Int),smQ (P.map (digA l))=smQ (P.flatMap fun p=>(pcs l p.1.1 p.1.2).map (pieceA l p.2))
 | []=>rfl
 | p::P=>by
   rw [List.map_cons,List.flatMap_cons,smQ_cons,smQ_app,dig_flat l P]
   rfl
theorem dig_flat_len (l:List Pt):∀P:List ((Int×Int)×Int),(P.flatMap fun p=>(pcs l p.1.1 p.1.2).map (pieceA l p.2)).length=(allP l (P.map (·.1))).length
 | []=>rfl
 | p::P=>by
   have:=dig_flat_len l P
   unfold allP at*
   rw [List.flatMap_cons,List.map_cons,List.flatMap_cons,List.length_append,List.length_append,List.length_map,this]
theorem allP_take (l:List Pt) (ts:List (Int×Int)) (k:Nat):(allP l (ts.take k)).length<=(allP l ts).length:=by
 have e:allP l ts=allP l (ts.take k)++allP l (ts.drop k):=by unfold allP;rw [<-List.flatMap_append,List.take_append_drop]
 rw [e,List.length_append]
 omega
theorem zip_fst:∀ (ts:List (Int×Int)) (zs:List Int),ts.length<=zs.length->(ts.zip zs).map (·.1)=ts
 | [],_,_=>rfl
 | t::ts,[],h=>by simp at h
 | t::ts,z::zs,h=>by
   rw [List.zip_cons_cons,List.map_cons,zip_fst ts zs (by simp at h;exact h)]
theorem dig_bq {l:List Pt} {bs zs:List Int} (h:brkB l bs=true) (hz:∀z∈zs,InZ z) (hl:zs.length=bs.length - 1) (k:Nat):Bq 17800 (smQ (((digP bs zs).take k).map (digA l))):=by
 obtain ⟨hP,⟨h2,h61⟩,-,-⟩:=brk_ok h
 rw [dig_flat]
 have hlen:(((digP bs zs).take k).flatMap fun p=>(pcs l p.1.1 p.1.2).map (pieceA l p.2)).length<=101:=by
  rw [dig_flat_len,List.map_take]
  refine Nat.le_trans (allP_take l _ k) ?_
  unfold digP
  rw [zip_fst _ _ (by rw [nbr_len,hl];exact Nat.le_refl _)]
  match bs,h2 with
  | x::r,_=>
    have e:=allP_len (l:=l) r x (fun t ht=>brk_strt h ht)
    have c:=cnt_le l x
    have:=hP.forty
    simp only [List.length_cons]at h61
    omega
 refine(smQ_bq (N:=174) fun q hq=>?_).mono (by
  have:=Nat.mul_le_mul_right (174+1) hlen
  omega)
 obtain ⟨p,hp,hq⟩:=List.mem_flatMap.1 hq
 obtain ⟨t,ht,rfl⟩:=List.mem_map.1 hq
 have hm:=List.mem_of_mem_take hp
 unfold digP at hm
 have hm2:=List.of_mem_zip (a:=p.1) (b:=p.2) (by simpa using hm)
 have hT:=brk_strt h hm2.1
 have:=hT.in_pcs ht
 exact pieceA_bq hT (hz _ hm2.2) t this.1 this.2.1 this.2.2
section
def putTo (l:List (Int×Int)) (b:Int):List (Int×Int):=match l.getLast? with
 | some t=>l.dropLast++ [(t.1,b)]
 | none=>l
def bayP (br:Nat->Int) (has:Nat->Bool):Nat->List (Int×Int)
 | 0=>[]
 | i+1=>if has i then(if (bayP br has i).getLast?.map (·.2)=some (br i)then putTo (bayP br has i) (br (i+1))else bayP br has i++ [(br i,br (i+1))])else bayP br has i
end
section
open Go.RowKit Go.Shelf Dig
def hasR (feet heads:List Int) (z h:Int) (k:Nat):Bool:=decide (bX feet k<=z) && decide (z+h<=bX heads k)
def baysP (bs feet heads:List Int) (z h:Int) (n:Nat):List (Int×Int):=bayP (bX bs) (hasR feet heads z h) n
def rowOf (z h:Int) (b:List (Int×Int)):List (Int×Int×List (Int×Int)):=if b.length=0 then []else [(z,z+h,b)]
def rowsUp (bs feet heads:List Int) (low h:Int) (n:Nat):Nat->List (Int×Int×List (Int×Int))
 | 0=>[]
 | i+1=>rowsUp bs feet heads low h n i++rowOf (low+i*h) h (baysP bs feet heads (low+i*h) h n)
def rowN (low top h:Int):Nat:=((top - low) / h).toNat
def rowsErr (l:List Pt) (bs feet heads:List Int) (h:Int):Int:=
 if brkB l bs=true then(if inB h 1 3000=true then(if (wrongB (bs.length - 1) feet || wrongB (bs.length - 1) heads)=true then 2 else if 200*h < maxL heads - minL feet then 5 else 0)else 3)else 2
def rowsL (bs feet heads:List Int) (h:Int):List (Int×Int×List (Int×Int)):=rowsUp bs feet heads (minL feet) h (bs.length - 1) (rowN (minL feet) (maxL heads) h)
theorem row_more {low top h:Int} (hh:1<=h) {i:Nat} :i < rowN low top h↔low+i*h+h<=top:=by
 unfold rowN
 have e:(i:Int)*h+h=((i:Int)+1)*h:=by rw [Int.add_mul,Int.one_mul]
 rw [show low+i*h+h<=top↔((i:Int)+1)*h<=top - low by rw [<-e];omega,<-Int.le_ediv_iff_mul_le (by omega)]
 omega
theorem putTo_cells (b:List (Int×Int)) (y:Int) (h:0 < b.length):(L2 b).set ((b.length - 1)*2+1) (.int .i64 y)=L2 (putTo b y):=by
 rcases List.eq_nil_or_concat b with rfl | ⟨L,t,rfl⟩
 ·simp at h
 ·rw [List.concat_eq_append]
  have e:putTo (L++ [t]) y=L++ [(t.1,y)]:=by simp [putTo]
  rw [e]
  unfold L2
  rw [List.flatMap_append,List.flatMap_append,List.length_append]
  have hl:(L.flatMap c2).length=L.length*2:=flat_len (f:=c2) (fun _=>rfl) L
  rw [show L.length+ [t].length - 1=L.length by simp,List.set_append,if_neg (by omega),hl,show L.length*2+1 - L.length*2=1 by omega]
  rfl
theorem putTo_len (b:List (Int×Int)) (y:Int):(putTo b y).length=b.length:=by
 rcases List.eq_nil_or_concat b with rfl | ⟨L,t,rfl⟩
 ·rfl
 ·simp [putTo]
structure Rwx where
 low:Int
 high:Int
 ba:Option Addr
 bc:Nat
 bays:List (Int×Int)
def cR (r:Rwx):List Value:=[.int .i64 r.low,.int .i64 r.high,.slice r.ba r.bays.length r.bc]
def LRw (l:List Rwx):List Value:=l.flatMap cR
def nR (r:Rwx):Int×Int×List (Int×Int):=(r.low,r.high,r.bays)
theorem LRw_append (l r:List Rwx):LRw (l++r)=LRw l++LRw r:=List.flatMap_append
def digB (l:List Pt) (bs zs:List Int):Bool:=brkB l bs && !wrongB (bs.length - 1) zs
theorem wrongB_no {n:Nat} {zs:List Int} (h:wrongB n zs=false):zs.length=n/\∀z∈zs,-200000<=z/\z<=200000:=by
 unfold wrongB at h
 rw [Bool.or_eq_false_iff]at h
 refine⟨by have:=of_decide_eq_false h.1;omega,fun z hz=>?_⟩
 have:=List.any_eq_false.1 h.2 z hz
 have h2:inB z (-200000) 200000=true:=by cases e:inB z (-200000) 200000<;>simp_all
 exact inB_iff.1 h2
section
variable (w:World)
theorem mW18_0 {P_ : Prop} (h : P_ := by
 try simp only [zP]
 refine rdy1 7 rfl (fun Kq AF=>?_)
 go_simp
 go_at_call 40
 refine(radd_b (AC.out.r 0 rfl) (AC.out.r 1 rfl) BS.out BA.out (by omega) (by omega)).mono ?_
 rintro e wT ⟨a3,n3,c3,m3,d3,e3,f3,rfl,hz,hb⟩
 (try go_wp2_with fail)
 refine stW AF ((AC.out.call hb).pR rfl rfl hz) ?_
 intro AT AA AI
 clear AF Kq AC hb hz AH
 try simp only [zP]
 refine rdy1 8 rfl (fun Kq AF=>?_)
 have cQ0:=AA.out.c 1 0
 have fQ0:=AA.out.f 1 0
 have cQ1:=AA.out.c 1 1
 have fQ1:=AA.out.f 1 1
 have cQ2:=AA.out.c 1 2
 have fQ2:=AA.out.f 1 2
 go_simp
 refine stepZ AF (AA.out|>.set (j:=0) (v:= .slice a3 n3 c3) 1 rfl|>.set (j:=1) (v:= .bool m3) 1 rfl|>.set (j:=2) (v:= .slice d3 e3 f3) 1 rfl) (fun _ hX=>⟨hX.c 2 0,hX.c 2 1,hX.c 2 2,(HZC.out _ hX.be),trivial⟩) ?_
 intro AU AJ AQ
 clear AF Kq AA cQ0 fQ0 cQ1 fQ1 cQ2 fQ2 AI
 try simp only [Act.put]
 refine wpAnyH_done (by kernel_rfl) ?_ _
 refine NoPanic.normal ?_
 go_wp2
 go_roundw
 case rel=>exact⟨k+1,_,_,_,_,_,_,_,by omega,by go_num,by rw [HTK.out];exact ζ ((AJ.out.thin (bs':=[(w.heap.size,#[.slice none 0 0,.bool false,.slice none 0 0],42),(b10,#[.slice a3 n3 c3,.bool m3,.slice d3 e3 f3],42)]) (List.sublist_append_left [_,_] _) (List.Sublist.refl _)).pick [2] rfl)⟩
 case measure=>simp [intOf];omega) : P_ := h
theorem mW18_1 {P_ : Prop} (h : P_ := by
 refine ret_sy hZ.out (v:= .tuple #[.agg #[.slice none 0 0,.bool false,.slice none 0 0],.int .i64 2]) (fun hF=>?_) rfl (fun hF=>⟨_,_,_,_,_,_,_,rfl,hF.r 0 rfl,hF.be⟩)
 have g0_0:=hF.c 0 0
 have g0_1:=hF.c 0 1
 have g0_2:=hF.c 0 2
 simp [results,Tryz.results26,go_sem,g0_0,g0_1,g0_2]) : P_ := h
theorem hDig_bad (sa:OA) (sn sc:Nat) (l:List Pt) (hs:Sx 2 w sa sn sc (L2 l)) (ba:OA) (bn bc:Nat) (bs:List Int) (hb:Sx 1 w ba bn bc (L1 bs)) (za:OA) (zn zc:Nat) (zs:List Int) (hz:Sx 1 w za zn zc (L1 zs)) (hbad:digB l bs zs=false):Calls Tryz.prog 26 #[.slice sa sn sc,.slice ba bn bc,.slice za zn zc] w (RetRE w 0 2):=by
 have HT:=ζ (fun W (hW:Below w.heap.size w W)=>treads_any W sa sn sc l (hs.below hW) ba bn bc bs (hb.below hW))
 have HWR:=ζ (fun W (hW:Below w.heap.size w W) ta tc=>wrong_any W ta (bs.length - 1) tc za zn zc zs (hz.below hW))
 have HD:=ζ (show(brkB l bs && !wrongB (bs.length - 1) zs)=false from hbad)
 generalize brkB l bs=ok at*
 generalize wrongB (bs.length - 1) zs=wr at*
 clear hs hb hz hbad
 have hC:=ζ ((Sy.enter w).al w.heap.size #[.slice none 0 0,.bool false,.slice none 0 0] 42 rfl)
 go_enter Tryz.func26,Tryz.ntmps26
 go_wp2_with fail
 refine(HT.out _ hC.out.be).mono ?_
 rintro e w1 (⟨h1,a,c,rfl,-,hbb⟩ | ⟨h1,rfl,hbb⟩)
 ·have hD:=ζ (hC.out.call hbb)
  subst h1
  have hw2:=HD.out
  simp only [Bool.true_and,Bool.not_eq_false']at hw2
  rw [hw2]at HWR
  clear hC hbb HT HD hw2
  go_wp2_with fail
  refine(HWR.out _ hD.out.be _ _).mono ?_
  rintro e w2 ⟨rfl,hbb⟩
  have hE:=ζ (hD.out.call hbb)
  clear hD hbb HWR
  have AN:=hE.out.c 0 0
  have AK:=hE.out.f 0 0
  have AO:=hE.out.c 0 1
  have AL:=hE.out.f 0 1
  have AP:=hE.out.c 0 2
  have AM:=hE.out.f 0 2
  go_wp2
  have hZ:=ζ ((hE.out|>.set (j:=0) (v:= .slice none 0 0) 0 rfl|>.set (j:=1) (v:= .bool false) 0 rfl|>.set (j:=2) (v:= .slice none 0 0) 0 rfl).pR rfl rfl Rd.nil)
  exact mW18_1
 ·have hD:=ζ (hC.out.call hbb)
  clear hC hbb HT HD HWR h1
  have AN:=hD.out.c 0 0
  have AK:=hD.out.f 0 0
  have AO:=hD.out.c 0 1
  have AL:=hD.out.f 0 1
  have AP:=hD.out.c 0 2
  have AM:=hD.out.f 0 2
  go_wp2
  have hZ:=ζ ((hD.out|>.set (j:=0) (v:= .slice none 0 0) 0 rfl|>.set (j:=1) (v:= .bool false) 0 rfl|>.set (j:=2) (v:= .slice none 0 0) 0 rfl).pR rfl rfl Rd.nil)
  exact mW18_1
theorem hDig_ok (sa:OA) (sn sc:Nat) (l:List Pt) (hs:Sx 2 w sa sn sc (L2 l)) (ba:OA) (bn bc:Nat) (bs:List Int) (hb:Sx 1 w ba bn bc (L1 bs)) (za:OA) (zn zc:Nat) (zs:List Int) (hz:Sx 1 w za zn zc (L1 zs)) (hok:digB l bs zs=true):Calls Tryz.prog 26 #[.slice sa sn sc,.slice ba bn bc,.slice za zn zc] w (RetRE w (digQ l bs zs) 0):=by
 have HT:=ζ (fun W (hW:Below w.heap.size w W)=>treads_any W sa sn sc l (hs.below hW) ba bn bc bs (hb.below hW))
 have HWR:=ζ (fun W (hW:Below w.heap.size w W) ta tc=>wrong_any W ta (bs.length - 1) tc za zn zc zs (hz.below hW))
 have hok2:=hok
 unfold digB at hok2
 rw [Bool.and_eq_true,Bool.not_eq_true']at hok2
 obtain ⟨hk1,hk2⟩:=hok2
 obtain ⟨hzl,hzb⟩:=wrongB_no hk2
 obtain ⟨-,⟨hl1,hl2⟩,-,-⟩:=brk_ok hk1
 rw [hk1]at HT
 rw [hk2]at HWR
 have HBQ:=ζ (fun k=>dig_bq hk1 (fun z hz=>by have:=hzb z hz;unfold InZ;omega) hzl k)
 have HAB:=ζ (fun W (hW:Below w.heap.size w W) t (ht:t∈nbr bs) z (hz:z∈zs)=>above_any W sa sn sc l t.1 t.2 z (brk_strt hk1 ht) (by have:=hzb z hz;unfold InZ;omega) (hs.below hW))
 have HAQ:=ζ (fun t (ht:t∈nbr bs) z (hz:z∈zs)=>(brk_strt hk1 ht).above_bq (z:=z) (by have:=hzb z hz;unfold InZ;omega))
 have HZ:=ζ (fun W (hW:Below w.heap.size w W)=>hz.below hW)
 obtain rfl:=hz.n1
 have HZ0:=ζ hz
 have HDL:=ζ (digP_len hzl)
 have HNL:=ζ (nbr_len bs)
 have HTD:=ζ (fun k (h:k < (nbr bs).length)=>tdC_get (v:= .slice sa sn sc) h)
 have HZL:=ζ hzl
 clear hs hb hz hok hk1 hk2 hzb hzl
 have hC:=ζ ((Sy.enter w).al w.heap.size #[.slice none 0 0,.bool false,.slice none 0 0] 42 rfl)
 go_enter Tryz.func26,Tryz.ntmps26
 go_wp2_with fail
 refine(HT.out _ hC.out.be).mono ?_
 rintro e w1 (⟨-,a,c,rfl,hr,hbb⟩ | ⟨h1,-⟩)
 rotate_left
 ·cases h1
 have hD:=ζ (hC.out.adopt hbb hr)
 clear hC hbb HT hr
 go_wp2_with fail
 refine(HWR.out _ hD.out.be _ _).mono ?_
 rintro e w2 ⟨rfl,hbb⟩
 have hE:=ζ (hD.out.call hbb)
 clear hD hbb HWR
 obtain ⟨nn,hnn⟩:∃nn,bs.length - 1=nn:=⟨_,rfl⟩
 rw [hnn]at hE HDL HNL HZL⊢
 have hn1:0 < nn/\nn<=60:=by omega
 obtain ⟨g,hga,hnc⟩:=hE.out.oaddr 0 rfl hn1.1
 subst hga
 obtain ⟨gz,oz,hza⟩:=HZ0.out.addr (by rw [HZL.out];exact hn1.1)
 subst hza
 clear hnn hl1 hl2 HZ0
 go_upto_region 5 with fail
 have hF:=ζ (hE.out.al w2.heap.size #[.slice none 0 0,.bool false,.slice none 0 0] 42 rfl)
 obtain ⟨b10,hb10⟩:∃b,w2.heap.size=b:=⟨_,rfl⟩
 rw [hb10]at hF⊢
 refine wp_geny hF.out ?_
 intro V3 hc
 have hF2:=ζ hc
 clear hc hF hE hb10
 have hG0:=ζ (hF2.out.pR rfl rfl (Rd.nil (w:=V3)))
 clear hF2
 go_wp2
 go_loopw [29] (fun iv wr=>∃ (k:Nat) (a1:OA) (n1 c1:Nat) (m1:Bool) (d1:OA) (e1 f1:Nat),k<=nn/\iv= .int .i64 k/\Hid (Sy w wr [(w.heap.size,#[.slice none 0 0,.bool false,.slice none 0 0],42),(b10,#[.slice a1 n1 c1,.bool m1,.slice d1 e1 f1],42)] [⟨.slice (some ⟨g,0,none⟩) nn c,120,3,nn,tdC (.slice sa sn sc) (nbr bs)⟩] [(fun V=>Rd V (.slice a1 n1 c1) m1 (.slice d1 e1 f1) (smQ (((digP bs zs).take k).map (digA l))))])) (fun iv _=>nn - (intOf iv).toNat)
 case atStart=>exact⟨0,none,0,0,false,none,0,0,Nat.zero_le _,rfl,hG0⟩
 case round=>
  clear hG0
  obtain ⟨k,a1,n1,c1,m1,d1,e1,f1,hk,rfl,hS⟩:=hrel
  by_cases hkl:k < nn
  ·have hkn:k < (nbr bs).length:=by rw [HNL.out];exact hkl
   have hkz:k < zs.length:=by rw [HZL.out];exact hkl
   have hkd:k < (digP bs zs).length:=by rw [HDL.out];exact hkl
   obtain ⟨t0,t1,t2⟩:=HTD.out k hkn
   have HTK:=ζ (show smQ (((digP bs zs).take (k+1)).map (digA l))=smQ (((digP bs zs).take k).map (digA l))+above l (nbr bs)[k].1 (nbr bs)[k].2 zs[k]by
    rw [List.take_succ_eq_append_getElem hkd,List.map_append,List.map_singleton,smQ_snoc,digP_at hkn hkz hkd];rfl)
   have HCA:=ζ (fun W (hW:Below w.heap.size w W)=>HAB.out W hW _ (List.getElem_mem hkn) _ (List.getElem_mem hkz))
   have BA:=ζ (HAQ.out _ (List.getElem_mem hkn) _ (List.getElem_mem hkz))
   have BS:=ζ (HBQ.out k)
   have HZC:=ζ (fun W (hW:Below w.heap.size w W)=>(HZ.out W hW).at1 hkz)
   have HNX:=ζ (show ∀q,q=smQ (((digP bs zs).take (k+1)).map (digA l))->q=smQ (((digP bs zs).take (k+1)).map (digA l))from fun _ h=>h)
   obtain ⟨q0,hq0⟩:∃q,smQ (((digP bs zs).take k).map (digA l))=q:=⟨_,rfl⟩
   rw [hq0]at HTK BS hS
   clear hq0
   generalize zs[k]=z at*
   generalize (nbr bs)[k]=t at*
   obtain ⟨u1,u2⟩:=t
   dsimp only at t1 t2 HCA BA HTK
   obtain ⟨q2,hq2⟩:∃q,above l u1 u2 z=q:=⟨_,rfl⟩
   rw [hq2]at HCA BA HTK
   clear hq2
   have c0:=hS.out.rcell 0 rfl t0
   have c1':=hS.out.rcell 0 rfl t1
   have c2':=hS.out.rcell 0 rfl t2
   have i0:(0:Int)<=(k:Int):=by omega
   have i1:(k:Int) < (nn:Int):=by omega
   have hE:=ζ (hS.out.al wr.heap.size #[.slice sa sn sc,.int .i64 u1,.int .i64 u2] 120 rfl)
   clear t0 t1 t2
   go_upto_region 8 with fail
   obtain ⟨bb,hbb⟩:∃bb,wr.heap.size=bb:=⟨_,rfl⟩
   rw [hbb]at hE⊢
   refine wp_geny hE.out ?_
   intro V1 hc
   have hG:=ζ hc
   clear hc hE hS c0 c1' c2' hbb
   have i2:(k:Int) < (zs.length:Int):=by rw [HZL.out];omega
   have HSL:∀V ex os rs,Sy w V ([(w.heap.size,#[.slice none 0 0,.bool false,.slice none 0 0],42),(b10,#[.slice a1 n1 c1,.bool m1,.slice d1 e1 f1],42),(bb,#[.slice sa sn sc,.int .i64 u1,.int .i64 u2],120)]++ex) os rs->(fun w'=>w'.cell? ⟨bb,0,none⟩=some (.slice sa sn sc)/\w'.cell? ⟨bb,1,none⟩=some (.int .i64 u1)/\w'.cell? ⟨bb,2,none⟩=some (.int .i64 u2)/\w'.cell? ⟨gz,oz+k,none⟩=some (.int .i64 z)/\True) V:=fun V ex os rs hX=>⟨hX.c 2 0,hX.c 2 1,hX.c 2 2,(HZC.out _ hX.be),trivial⟩
   refine wp_region_noPanic ?_
   refine wp_region_held_drew (S:=(fun w'=>w'.cell? ⟨bb,0,none⟩=some (.slice sa sn sc)/\w'.cell? ⟨bb,1,none⟩=some (.int .i64 u1)/\w'.cell? ⟨bb,2,none⟩=some (.int .i64 u2)/\w'.cell? ⟨gz,oz+k,none⟩=some (.int .i64 z)/\True)) (by kernel_rfl) ⟨hG.out.drew.c 2 0,hG.out.drew.c 2 1,hG.out.drew.c 2 2,(HZC.out _ hG.out.drew.be),trivial⟩ (fun hH=>?_)
   refine wpAnyH_geny (show Sy w _ [(w.heap.size,#[.slice none 0 0,.bool false,.slice none 0 0],42),(b10,#[.slice a1 n1 c1,.bool m1,.slice d1 e1 f1],42),(bb,#[.slice sa sn sc,.int .i64 u1,.int .i64 u2],120)] [⟨.slice (some ⟨g,0,none⟩) nn c,120,3,nn,tdC (.slice sa sn sc) (nbr bs)⟩] [(fun V=>Rd V (.slice a1 n1 c1) m1 (.slice d1 e1 f1) (q0))]from hG.out.drew) hH ?_
   intro AV hc AE
   have AD:=ζ hc
   clear hc hH hG
   refine tkA 1 rfl AE ?_
   try simp only [zP]
   refine tkA 2 rfl AE ?_
   try simp only [zP]
   refine tkA 3 rfl AE ?_
   try simp only [zP]
   refine tkA 4 rfl AE ?_
   try simp only [zP]
   refine tkA 5 rfl AE ?_
   try simp only [zP]
   refine rdyL [0,6] ?_
   refine arc rfl (fun Kq AF=>?_) ?_
   ·have cQ0:=AD.out.c 1 0
    have cQ1:=AD.out.c 1 1
    have cQ2:=AD.out.c 1 2
    go_simp
    refine stW AF AD.out ?_
    intro AR AB AG
    clear AF Kq AD cQ0 cQ1 cQ2 AE
    try simp only [zP]
    refine rdy1 6 rfl (fun Kq AF=>?_)
    go_simp
    go_at_call 70
    refine(HCA.out _ AB.out.be).mono ?_
    rintro e wT ⟨a2,n2,c2,m2,d2,e2,f2,rfl,hz,hb⟩
    (try go_wp2_with fail)
    refine stW AF ((AB.out.call hb).pR rfl rfl hz) ?_
    intro AS AC AH
    clear AF Kq AB hb hz AG
    exact mW18_0
   refine arc rfl (fun Kq AF=>?_) ?_
   ·go_simp
    go_at_call 70
    refine(HCA.out _ AD.out.be).mono ?_
    rintro e wT ⟨a2,n2,c2,m2,d2,e2,f2,rfl,hz,hb⟩
    (try go_wp2_with fail)
    refine stW AF ((AD.out.call hb).pR rfl rfl hz) ?_
    intro AR AB AG
    clear AF Kq AD hb hz AE
    try simp only [zP]
    refine rdy1 0 rfl (fun Kq AF=>?_)
    have cQ0:=AB.out.c 1 0
    have cQ1:=AB.out.c 1 1
    have cQ2:=AB.out.c 1 2
    go_simp
    refine stW AF AB.out ?_
    intro AS AC AH
    clear AF Kq AB cQ0 cQ1 cQ2 AG
    exact mW18_0
   exact AllReadyH.nil
  ·obtain rfl:k=nn:=by omega
   have HFIN:=ζ (show smQ (((digP bs zs).take k).map (digA l))=digQ l bs zs by unfold digQ;rw [List.take_of_length_le (by rw [HDL.out];exact Nat.le_refl _)])
   rw [HFIN.out]at hS
   have AN:=hS.out.c 0 0
   have AK:=hS.out.f 0 0
   have AO:=hS.out.c 0 1
   have AL:=hS.out.f 0 1
   have AP:=hS.out.c 0 2
   have AM:=hS.out.f 0 2
   have y1_0:=hS.out.c 1 0
   have y1_1:=hS.out.c 1 1
   have y1_2:=hS.out.c 1 2
   have l0:=hS.out.lt 0 rfl
   go_wp2
   have hZ:=ζ (hS.out|>.set (j:=0) (v:= .slice a1 n1 c1) 0 rfl|>.set (j:=1) (v:= .bool m1) 0 rfl|>.set (j:=2) (v:= .slice d1 e1 f1) 0 rfl)
   refine ret_sy hZ.out (v:= .tuple #[.agg #[.slice a1 n1 c1,.bool m1,.slice d1 e1 f1],.int .i64 0]) (fun hF=>?_) rfl (fun hF=>⟨_,_,_,_,_,_,_,rfl,hF.r 0 rfl,hF.be⟩)
   have g0_0:=hF.c 0 0
   have g0_1:=hF.c 0 1
   have g0_2:=hF.c 0 2
   simp [results,Tryz.results26,go_sem,g0_0,g0_1,g0_2]
end
end
end Go.Proofs.YthmdhlopeponcaaGreatDoor

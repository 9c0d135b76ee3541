/- Feet, Heads -/
/- wrongLevels -/
/- the digging of treads (plain): the number of pieces -/
/- the digging of treads (plain): sums and how large they are -/
/- the best cuts (plain): from row to row one tread more -/
/- bays of rows, as the program and as the reference join them (plain) -/
/- rows (plain) -/
import Derived.Test.YthmdhlopeponcaaGreatDoorJ27
import Derived.Test.YthmdhlopeponcaaGreatDoorJ3
namespace Go.Proofs.YthmdhlopeponcaaGreatDoor
open Go.RowKit Go.Shelf Dig
theorem brk_ok {l:List Pt} {bs:List Int} (h:brkB l bs=true):Prof l∧(2≤bs.length∧bs.length≤61)∧(∀i,i+1 < bs.length→bX bs i < bX bs (i+1))∧∀x∈bs,hasB l x=true:=by
 unfold brkB at h
 rw [Bool.and_eq_true,Bool.and_eq_true,Bool.and_eq_true]at h
 have:=inB_iff.1 h.2.1
 exact⟨prof_iff.1 h.1,by omega,upI_iff.1 h.2.2.1,List.all_eq_true.1 h.2.2.2⟩
theorem nbr_mem {bs:List Int} {t:Int×Int} (h:t∈nbr bs):∃i,∃hi:i+1 < bs.length,t=(bs[i],bs[i+1]):=by
 obtain ⟨i,hi,rfl⟩:=List.getElem_of_mem h
 have hi2:=hi
 rw [nbr_len]at hi2
 refine⟨i,by omega,?_⟩
 have:=nbr_get (l:=bs) (i:=i) (by omega)
 rw [List.getElem?_eq_getElem hi]at this
 exact Option.some.inj this
theorem brk_strt {l:List Pt} {bs:List Int} (h:brkB l bs=true) {t:Int×Int} (ht:t∈nbr bs):Strt l t.1 t.2:=by
 obtain ⟨hP,hn,hu,hh⟩:=brk_ok h
 obtain ⟨i,hi,rfl⟩:=nbr_mem ht
 have h1:=hu i hi
 rw [bX_at hi,bX_at (show i < bs.length by omega)]at h1
 have a1:=hh _ (List.getElem_mem (show i < bs.length by omega))
 have a2:=hh _ (List.getElem_mem hi)
 unfold hasB at a1 a2
 exact⟨hP,(inB_iff.1 a1).1,h1,(inB_iff.1 a2).2⟩
set_option maxHeartbeats 4000000 in
set_option maxRecDepth 100000 in
theorem hFeet_any (w:World) (sa:Option Addr) (sn sc:Nat) (l:List Pt) (hs:Sx 2 w sa sn sc (L2 l)) (ba:Option Addr) (bn bc:Nat) (bs:List Int) (hb:Sx 1 w ba bn bc (L1 bs)) (far rise:Int) (hr: -9223372036854775807≤rise) (hr2:rise≤9223372036854775807):
  Calls Tryz.prog 18 #[.slice sa sn sc,.slice ba bn bc,.int .i64 far,.int .i64 rise] w (RetLv w (lvErr l bs far rise) (folL min (rise) ((nbr bs).map fun t=>footI l t.1 t.2 far))):=by
 have HK:=Lib.hid (levels_any w sa sn sc l hs ba bn bc bs hb far rise (rise) (fun h=>by omega) 61 62 (fun t=>footI l t.1 t.2 far) min feet1_any eg_feet1 eg_foot
  (fun hk hf W hW t ht=>⟨foot_any W sa sn sc l t.1 t.2 far (brk_strt hk ht) (by omega) (hs.below hW),by have:=(brk_strt hk ht).lo_gd.floor;unfold footI;omega⟩))
 generalize lvErr l bs far rise=er at*
 generalize folL min (rise) ((nbr bs).map fun t=>footI l t.1 t.2 far)=vs at*
 have wn:IntKind.i64.wrap (-rise)= -rise:=IntWalk.i64_in _ (by omega)
 clear hs hb
 go_enter Tryz.func18,Tryz.ntmps18
 go_wp2_with fail
 refine HK.out.mono ?_
 rintro e w1 (⟨h1,a,c,rfl,hr,hbb⟩ | ⟨h1,rfl,hbb⟩)
 ·have HR:=Lib.hid hr
  have HB:=Lib.hid hbb
  clear hr hbb HK
  go_wp2
  go_ret2
  exact .inl ⟨h1,a,c,rfl,HR.out,HB.out⟩
 ·have HB:=Lib.hid hbb
  have H1:=Lib.hid h1
  clear hbb HK h1
  go_wp2
  go_ret2
  exact .inr ⟨H1.out,rfl,HB.out⟩
set_option maxHeartbeats 4000000 in
set_option maxRecDepth 100000 in
theorem hHeads_any (w:World) (sa:Option Addr) (sn sc:Nat) (l:List Pt) (hs:Sx 2 w sa sn sc (L2 l)) (ba:Option Addr) (bn bc:Nat) (bs:List Int) (hb:Sx 1 w ba bn bc (L1 bs)) (far rise:Int) (hr: -9223372036854775807≤rise) (hr2:rise≤9223372036854775807):
  Calls Tryz.prog 19 #[.slice sa sn sc,.slice ba bn bc,.int .i64 far,.int .i64 rise] w (RetLv w (lvErr l bs far rise) (folL max (-rise) ((nbr bs).map fun t=>headI l t.1 t.2 far))):=by
 have HK:=Lib.hid (levels_any w sa sn sc l hs ba bn bc bs hb far rise (-rise) (fun h=>by omega) 63 64 (fun t=>headI l t.1 t.2 far) max heads1_any eg_heads1 eg_head
  (fun hk hf W hW t ht=>⟨head_any W sa sn sc l t.1 t.2 far (brk_strt hk ht) (by omega) (hs.below hW),by have:=(brk_strt hk ht).hi_gd.ceil;unfold headI;omega⟩))
 generalize lvErr l bs far rise=er at*
 generalize folL max (-rise) ((nbr bs).map fun t=>headI l t.1 t.2 far)=vs at*
 have wn:IntKind.i64.wrap (-rise)= -rise:=IntWalk.i64_in _ (by omega)
 clear hs hb
 go_enter Tryz.func19,Tryz.ntmps19
 go_wp2_with fail
 refine HK.out.mono ?_
 rintro e w1 (⟨h1,a,c,rfl,hr,hbb⟩ | ⟨h1,rfl,hbb⟩)
 ·have HR:=Lib.hid hr
  have HB:=Lib.hid hbb
  clear hr hbb HK
  go_wp2
  go_ret2
  exact .inl ⟨h1,a,c,rfl,HR.out,HB.out⟩
 ·have HB:=Lib.hid hbb
  have H1:=Lib.hid h1
  clear hbb HK h1
  go_wp2
  go_ret2
  exact .inr ⟨H1.out,rfl,HB.out⟩
end Go.Proofs.YthmdhlopeponcaaGreatDoor
namespace Go.Proofs.YthmdhlopeponcaaGreatDoor
open Go.RowKit Go.Shelf Dig
def wrongB (n:Nat) (zs:List Int):Bool:=decide (zs.length≠n) || zs.any (fun z=> !inB z (-200000) 200000)
section
variable (w:World)
set_option maxHeartbeats 1000000 in
theorem wrong1_any (z:Int):Calls Tryz.prog 130 #[.int .i64 z] w (Gives (.bool (!inB z (-200000) 200000)) w):=by
 cases h:inB z (-200000) 200000
 all_goals
  go_enter Tryz.func130,Tryz.ntmps130
  go_wp2_with ((with_reducible refine(hwithin_any _ _ _ _).mono ?_);rintro e w1 ⟨rfl,rfl⟩)
  go_ret
  exact⟨rfl,Below.refl _ _⟩
theorem eg_wrong1:EG 130:=enters_of Tryz.func130 (by kernel_rfl) rfl
set_option maxHeartbeats 4000000 in
set_option maxRecDepth 100000 in
theorem wrong_any (ta:Option Addr) (tn tc:Nat) (za:Option Addr) (zn zc:Nat) (zs:List Int) (hz:Sx 1 w za zn zc (L1 zs)):Calls Tryz.prog 69 #[.slice ta tn tc,.slice za zn zc] w (Gives (.bool (wrongB tn zs)) w):=by
 obtain rfl:=hz.n1
 have HX:=Lib.hid (containsFunc_int za zs.length zc zs 130 #[] (fun z=> !inB z (-200000) 200000) w hz eg_wrong1 (fun W _ x _=>wrong1_any W x))
 have HW:=Lib.hid (show wrongB tn zs=(decide (zs.length≠tn) || zs.any (fun z=> !inB z (-200000) 200000))from rfl)
 generalize zs.any (fun z=> !inB z (-200000) 200000)=q at*
 clear hz
 by_cases h:zs.length=tn
 ·have HR:=Lib.hid (show wrongB tn zs=q by rw [HW.out,decide_eq_false (by omega)];rfl)
  have h2:(zs.length:Int)=(tn:Int):=by omega
  clear HW h
  go_enter Tryz.func69,Tryz.ntmps69
  go_wp2_with fail
  refine HX.out.mono ?_
  rintro e w1 ⟨rfl,hb⟩
  have hB:=Lib.hid hb
  clear hb
  go_wp2
  go_ret
  exact⟨ret_bool HR.out.symm,hB.out⟩
 ·have HR:=Lib.hid (show wrongB tn zs=true by rw [HW.out,decide_eq_true (by omega)];rfl)
  have h2:¬ (zs.length:Int)=(tn:Int):=by omega
  clear HW h HX
  go_enter Tryz.func69,Tryz.ntmps69
  go_wp2
  go_ret
  exact⟨ret_bool HR.out.symm,Below.refl _ _⟩
end
end Go.Proofs.YthmdhlopeponcaaGreatDoor
namespace Go.Proofs.YthmdhlopeponcaaGreatDoor
open Go.RowKit Go.Shelf Dig
def cntX (l:List Pt) (a:Int):Nat:=((l.map (·.x)).filter (fun x=>decide (a < x))).length
theorem filter_two:∀ (xs:List Int) {a b:Int},a < b→(xs.filter (fun x=>decide (a < x) && decide (x < b))).length+(xs.filter (fun x=>decide (b < x))).length≤(xs.filter (fun x=>decide (a < x))).length
 | [],_,_,_=>Nat.le_refl _
 | x::xs,a,b,h=>by
   have ih:=filter_two xs h
   rw [List.filter_cons,List.filter_cons,List.filter_cons]
   by_cases h1:a < x<;>by_cases h2:x < b<;>by_cases h3:b < x
   all_goals
    simp [h1,h2,h3]
    omega
theorem ins_cnt (l:List Pt) {a b:Int} (h:a < b):(ins l a b).length+cntX l b≤cntX l a:=filter_two _ h
theorem cnt_le (l:List Pt) (a:Int):cntX l a≤l.length:=by unfold cntX;refine Nat.le_trans (List.length_filter_le ..) ?_;rw [List.length_map];exact Nat.le_refl _
theorem Strt.pcs_ins {l:List Pt} {a b:Int} (hT:Strt l a b):(Proofs.YthmdhlopeponcaaGreatDoor.pcs l a b).length=(ins l a b).length+1:=by
 rw [hT.pcs,nbr_len,cor,List.length_cons,List.length_append];simp
def allP (l:List Pt) (ts:List (Int×Int)):List (Int×Int):=ts.flatMap fun t=>pcs l t.1 t.2
theorem allP_len {l:List Pt} :∀ (bs:List Int) (x:Int),(∀t∈nbr (x::bs),Strt l t.1 t.2)→(allP l (nbr (x::bs))).length≤cntX l x+bs.length
 | [],x,_=>Nat.zero_le _
 | y::r,x,h=>by
   have e:nbr (x::y::r)=(x,y)::nbr (y::r):=rfl
   rw [e]at h⊢
   have h1:=h (x,y) (List.mem_cons_self ..)
   have ih:=allP_len r y (fun t ht=>h t (List.mem_cons_of_mem _ ht))
   have h2:=ins_cnt l h1.lt
   have h3:=h1.pcs_ins
   unfold allP at*
   rw [List.flatMap_cons,List.length_append,List.length_cons]
   dsimp only at*
   omega
end Go.Proofs.YthmdhlopeponcaaGreatDoor
namespace Go.Proofs.YthmdhlopeponcaaGreatDoor
open Go.RowKit Go.Shelf Dig
def digP (bs zs:List Int):List ((Int×Int)×Int):=(nbr bs).zip zs
def digA (l:List Pt) (p:(Int×Int)×Int):Rat:=above l p.1.1 p.1.2 p.2
def digQ (l:List Pt) (bs zs:List Int):Rat:=smQ ((digP bs zs).map (digA l))
theorem digP_len {bs zs:List Int} (h:zs.length=bs.length - 1):(digP bs zs).length=bs.length - 1:=by unfold digP;rw [List.length_zip,nbr_len,h,Nat.min_self]
theorem digP_at {bs zs:List Int} {k:Nat} (h1:k < (nbr bs).length) (h2:k < zs.length) (h3:k < (digP bs zs).length):(digP bs zs)[k]=((nbr bs)[k],zs[k]):=List.getElem_zip
theorem dig_flat (l:List Pt):∀P:List ((Int×Int)×Int),smQ (P.map (digA l))=smQ (P.flatMap fun p=>(pcs l p.1.1 p.1.2).map (pieceA l p.2))
 | []=>rfl
 | p::P=>by
   rw [List.map_cons,List.flatMap_cons,smQ_cons,smQ_app,dig_flat l P]
   rfl
theorem dig_flat_len (l:List Pt):∀P:List ((Int×Int)×Int),(P.flatMap fun p=>(pcs l p.1.1 p.1.2).map (pieceA l p.2)).length=(allP l (P.map (·.1))).length
 | []=>rfl
 | p::P=>by
   have:=dig_flat_len l P
   unfold allP at*
   rw [List.flatMap_cons,List.map_cons,List.flatMap_cons,List.length_append,List.length_append,List.length_map,this]
theorem allP_take (l:List Pt) (ts:List (Int×Int)) (k:Nat):(allP l (ts.take k)).length≤(allP l ts).length:=by
 have e:allP l ts=allP l (ts.take k)++allP l (ts.drop k):=by unfold allP;rw [←List.flatMap_append,List.take_append_drop]
 rw [e,List.length_append]
 omega
theorem zip_fst:∀ (ts:List (Int×Int)) (zs:List Int),ts.length≤zs.length→(ts.zip zs).map (·.1)=ts
 | [],_,_=>rfl
 | t::ts,[],h=>by simp at h
 | t::ts,z::zs,h=>by
   rw [List.zip_cons_cons,List.map_cons,zip_fst ts zs (by simp at h;exact h)]
theorem dig_bq {l:List Pt} {bs zs:List Int} (h:brkB l bs=true) (hz:∀z∈zs,InZ z) (hl:zs.length=bs.length - 1) (k:Nat):Bq 17800 (smQ (((digP bs zs).take k).map (digA l))):=by
 obtain ⟨hP,⟨h2,h61⟩,-,-⟩:=brk_ok h
 rw [dig_flat]
 have hlen:(((digP bs zs).take k).flatMap fun p=>(pcs l p.1.1 p.1.2).map (pieceA l p.2)).length≤101:=by
  rw [dig_flat_len,List.map_take]
  refine Nat.le_trans (allP_take l _ k) ?_
  unfold digP
  rw [zip_fst _ _ (by rw [nbr_len,hl];exact Nat.le_refl _)]
  match bs,h2 with
  | x::r,_=>
    have e:=allP_len (l:=l) r x (fun t ht=>brk_strt h ht)
    have c:=cnt_le l x
    have:=hP.forty
    simp only [List.length_cons]at h61
    omega
 refine(smQ_bq (N:=174) fun q hq=>?_).mono (by
  have:=Nat.mul_le_mul_right (174+1) hlen
  omega)
 obtain ⟨p,hp,hq⟩:=List.mem_flatMap.1 hq
 obtain ⟨t,ht,rfl⟩:=List.mem_map.1 hq
 have hm:=List.mem_of_mem_take hp
 unfold digP at hm
 have hm2:=List.of_mem_zip (a:=p.1) (b:=p.2) (by simpa using hm)
 have hT:=brk_strt h hm2.1
 have:=hT.in_pcs ht
 exact pieceA_bq hT (hz _ hm2.2) t this.1 this.2.1 this.2.2
end Go.Proofs.YthmdhlopeponcaaGreatDoor
namespace Go.Proofs.YthmdhlopeponcaaGreatDoor
open Go.RowKit Go.Shelf Dig
abbrev Ct:=Rat×List Int
def cmpI (x y:Int):Int:=if x < y then -1 else if y < x then 1 else 0
def lexC:List Int→List Int→Int
 | [],[]=>0
 | [],_::_=> -1
 | _::_,[]=>1
 | x::xs,y::ys=>if cmpI x y=0 then lexC xs ys else cmpI x y
def betB (c:Ct):Option Ct→Bool
 | none=>true
 | some o=>decide (cmpQ c.1 o.1 < 0) || (decide (cmpQ c.1 o.1=0) && decide (lexC c.2 o.2 < 0))
section
variable (l:List Pt) (a unit least depth:Int)
def atC (i:Nat):Int:=a+(i:Int)*unit
def costI (i k:Nat):Rat:=above l (atC a unit i) (atC a unit k) (footI l (atC a unit i) (atC a unit k) depth)
def pickC (row:Nat→Option Ct) (k i:Nat) (cur:Option Ct):Option Ct:=
 match row i with
 | none=>cur
 | some c=>if ((k:Int) - (i:Int))*unit < least then cur else if betB (c.1+costI l a unit depth i k,c.2++ [atC a unit k]) cur then some (c.1+costI l a unit depth i k,c.2++ [atC a unit k])else cur
def nextC (row:Nat→Option Ct) (k:Nat):Nat→Option Ct
 | 0=>none
 | i+1=>pickC l a unit least depth row k i (nextC row k i)
def rowC (n:Nat):Nat→Nat→Option Ct
 | 0=>fun j=>if j=0 then some (0,[a])else none
 | t+1=>fun j=>if 1≤j∧j≤n then nextC l a unit least depth (rowC n t) j j else none
def takeC (c b:Option Ct):Option Ct:=
 match c,b with
 | none,b=>b
 | some c,none=>some c
 | some c,some b=>if cmpQ c.1 b.1 < 0 then some c else some b
def bestC (n:Nat):Nat→Option Ct
 | 0=>none
 | t+1=>takeC (rowC l a unit least depth n (t+1) n) (bestC n t)
inductive Chn:Nat→Nat→List Int→Rat→Prop
 | zero:Chn 0 0 [a] 0
 | step {t i j:Nat} {bs:List Int} {c:Rat} (h:Chn t i bs c) (hij:i < j) (hl:¬ ((j:Int) - (i:Int))*unit < least):Chn (t+1) j (bs++ [atC a unit j]) (c+costI l a unit depth i j)
def costL (bs:List Int):Rat:=smQ ((nbr bs).map fun t=>above l t.1 t.2 (footI l t.1 t.2 depth))
end
section
variable {l:List Pt} {a unit least depth:Int}
theorem pick_chn {row:Nat→Option Ct} {t:Nat} (hr:∀i c,row i=some c→Chn l a unit least depth t i c.2 c.1) {k i:Nat} (hi:i < k) {cur:Option Ct} (hc:∀c,cur=some c→Chn l a unit least depth (t+1) k c.2 c.1):∀c,pickC l a unit least depth row k i cur=some c→Chn l a unit least depth (t+1) k c.2 c.1:=by
 intro c h
 unfold pickC at h
 split at h
 ·exact hc c h
 ·rename_i d hd
  split at h
  ·exact hc c h
  ·rename_i hl
   split at h
   ·cases h
    exact .step (hr i d hd) hi hl
   ·exact hc c h
theorem next_chn {row:Nat→Option Ct} {t:Nat} (hr:∀i c,row i=some c→Chn l a unit least depth t i c.2 c.1) {k:Nat} :∀ {i:Nat},i≤k→∀c,nextC l a unit least depth row k i=some c→Chn l a unit least depth (t+1) k c.2 c.1
 | 0,_,c,h=>by cases h
 | i+1,hi,c,h=>pick_chn hr (show i < k by omega) (next_chn hr (i:=i) (by omega)) c h
theorem row_chn {n:Nat} :∀ {t j:Nat} {c:Ct},rowC l a unit least depth n t j=some c→Chn l a unit least depth t j c.2 c.1
 | 0,j,c,h=>by
   unfold rowC at h
   split at h
   ·rename_i h0
    cases h;subst h0;exact .zero
   ·cases h
 | t+1,j,c,h=>by
   unfold rowC at h
   split at h
   ·exact next_chn (fun i c hc=>row_chn hc) (Nat.le_refl _) c h
   ·cases h
theorem Chn.len {t j:Nat} {bs:List Int} {c:Rat} (h:Chn l a unit least depth t j bs c):bs.length=t+1:=by
 induction h with
 | zero=>rfl
 | step h _ _ ih=>rw [List.length_append,ih];rfl
theorem Chn.last {t j:Nat} {bs:List Int} {c:Rat} (h:Chn l a unit least depth t j bs c):∃pre,bs=pre++ [atC a unit j]:=by
 cases h with
 | zero=>exact⟨[],by simp [atC]⟩
 | step h _ _=>exact⟨_,rfl⟩
theorem Chn.head {t j:Nat} {bs:List Int} {c:Rat} (h:Chn l a unit least depth t j bs c):∃r,bs=a::r:=by
 induction h with
 | zero=>exact⟨[],rfl⟩
 | step h _ _ ih=>obtain ⟨r,rfl⟩:=ih;exact⟨r++_,rfl⟩
theorem Chn.cost {t j:Nat} {bs:List Int} {c:Rat} (h:Chn l a unit least depth t j bs c):c=costL l depth bs:=by
 induction h with
 | zero=>rfl
 | step h _ _ ih=>
   obtain ⟨pre,rfl⟩:=h.last
   unfold costL
   rw [List.append_assoc,List.singleton_append,nbr_snoc,List.map_append,smQ_app,←costL,←ih,List.map_cons,List.map_nil,smQ_cons,smQ_nil,Rat.add_zero]
   rfl
theorem Chn.hi {t j:Nat} {bs:List Int} {c:Rat} (h:Chn l a unit least depth t j bs c):t=0∧j=0∨0 < t∧t≤j:=by
 induction h with
 | zero=>exact .inl ⟨rfl,rfl⟩
 | step h _ _ ih=>right;omega
theorem atC_lt {i j:Nat} (hu:1≤unit) (h:i < j):atC a unit i < atC a unit j:=by
 unfold atC
 have:=Int.mul_lt_mul_of_pos_right (show(i:Int) < (j:Int)by omega) (show 0 < unit by omega)
 omega
theorem atC_le {i j:Nat} (hu:1≤unit) (h:i≤j):atC a unit i≤atC a unit j:=by
 unfold atC
 have:=Int.mul_le_mul_of_nonneg_right (show(i:Int)≤(j:Int)by omega) (show 0≤unit by omega)
 omega
theorem atC_zero:atC a unit 0=a:=by simp [atC]
theorem Chn.mem {t j:Nat} {bs:List Int} {c:Rat} (h:Chn l a unit least depth t j bs c) (hu:1≤unit):(∀x∈bs,a≤x∧x≤atC a unit j)∧bs.Pairwise (· < ·):=by
 induction h with
 | zero=>exact⟨fun x hx=>by rw [List.mem_singleton.1 hx,atC_zero];exact⟨Int.le_refl _,Int.le_refl _⟩,List.pairwise_singleton ..⟩
 | step h hij _ ih=>
   have hlt:=atC_lt (a:=a) hu hij
   have h0:=atC_le (a:=a) hu (Nat.zero_le _) (j:= ‹Nat›)
   refine⟨fun x hx=>?_,List.pairwise_append.2 ⟨ih.2,List.pairwise_singleton ..,fun x hx y hy=>?_⟩⟩
   ·rcases List.mem_append.1 hx with hx | hx
    ·have:=ih.1 x hx;omega
    ·rw [List.mem_singleton.1 hx]
     have:=atC_le (a:=a) hu (Nat.zero_le _) (j:= ‹Nat›)
     rw [atC_zero]at this
     have h3:=ih.1
     obtain ⟨pre,rfl⟩:=h.last
     have h4:=h3 _ (List.mem_append_right _ (List.mem_singleton.2 rfl))
     omega
   ·rw [List.mem_singleton.1 hy]
    have:=ih.1 x hx;omega
theorem Chn.brk {t j n:Nat} {bs:List Int} {c:Rat} (h:Chn l a unit least depth t j bs c) (hu:1≤unit) (hT:Strt l a (atC a unit n)) (hj:j≤n) (h0:0 < t) (h60:t≤60) (hp:profB l=true):brkB l bs=true:=by
 obtain ⟨hm,hs⟩:=h.mem hu
 have hl:=h.len
 have hle:=atC_le (a:=a) hu hj
 unfold brkB
 rw [hp,Bool.true_and,Bool.and_eq_true,Bool.and_eq_true]
 refine⟨inB_iff.2 (by omega),upI_iff.2 fun i hi=>?_,List.all_eq_true.2 fun x hx=>?_⟩
 ·rw [bX_at (by omega),bX_at hi]
  exact List.pairwise_iff_getElem.1 hs i (i+1) (by omega) hi (by omega)
 ·have:=hm x hx
  unfold hasB
  refine inB_iff.2 ?_
  have h1:=hT.lo
  have h2:=hT.hi
  constructor
  ·exact Int.le_trans h1 this.1
  ·exact Int.le_trans (Int.le_trans this.2 hle) h2
theorem dig_costL (l:List Pt) (depth:Int) (bs:List Int):digQ l bs ((nbr bs).map fun t=>footI l t.1 t.2 depth)=costL l depth bs:=by
 unfold digQ digP costL
 congr 1
 generalize nbr bs=ts
 induction ts with
 | nil=>rfl
 | cons t ts ih=>rw [List.map_cons,List.zip_cons_cons,List.map_cons,List.map_cons,ih];rfl
theorem Strt.in100 {l:List Pt} {a b:Int} (h:Strt l a b): -100000≤a∧a < b∧b≤100000:=by
 have h2:=h.ok.two
 have f0:=(h.ok.far (l[0]'(by omega)) (List.getElem_mem _)).1
 have f1:=(h.ok.far (l[l.length - 1]'(by omega)) (List.getElem_mem _)).1
 have h3:=h.lo
 have h4:=h.hi
 have h5:=h.lt
 rw [hX_at (by omega)]at h3 h4
 omega
theorem bq_zero (n:Nat):Bq (n+1) 0:=by
 have h:1 < 2 ^ (n+1):=Nat.one_lt_two_pow (by omega)
 exact⟨by show(0:Int).natAbs < 2 ^ (n+1);simp only [Int.natAbs_zero];omega,by show((1:Nat):Int).natAbs < 2 ^ (n+1);simp only [Int.natAbs_natCast];exact h⟩
theorem foot_inZ {l:List Pt} {a b depth:Int} (hT:Strt l a b) (h0:0≤depth) (h1:depth≤3000): -103000≤footI l a b depth∧footI l a b depth≤100000:=by
 have:=hT.lo_gd.floor
 unfold footI
 omega
theorem Chn.bq {t j n:Nat} {bs:List Int} {c:Rat} (h:Chn l a unit least depth t j bs c) (hu:1≤unit) (hT:Strt l a (atC a unit n)) (hj:j≤n) (h60:t≤60) (hp:profB l=true) (hd:0≤depth∧depth≤3000):Bq 17800 c:=by
 by_cases h0:t=0
 ·subst h0
  cases h
  exact bq_zero 17799
 ·have hb:=h.brk hu hT hj (by omega) h60 hp
  rw [h.cost,←dig_costL]
  have:=dig_bq (l:=l) (bs:=bs) (zs:=(nbr bs).map fun t=>footI l t.1 t.2 depth) hb (fun z hz=>by
   obtain ⟨q,hq,rfl⟩:=List.mem_map.1 hz
   have:=foot_inZ (brk_strt hb hq) hd.1 hd.2
   unfold InZ
   omega) (by rw [List.length_map,nbr_len]) (digP bs ((nbr bs).map fun t=>footI l t.1 t.2 depth)).length
  rw [List.take_length]at this
  exact this
end
end Go.Proofs.YthmdhlopeponcaaGreatDoor
namespace Go.Proofs.YthmdhlopeponcaaGreatDoor
def putTo (l:List (Int×Int)) (b:Int):List (Int×Int):=match l.getLast? with
 | some t=>l.dropLast++ [(t.1,b)]
 | none=>l
def bayP (br:Nat→Int) (has:Nat→Bool):Nat→List (Int×Int)
 | 0=>[]
 | i+1=>if has i then(if (bayP br has i).getLast?.map (·.2)=some (br i)then putTo (bayP br has i) (br (i+1))else bayP br has i++ [(br i,br (i+1))])else bayP br has i
end Go.Proofs.YthmdhlopeponcaaGreatDoor
namespace Go.Proofs.YthmdhlopeponcaaGreatDoor
open Go.RowKit Go.Shelf Dig
def hasR (feet heads:List Int) (z h:Int) (k:Nat):Bool:=decide (bX feet k≤z) && decide (z+h≤bX heads k)
def baysP (bs feet heads:List Int) (z h:Int) (n:Nat):List (Int×Int):=bayP (bX bs) (hasR feet heads z h) n
def rowOf (z h:Int) (b:List (Int×Int)):List (Int×Int×List (Int×Int)):=if b.length=0 then []else [(z,z+h,b)]
def rowsUp (bs feet heads:List Int) (low h:Int) (n:Nat):Nat→List (Int×Int×List (Int×Int))
 | 0=>[]
 | i+1=>rowsUp bs feet heads low h n i++rowOf (low+i*h) h (baysP bs feet heads (low+i*h) h n)
def rowN (low top h:Int):Nat:=((top - low) / h).toNat
def rowsErr (l:List Pt) (bs feet heads:List Int) (h:Int):Int:=
 if brkB l bs=true then(if inB h 1 3000=true then(if (wrongB (bs.length - 1) feet || wrongB (bs.length - 1) heads)=true then 2 else if 200*h < maxL heads - minL feet then 5 else 0)else 3)else 2
def rowsL (bs feet heads:List Int) (h:Int):List (Int×Int×List (Int×Int)):=rowsUp bs feet heads (minL feet) h (bs.length - 1) (rowN (minL feet) (maxL heads) h)
theorem row_more {low top h:Int} (hh:1≤h) {i:Nat} :i < rowN low top h↔low+i*h+h≤top:=by
 unfold rowN
 have e:(i:Int)*h+h=((i:Int)+1)*h:=by rw [Int.add_mul,Int.one_mul]
 rw [show low+i*h+h≤top↔((i:Int)+1)*h≤top - low by rw [←e];omega,←Int.le_ediv_iff_mul_le (by omega)]
 omega
theorem bayP_len (br:Nat→Int) (has:Nat→Bool):∀n,(bayP br has n).length≤n
 | 0=>Nat.le_refl _
 | n+1=>by
   have ih:=bayP_len br has n
   unfold bayP
   split
   ·split
    ·have:(putTo (bayP br has n) (br (n+1))).length=(bayP br has n).length:=by
      rcases List.eq_nil_or_concat (bayP br has n)with e | ⟨L,t,e⟩
      ·rw [e];rfl
      ·rw [e];simp [putTo]
     omega
    ·rw [List.length_append,List.length_singleton];omega
   ·omega
theorem rowsUp_len (bs feet heads:List Int) (low h:Int) (n:Nat):∀i,(rowsUp bs feet heads low h n i).length≤i
 | 0=>Nat.le_refl _
 | i+1=>by
   have:=rowsUp_len bs feet heads low h n i
   unfold rowsUp rowOf
   rw [List.length_append]
   split
   ·simp;omega
   ·simp;omega
theorem putTo_cells (b:List (Int×Int)) (y:Int) (h:0 < b.length):(L2 b).set ((b.length - 1)*2+1) (.int .i64 y)=L2 (putTo b y):=by
 rcases List.eq_nil_or_concat b with rfl | ⟨L,t,rfl⟩
 ·simp at h
 ·rw [List.concat_eq_append]
  have e:putTo (L++ [t]) y=L++ [(t.1,y)]:=by simp [putTo]
  rw [e]
  unfold L2
  rw [List.flatMap_append,List.flatMap_append,List.length_append]
  have hl:(L.flatMap c2).length=L.length*2:=flat_len (f:=c2) (fun _=>rfl) L
  rw [show L.length+ [t].length - 1=L.length by simp,List.set_append,if_neg (by omega),hl,show L.length*2+1 - L.length*2=1 by omega]
  rfl
theorem putTo_len (b:List (Int×Int)) (y:Int):(putTo b y).length=b.length:=by
 rcases List.eq_nil_or_concat b with rfl | ⟨L,t,rfl⟩
 ·rfl
 ·simp [putTo]
structure Rwx where
 low:Int
 high:Int
 ba:Option Addr
 bc:Nat
 bays:List (Int×Int)
def cR (r:Rwx):List Value:=[.int .i64 r.low,.int .i64 r.high,.slice r.ba r.bays.length r.bc]
def LRw (l:List Rwx):List Value:=l.flatMap cR
def nR (r:Rwx):Int×Int×List (Int×Int):=(r.low,r.high,r.bays)
theorem LRw_append (l r:List Rwx):LRw (l++r)=LRw l++LRw r:=List.flatMap_append
end Go.Proofs.YthmdhlopeponcaaGreatDoor

/- part -/
import Derived.Test.YtjpojeapdgjbhaaGreatDoorQ11
import Derived.Test.YtjpojeapdgjbhaaGreatDoorQ13
import Derived.Test.YtjpojeapdgjbhaaGreatDoorShelf
import Derived.Lib.SlBytesRow
import Derived.Shelf.Strings.SlTrimAscii
set_option maxRecDepth 100000
set_option maxHeartbeats 2000000
namespace Go.Proofs.YtjpojeapdgjbhaaGreatDoor
open Go.RowKit Dig
theorem info_str:(Tryz.prog.info? 9).map (fun i=>(i.zero,i.size,i.bytes))=some (some (.string ⟨#[]⟩),1,16):=by kernel_rfl
theorem step_append_row {P:Program} {w:World} {ops:Array Oper} {o:Oper} {a:Act} {K:Act->World->Prop} {Q:Exit->Act->World->Prop} {E:Prop} (hgd:o.guard=none) (s x:Operand) (t:TypeId)
  (ho:o.op= .call { callee:= .builtin .append,args:=#[s,x],argTypes:=#[t,t] })
  (e:TypeId) (i:TypeInfo) (z:Value) (size bytes:Nat) (ht:P.underlying t=some (.slice e)) (hi:P.info? e=some i) (hz:i.zero=some z)
  (hsize:i.size=size) (hby:i.bytes=bytes) (hzs:z.cells.size=size) (hsz:0 < size)
  (v:Value) (n:Nat) (xs:List Value) (hs:a.eval s=v) (hown:w.ownsRow 0 e size v n xs)
  (sv:Value) (m:Nat) (news:List Value) (hx:a.eval x=sv) (hsrc:w.ownsRow 0 e size sv m news) (h1:∀u∈news,u.oneCell'=true)
  (h63:n+m<=1000000000) (hbytes:bytes<=100000)
  (h:∀a' c' w',w'.ownsRow 0 e size (.slice a' (n+m) c') (n+m) (xs++news)->w.grownBy w' v.ownBlock->Since w.heap.size v (.slice a' (n+m) c')->K (a.put o.dst (.slice a' (n+m) c')) w'):
  if Region.wanted o (yielded ops a.tmps)=true then Oper.wp P o a w K Q else E:=by
 have hw:Region.wanted o (yielded ops a.tmps)=true:=by simp [Region.wanted,hgd]
 rw [if_pos hw];obtain ⟨a',c',w',hr,h2,h3,h4⟩:=run_append_row (P:=P) w t o.type e i z size bytes ht hi hz hsize hby hzs hsz v n xs hown sv m news hsrc h1 h63 hbytes;unfold Oper.wp execOp;simp only [ho,resolve,invoke,builtin,Sem.run_bind,Sem.run_pure,Result.andThen_ok,List.map_toArray,List.map_cons,List.map_nil,hs,hx,hr];exact h _ _ _ h2 h3 h4
def StrSx (w:World) (v:Value) (xs:List ByteArray):Prop:=w.ownsRow 0 9 1 v xs.length (xs.map Value.string)
theorem StrSx.keep {w w':World} {v:Value} {xs:List ByteArray} (h:StrSx w v xs) (hk:Keeps w w'):StrSx w' v xs:=by
 refine⟨h.1,?_⟩;rcases h.2 with hn | ⟨g,cap,cur,rfl,hb0,hg,rest⟩
 ·exact .inl hn
 ·exact .inr ⟨g,cap,cur,rfl,hb0,hk.row g _ hg rfl,rest⟩
section
variable {w W:World} {bs:List (Nat×Array Value×TypeId)} {rs:List (World->Prop)}
theorem St.px (h:St w W bs rs) {s:Value} {xs:List ByteArray} (hz:StrSx W s xs):St w W bs (rs++ [fun V=>StrSx V s xs]):=h.push (fun _ _ k hz=>hz.keep k) hz
theorem St.x (h:St w W bs rs) (i:Nat) {s:Value} {xs:List ByteArray} (hx:rs[i]? =some (fun V=>StrSx V s xs)):StrSx W s xs:=(h.rd _ (List.mem_of_getElem? hx)).2
end
def flat (xs:List ByteArray):List UInt8:=(xs.map (·.data.toList)).flatten
def bcells (l:List UInt8):Array Value:=(l.map fun b=>Value.int .u8 (b.toNat:Int)).toArray
def padk (k R:Nat):List UInt8:=List.replicate (7 - k) 0++Dec.pad k R
theorem pad_mod:∀ (k R:Nat),Dec.pad k (R % 10 ^ k)=Dec.pad k R
 | 0,_=>rfl
 | k+1,R=>by
   have:=Dec.pad_add (k+1) 0 R;rw [Nat.zero_add]at this;simpa [Dec.pad] using this.symm
theorem pad_succ (k R:Nat):Dec.pad (k+1) R=Dec.dch (R / 10 ^ k)::Dec.pad k R:=by
 have:=Dec.pad_add k 1 R;rw [Nat.add_comm 1 k,pad_mod]at this;rw [this];rfl
theorem padk_set {k R:Nat} (h:k < 7):(bcells (padk k R)).setIfInBounds (6 - k) (.int .u8 ((R / 10 ^ k % 10+48:Nat):Int))=bcells (padk (k+1) R):=by
 unfold bcells padk;rw [List.setIfInBounds_toArray,pad_succ];congr 1;obtain ⟨j,hj⟩:∃j,7 - k=j+1:=⟨6 - k,by omega⟩
 rw [hj,show 6 - k=j by omega,show 7 - (k+1)=j by omega,List.replicate_succ'];simp only [List.map_append,List.map_replicate,List.map_cons,List.append_assoc,List.singleton_append];rw [List.set_append_right _ _ (by simp)];simp only [List.length_replicate,Nat.sub_self,List.set_cons_zero];rw [Dec.dch_toNat,Nat.add_comm]
theorem padk_len {k R:Nat} (h:k<=7):(padk k R).length=7:=by
 unfold padk;rw [List.length_append,List.length_replicate,Dec.pad_len];omega
theorem info_u8:(Tryz.prog.info? 5).map (fun i=>(i.zero,i.size,i.bytes))=some (some (.int .u8 0),1,1):=by kernel_rfl
theorem make7 (w:World):(Instr.makeSlice 238 (.int .i64 7) (.int .i64 7)).run Tryz.prog w= .ok (.slice (some ⟨w.heap.size,0,none⟩) 7 7) (w.alloc (.cells (bcells (padk 0 0)) 5)):=by
 obtain ⟨i0,hi,hz0,hz1,hz2⟩:=info_parts info_u8;have:=run_make (P:=Tryz.prog) w 238 5 i0 (.int .u8 0) Tryz.underlying238 hi hz0 .i64 .i64 7 7 (by omega) (by omega) (by rw [hz2];omega) (by omega);rw [this,hz1];have e:madeCells #[Value.int .u8 0] 7=bcells (padk 0 0):=Array.toList_inj.1 (by rw [toList_madeCells_one];rfl);rw [<-e];rfl
theorem addr_add0 (b j:Nat):(⟨b,0,none⟩:Addr).add j=⟨b,j,none⟩:=by simp [Addr.add];intro h;rw [h]
theorem St.conv {w W:World} {bs:List (Nat×Array Value×TypeId)} {rs:List (World->Prop)} (h:St w W bs rs) (i:Nat) {b:Nat} {l:List UInt8} (hx:bs[i]? =some (b,bcells l,5)) (h7:l.length=7):
  (convert 238 9 (.slice (some ⟨b,0,none⟩) 7 7)).run Tryz.prog W= .ok (.string ⟨l.toArray⟩) W:=by
 have:=Go.run_convert_bytes_back (P:=Tryz.prog) W 238 9 5 ⟨b,0,none⟩ 7 l Tryz.underlying238 Tryz.underlying5 Tryz.underlying9 (fun j hj=>by
  have:=h.cell i j (v:= .int .u8 (l[j].toNat:Int)) hx (by unfold bcells;rw [List.getElem?_toArray,List.getElem?_map,List.getElem?_eq_getElem hj];rfl);show W.cell? ((⟨b,0,none⟩:Addr).add j)=_;rw [addr_add0];exact this)
 rw [h7]at this;exact this
theorem j_bound {M j:Nat} (hl:(dg 16777216 M).length<=50000) (h:10 ^ (7*j)<=M):j<=60000:=by
 have h1:M < 2 ^ (24*(dg 16777216 M).length):=by
  have:=dg_len_lt (b:=16777216) (by omega) M;rw [show(16777216:Nat)=2 ^ 24 from rfl,<-Nat.pow_mul]at this;exact this
 have h2:2 ^ (21*j)<=10 ^ (7*j):=by
  rw [show 21*j=3*(7*j)by omega,Nat.pow_mul];exact Nat.pow_le_pow_left (by omega) _
 have h3:=Nat.lt_of_le_of_lt (Nat.le_trans h2 h) h1;have h4:=(Nat.pow_lt_pow_iff_right (by omega)).1 h3;omega
theorem len_div {M:Nat} (hl:(dg 16777216 M).length<=50000) (k:Nat):(dg 16777216 (M / k)).length<=1000000:=Nat.le_trans (Dig.dg_len_mono (by omega) (Nat.div_le_self _ _)) (by omega)
theorem len_step:(dg 16777216 10000000).length<=1000000:=Nat.le_trans (dg_len_le (k:=1) (by omega) (by omega)) (by omega)
theorem step_dg (w:World):Dg (w.alloc (.cells #[.int .i64 10000000] 2)) (.slice (some ⟨w.heap.size,0,none⟩) 1 1) 10000000:=by
 unfold Dg;rw [show dg 16777216 10000000= [10000000]by rw [dg_pos (by omega) (by omega),show 10000000 / 16777216=0 from rfl,dg_zero];rfl];exact Sl.one _ _ _
theorem sx_row {w:World} {pa:OA} {pn pc:Nat} {xs:List ByteArray} (h:StrSx w (.slice pa pn pc) xs) (h0:0 < xs.length):
  ∃g,pa=some ⟨g,0,none⟩/\g < w.heap.size/\∀ (j:Nat) x,xs[j]? =some x->w.cell? ⟨g,0+j,none⟩=some (.string x):=by
 rcases h.2 with ⟨h1,h2⟩ | ⟨g,cap,cur,h1,_,h3,_⟩
 ·omega
 ·simp only [Value.slice.injEq]at h1;obtain ⟨rfl,_,_⟩:=h1;refine⟨g,rfl,(Array.getElem?_eq_some_iff.1 h3).1,fun j x hx=>?_⟩;have:=World.ownsRow.cells h (g:=g) rfl j (.string x) (by rw [List.getElem?_map,hx];rfl);rw [addr_add0]at this;rw [Nat.zero_add];exact this
theorem sx_cap {w:World} {pa:OA} {pn pc:Nat} {xs:List ByteArray} (h:StrSx w (.slice pa pn pc) xs):xs.length<=pc/\pn=xs.length:=by
 rcases h.2 with ⟨h1,h2⟩ | ⟨g,cap,cur,h1,_,h3,h4,_⟩
 ·simp only [Value.slice.injEq]at h1;omega
 ·simp only [Value.slice.injEq]at h1;omega
theorem join_flat (xs:List ByteArray):Lib.join (xs.map (·.data.toList)) (⟨#[]⟩:ByteArray).data.toList=flat xs:=by
 unfold Lib.join flat;generalize xs.map (·.data.toList)=l;show List.intercalate [] l=l.flatten;rcases l with _ | ⟨a,l⟩
 ·rfl
 ·induction l generalizing a with
  | nil=>simp [List.intercalate]
  | cons b l ih=>
    have:=ih b;simp only [List.intercalate,List.intersperse_cons_cons,List.flatten_cons,List.nil_append]at this⊢;rw [this]
theorem M_next (M j:Nat):M / 10 ^ (7*j) / 10000000=M / 10 ^ (7*(j+1)):=by
 rw [Nat.div_div_eq_div_mul,show 7*(j+1)=7*j+7 by omega,Nat.pow_add]
theorem pad_next (M j:Nat):Dec.pad 7 (M / 10 ^ (7*j) % 10000000)++Dec.pad (7*j) M=Dec.pad (7*(j+1)) M:=by
 have:=Dec.pad_add (7*j) 7 M;rw [pad_mod,Nat.add_comm]at this;rw [show 7*(j+1)=7*j+7 by omega,this];congr 1;exact pad_mod 7 _
theorem text_end {M j:Nat} (h0:M / 10 ^ (7*j)=0):Lib.trimLeftB (Dec.pad (7*j) M) 48=if M=0 then []else Dec.dec M:=by
 have h:M < 10 ^ (7*j):=by
  rcases Nat.lt_or_ge M (10 ^ (7*j))with h | h
  ·exact h
  ·have:=Nat.div_pos h (Nat.pow_pos (by omega));omega
 exact Dec.drop0_pad h
theorem text_any (a:OA) (n c:Nat) (M:Nat) (w:World) (h1:Dg w (.slice a n c) M) (hl:(dg 16777216 M).length<=50000):
  Calls Tryz.prog 131 #[.agg #[.slice a n c]] w fun e w'=>e= .returned (.string ⟨(Dec.dec M).toArray⟩)/\Below w.heap.size w w':=by
 have hC:=ζ (((St.enter w).pd h1).al w.heap.size #[.slice a n c] 68 rfl rfl);have HL:=ζ hl;have mk:=make7;obtain ⟨i0,hi,hz0,hz1,hz2⟩:=info_parts info_str;have HI:=ζ hi;have AF:=ζ hz0;have AG:=ζ hz1;have AH:=ζ hz2;clear h1 hl hi hz0 hz1 hz2;go_enter Tryz.func131,Tryz.ntmps131;go_wp2;go_loopg [3] M (fun gk p wr=>∃ (a':OA) (n' c' j:Nat) (pa:OA) (pn pc:Nat) (xs:List ByteArray),M / 10 ^ (7*j)=gk/\j<=60001/\p= .slice pa pn pc/\Hid (flat xs=Dec.pad (7*j) M/\xs.length=j/\pn=j)/\
  Hid (St w wr [(w.heap.size,#[.slice a' n' c'],68)] [fun V=>Dg V (.slice a' n' c') (M / 10 ^ (7*j)),fun V=>StrSx V (.slice pa pn pc) xs]))
 case atStart=>exact⟨a,n,c,0,none,0,0,[],by simp,by omega,rfl,⟨rfl,rfl,rfl⟩,by rw [show M / 10 ^ (7*0)=M by simp];exact(hC.out.px (s:= .slice none 0 0) (xs:=[]) (World.ownsRow_nil _ 0 _ 1))⟩
 case round=>
  clear hC;obtain ⟨a',n',c',j,pa,pn,pc,xs,rfl,hj,rfl,hX,hC⟩:=hrel;have c0:=hC.out.c 0 0;have hn':=Sl.len (hC.out.d 0 rfl);have e0:(n'=0)↔M / 10 ^ (7*j)=0:=by rw [hn',List.length_eq_zero_iff,dg_nil_iff (b:=16777216) (by omega)]
  have HE:=ζ e0;clear hn' e0;go_wp2_with fail
  refine(none_any _ _ _ _).mono ?_;rintro e w1 ⟨rfl,hw1⟩;have AA:=ζ (hC.out.call (W':=w1) (by rw [hw1];exact(Below.refl _ _).alloc (Nat.le_refl _) _));clear hC hw1 c0;have c0:=AA.out.c 0 0;by_cases h0:M / 10 ^ (7*j)=0
  ·have hk:((n':Int)==0)=true:=(by simpa using HE.out.2 h0);have H0:=ζ h0;rw [hk];clear h0 hk c0;have HX:=ζ (AA.out.x 1 rfl);by_cases hj0:j=0
   ·subst hj0;obtain rfl:xs= []:=List.eq_nil_of_length_eq_zero hX.out.2.1;have hM:M=0:=(by simpa using H0.out);subst hM;obtain rfl:pn=0:=hX.out.2.2;go_wp2_with fail
    refine(Tryz.strings_Join_none _ _ _ _).mono ?_;rintro e w4 ⟨rfl,rfl⟩;go_wp2_with fail
    refine(Tryz.strings_TrimLeft_one ⟨#[]⟩ 48 (by decide) _).mono ?_;rintro e w5 ⟨rfl,rfl⟩;have e0:(⟨(Lib.trimLeftB (⟨#[]⟩:ByteArray).data.toList 48).toArray⟩:ByteArray)=⟨#[]⟩:=rfl;rw [e0];go_wp2;go_ret;exact⟨by rw [Dec.dec_lt (by omega)];rfl,AA.out.be⟩
   ·obtain ⟨g,rfl,hg,hcells⟩:=sx_row HX.out (by rw [hX.out.2.1];omega);obtain ⟨hcap,hpn⟩:=sx_cap HX.out;subst hpn;have AI:=ζ hcells;have HJ:=ζ (join_flat xs);have HT:=ζ (text_end H0.out);have AD:=ζ hcap;have AL:xs.length<=60001:=(by rw [hX.out.2.1];exact hj);clear hcells hcap hj0;go_wp2_with fail
    refine(Tryz.strings_Join g 0 pc xs ⟨#[]⟩ _ AI.out hg (by omega) AD.out (by rw [HJ.out,hX.out.1,Dec.pad_len];omega)).mono ?_;rintro e w4 ⟨rfl,hb⟩;have AC:=ζ (AA.out.call hb);clear AA hb;rw [HJ.out,hX.out.1];go_wp2_with fail
    refine(Tryz.strings_TrimLeft_one ⟨(Dec.pad (7*j) M).toArray⟩ 48 (by decide) _).mono ?_;rintro e w5 ⟨rfl,rfl⟩;rw [HT.out];by_cases hM:M=0
    ·subst hM;rw [if_pos rfl];go_wp2;go_ret;exact⟨by rw [Dec.dec_lt (by omega)];rfl,AC.out.be⟩
    ·rw [if_neg hM];have hne:(⟨(Dec.dec M).toArray⟩:ByteArray).toList.isEmpty=false:=by
      rw [Lib.toList_data];cases e:Dec.dec M with
      | nil=>exact absurd e (Dec.dec_ne_nil M)
      | cons=>rfl
     obtain ⟨T,hT⟩:∃T:ByteArray,T=⟨(Dec.dec M).toArray⟩:=⟨_,rfl⟩
     rw [<-hT]at hne⊢;have AJ:=ζ hT;clear hT;go_wp2;go_ret;exact⟨by rw [<-AJ.out];rfl,AC.out.be⟩
  ·have hk:((n':Int)==0)=false:=(by simpa using fun e=>h0 (HE.out.1 e));have hj2:j<=60000:=j_bound HL.out (by rcases Nat.lt_or_ge M (10 ^ (7*j))with h | h;exact absurd (Nat.div_eq_of_lt h) h0;exact h);have H0:=ζ h0;rw [hk];clear h0 hk;go_wp2_with fail
   refine(over_any _ _ _ _ _ _ (M / 10 ^ (7*j)) 10000000 _ (AA.out.row.d 0 rfl) (step_dg w1) (by omega) (len_div HL.out _) len_step).mono ?_;rintro e w2 ⟨b1,k1,l1,b2,k2,l2,rfl,hdq,hdr,hb⟩;obtain ⟨R,hR⟩:∃R:Nat,R=M / 10 ^ (7*j) % 10000000:=⟨_,rfl⟩
   rw [<-hR]at hdr;have HR:=ζ hR;have AK:R < 10000000:=(by rw [hR];exact Nat.mod_lt _ (by omega));clear hR;have AC:=ζ (((AA.out.row.call hb).pd hdq).pd hdr|>.al w2.heap.size #[.slice b1 k1 l1] 68 rfl rfl|>.al (w2.heap.size+1) #[.slice b2 k2 l2] 68 (by simp) rfl);clear AA hb hdq hdr c0;go_wp2_with fail
   refine(dword_any _ _ _ _ _ (AC.out.d 3 rfl) (by omega)).mono ?_;rintro e w3 ⟨rfl,hb⟩;have AE:=ζ ((AC.out.call hb).al w3.heap.size (bcells (padk 0 R)) 5 rfl rfl);clear AC hb;go_wp2;go_loopw [6,25] (fun nv iv wr=>∃k:Nat,k<=7/\iv= .int .i64 k/\nv= .int .u64 (R / 10 ^ k:Nat)/\
    Hid (St w wr [(w.heap.size,#[.slice a' n' c'],68),(w2.heap.size,#[.slice b1 k1 l1],68),(w2.heap.size+1,#[.slice b2 k2 l2],68),(w3.heap.size,bcells (padk k R),5)]
     [fun V=>Dg V (.slice a' n' c') (M / 10 ^ (7*j)),fun V=>StrSx V (.slice pa pn pc) xs,fun V=>Dg V (.slice b1 k1 l1) (M / 10 ^ (7*j) / 10000000)])) (fun _ i _=>7 - (intOf i).toNat)
   case atStart=>exact⟨0,by omega,rfl,by simp,(AE.out.pick [0,1,2] rfl)⟩
   case round=>
    clear AE;obtain ⟨k,hk,rfl,rfl,hC⟩:=hrel;by_cases hlt:k < 7
    ·have hq:R / 10 ^ k < 10000000:=Nat.lt_of_le_of_lt (Nat.div_le_self _ _) AK;obtain ⟨q,hq'⟩:∃q:Nat,q=R / 10 ^ k:=⟨_,rfl⟩
     rw [<-hq']at hq⊢;have HQ:=ζ hq';clear hq';have cc:=hC.out.cell 3 (6 - k) (v:= .int .u8 (((padk k R)[6 - k]'(by rw [padk_len hk];omega)).toNat:Int)) rfl (by unfold bcells;rw [List.getElem?_toArray,List.getElem?_map,List.getElem?_eq_getElem (by rw [padk_len hk];omega)];rfl);have ff:=hC.out.free 3 (6 - k) rfl;go_wp2;go_roundw
     case rel=>
      refine⟨k+1,by omega,by go_num,?_,?_⟩
      ·congr 1;rw [Nat.pow_succ,<-Nat.div_div_eq_div_mul,<-HQ.out];omega
      ·have e:(48+(q:Int) % 10)=((R / 10 ^ k % 10+48:Nat):Int):=(by rw [<-HQ.out];omega);rw [e,<-padk_set hlt];exact hC.out.set 3 rfl
     case measure=>simp [intOf];omega
    ·obtain rfl:k=7:=by omega
     clear hk hlt;have HX:=ζ (hC.out.x 1 rfl);have hxl:xs.length<=60000:=(by rw [hX.out.2.1];exact hj2);go_wp2_with fail
     go_region_held3 (fun w'=>w'.cell? ⟨w2.heap.size,0,none⟩=some (.slice b1 k1 l1)/\(convert 238 9 (.slice (some ⟨w3.heap.size,0,none⟩) 7 7)).run Tryz.prog w'= .ok (.string ⟨(padk 7 R).toArray⟩) w')
      (first
       | (with_reducible refine And.intro (?_:World.cell? (World.drew (World.alloc wr _)) _=_) ?_;exact hC.out.row.drew.c 1 0;exact hC.out.row.drew.conv 3 rfl (padk_len (by omega)))
       | (with_reducible refine And.intro (?_:World.cell? (World.setCell wz _ _) _=_) ?_;exact(AB.out.set 0 rfl).c 1 0;exact(AB.out.set 0 rfl).conv 3 rfl (padk_len (by omega)))
       | (with_reducible refine And.intro (?_:World.cell? wz _=_) ?_;exact AB.out.c 1 0;exact AB.out.conv 3 rfl (padk_len (by omega)))
       | (with_reducible refine And.intro (?_:World.cell? _ _=_) ?_;exact hC.out.drew.c 1 0;exact hC.out.drew.conv 3 rfl (padk_len (by omega))))
      (first
       | (refine step_append_row (by rfl) _ _ 237 (by rfl) 9 i0 (.string ⟨#[]⟩) 1 16 Tryz.underlying237 HI.out AF.out AG.out AH.out rfl (by decide) _ 1 [.string ⟨(padk 7 R).toArray⟩] (by rfl) (ownsRow_new wr.drew #[.string ⟨(padk 7 R).toArray⟩] 9 1 1 (by decide) rfl) _ xs.length (xs.map Value.string) (by rfl) (StrSx.keep HX.out ((Keeps.refl wr).drew.alloc _)) (by intro u hu;obtain ⟨y,_,rfl⟩:=List.mem_map.1 hu;rfl) (by omega) (by decide) ?_;intro pa2 pc2 wz hown2 hg2 hs2;have AB:=ζ (hC.out.call (((Below.refl wr.heap.size wr).alloc (Nat.le_refl _) _).drew.grown hg2 (by simp) (fun k hk=>by simp [Value.ownBlock]at hk;omega)));have HY:=ζ hown2;clear hown2 hg2 hs2;have c00:=AB.out.c 0 0;have f00:=AB.out.f 0 0))
     go_wp2;go_roundg (M / 10 ^ (7*(j+1)))
     case measure=>
      rw [<-M_next];have:=H0.out;exact Nat.div_lt_self (Nat.pos_of_ne_zero this) (by omega)
     case rel=>
      have hl:1+xs.length=((⟨(padk 7 R).toArray⟩:ByteArray)::xs).length:=(by rw [List.length_cons,Nat.add_comm]);refine⟨b1,k1,l1,j+1,pa2,1+xs.length,pc2,⟨(padk 7 R).toArray⟩::xs,rfl,by omega,rfl,⟨?_,by rw [List.length_cons,hX.out.2.1],by rw [hX.out.2.1,Nat.add_comm]⟩,?_⟩
      ·have e:padk 7 R=Dec.pad 7 R:=rfl;show padk 7 R++flat xs=_;rw [e,hX.out.1,HR.out,pad_next]
      ·rw [<-M_next];have hy:StrSx wz (.slice pa2 (1+xs.length) pc2) (⟨(padk 7 R).toArray⟩::xs):=by
        have:=HY.out;unfold StrSx;rw [<-hl];exact this
       have h1:=(AB.out.px hy).set (j:=0) (v:= .slice b1 k1 l1) 0 rfl;refine⟨h1.be,fun x hx=>?_,List.pairwise_singleton _ _,(h1.pick [2,3] rfl).rd⟩;rcases List.mem_singleton.1 hx with rfl;exact h1.at_ 0 rfl
end Go.Proofs.YtjpojeapdgjbhaaGreatDoor

/- part -/
import Derived.Test.YtjpojeapdgjbhaaGreatDoorJ7
import Derived.Test.YtjpojeapdgjbhaaGreatDoorJ8
set_option maxRecDepth 100000
set_option maxHeartbeats 16000000
namespace Go.Proofs.YtjpojeapdgjbhaaGreatDoor
open Go.RowKit
structure Sht where
 name:ByteArray
 base:Int
 batter:Int
 height:Int
 skin:Int
 ha:OA
 hn:Nat
 hc:Nat
 hs:List Int
 least:Int
 lap:Int
 run:Int
 every:Int
 at_:Int
 footing:Int
 spread:Int
 cope:Int
 tall:Int
 short:Int
 thick:Int
 low:Int
 high:Int
 rood:Int
structure Opn where
 kind:Int
 at_:Int
 wide:Int
 fro:Int
 high:Int
structure Wal where
 name:ByteArray
 sheet:ByteArray
 len:Int
 oa:OA
 on:Nat
 oc:Nat
 ops:List Opn
abbrev aS (s:Sht):Value:= .agg #[.string s.name,.int .i64 s.base,.int .i64 s.batter,.int .i64 s.height,.int .i64 s.skin,.slice s.ha s.hn s.hc,.int .i64 s.least,.int .i64 s.lap,.int .i64 s.run,.int .i64 s.every,.int .i64 s.at_,.int .i64 s.footing,.int .i64 s.spread,.int .u8 s.cope,.int .i64 s.tall,.int .i64 s.short,.int .i64 s.thick,.int .i64 s.low,.int .i64 s.high,.int .i64 s.rood]
abbrev aW (s:Wal):Value:= .agg #[.string s.name,.string s.sheet,.int .i64 s.len,.slice s.oa s.on s.oc]
abbrev aO (s:Opn):Value:= .agg #[.int .u8 s.kind,.int .i64 s.at_,.int .i64 s.wide,.int .i64 s.fro,.int .i64 s.high]
def cS (s:Sht):List Value:=[.string s.name,.int .i64 s.base,.int .i64 s.batter,.int .i64 s.height,.int .i64 s.skin,.slice s.ha s.hn s.hc,.int .i64 s.least,.int .i64 s.lap,.int .i64 s.run,.int .i64 s.every,.int .i64 s.at_,.int .i64 s.footing,.int .i64 s.spread,.int .u8 s.cope,.int .i64 s.tall,.int .i64 s.short,.int .i64 s.thick,.int .i64 s.low,.int .i64 s.high,.int .i64 s.rood]
def cWa (s:Wal):List Value:=[.string s.name,.string s.sheet,.int .i64 s.len,.slice s.oa s.on s.oc]
def cO (s:Opn):List Value:=[.int .u8 s.kind,.int .i64 s.at_,.int .i64 s.wide,.int .i64 s.fro,.int .i64 s.high]
def LS (l:List Sht):List Value:=l.flatMap cS
def LWa (l:List Wal):List Value:=l.flatMap cWa
def LO (l:List Opn):List Value:=l.flatMap cO
theorem LS_len (l:List Sht):(LS l).length=l.length*20:=flat_len (f:=cS) (fun _=>rfl) l
theorem LS_take (l:List Sht) (i:Nat):(LS l).take (i*20)=LS (l.take i):=flat_take (f:=cS) (k:=20) (fun _=>rfl) l i
theorem LWa_len (l:List Wal):(LWa l).length=l.length*4:=flat_len (f:=cWa) (fun _=>rfl) l
theorem LO_len (l:List Opn):(LO l).length=l.length*5:=flat_len (f:=cO) (fun _=>rfl) l
theorem LO_append (l r:List Opn):LO (l++r)=LO l++LO r:=List.flatMap_append
theorem LO_take (l:List Opn) (i:Nat):(LO l).take (i*5)=LO (l.take i):=flat_take (f:=cO) (k:=5) (fun _=>rfl) l i
theorem LO_snoc (l:List Opn) (k:Nat) (h:k < l.length):LO (l.take (k+1))=LO (l.take k)++cO l[k]:=by rw [List.take_succ_eq_append_getElem h,LO_append];simp [LO]
section
variable {W:World} {n c g o:Nat}
theorem Sx.atS {l:List Sht} (h:Sx 20 W (some ⟨g,o,none⟩) n c (LS l)) {i:Nat} (hi:i < l.length):W.cell? ⟨g,o+i*20,none⟩=some (.string l[i].name)/\W.cell? ⟨g,o+i*20+1,none⟩=some (.int .i64 l[i].base)/\W.cell? ⟨g,o+i*20+2,none⟩=some (.int .i64 l[i].batter)/\W.cell? ⟨g,o+i*20+3,none⟩=some (.int .i64 l[i].height)/\W.cell? ⟨g,o+i*20+4,none⟩=some (.int .i64 l[i].skin)/\W.cell? ⟨g,o+i*20+5,none⟩=some (.slice l[i].ha l[i].hn l[i].hc)/\W.cell? ⟨g,o+i*20+6,none⟩=some (.int .i64 l[i].least)/\W.cell? ⟨g,o+i*20+7,none⟩=some (.int .i64 l[i].lap)/\W.cell? ⟨g,o+i*20+8,none⟩=some (.int .i64 l[i].run)/\W.cell? ⟨g,o+i*20+9,none⟩=some (.int .i64 l[i].every)/\W.cell? ⟨g,o+i*20+10,none⟩=some (.int .i64 l[i].at_)/\W.cell? ⟨g,o+i*20+11,none⟩=some (.int .i64 l[i].footing)/\W.cell? ⟨g,o+i*20+12,none⟩=some (.int .i64 l[i].spread)/\W.cell? ⟨g,o+i*20+13,none⟩=some (.int .u8 l[i].cope)/\W.cell? ⟨g,o+i*20+14,none⟩=some (.int .i64 l[i].tall)/\W.cell? ⟨g,o+i*20+15,none⟩=some (.int .i64 l[i].short)/\W.cell? ⟨g,o+i*20+16,none⟩=some (.int .i64 l[i].thick)/\W.cell? ⟨g,o+i*20+17,none⟩=some (.int .i64 l[i].low)/\W.cell? ⟨g,o+i*20+18,none⟩=some (.int .i64 l[i].high)/\W.cell? ⟨g,o+i*20+19,none⟩=some (.int .i64 l[i].rood):=
 ⟨h.cell (flat_get (k:=20) (fun _=>rfl) l i 0 hi (by omega)),h.cell (flat_get (k:=20) (fun _=>rfl) l i 1 hi (by omega)),h.cell (flat_get (k:=20) (fun _=>rfl) l i 2 hi (by omega)),h.cell (flat_get (k:=20) (fun _=>rfl) l i 3 hi (by omega)),h.cell (flat_get (k:=20) (fun _=>rfl) l i 4 hi (by omega)),h.cell (flat_get (k:=20) (fun _=>rfl) l i 5 hi (by omega)),h.cell (flat_get (k:=20) (fun _=>rfl) l i 6 hi (by omega)),h.cell (flat_get (k:=20) (fun _=>rfl) l i 7 hi (by omega)),h.cell (flat_get (k:=20) (fun _=>rfl) l i 8 hi (by omega)),h.cell (flat_get (k:=20) (fun _=>rfl) l i 9 hi (by omega)),h.cell (flat_get (k:=20) (fun _=>rfl) l i 10 hi (by omega)),h.cell (flat_get (k:=20) (fun _=>rfl) l i 11 hi (by omega)),h.cell (flat_get (k:=20) (fun _=>rfl) l i 12 hi (by omega)),h.cell (flat_get (k:=20) (fun _=>rfl) l i 13 hi (by omega)),h.cell (flat_get (k:=20) (fun _=>rfl) l i 14 hi (by omega)),h.cell (flat_get (k:=20) (fun _=>rfl) l i 15 hi (by omega)),h.cell (flat_get (k:=20) (fun _=>rfl) l i 16 hi (by omega)),h.cell (flat_get (k:=20) (fun _=>rfl) l i 17 hi (by omega)),h.cell (flat_get (k:=20) (fun _=>rfl) l i 18 hi (by omega)),h.cell (flat_get (k:=20) (fun _=>rfl) l i 19 hi (by omega))⟩
theorem Sx.nS {a:OA} {l:List Sht} (h:Sx 20 W a n c (LS l)):n=l.length:=by have:=h.1;rw [LS_len]at this;omega
theorem Sx.atWa {l:List Wal} (h:Sx 4 W (some ⟨g,o,none⟩) n c (LWa l)) {i:Nat} (hi:i < l.length):W.cell? ⟨g,o+i*4,none⟩=some (.string l[i].name)/\W.cell? ⟨g,o+i*4+1,none⟩=some (.string l[i].sheet)/\W.cell? ⟨g,o+i*4+2,none⟩=some (.int .i64 l[i].len)/\W.cell? ⟨g,o+i*4+3,none⟩=some (.slice l[i].oa l[i].on l[i].oc):=
 ⟨h.cell (flat_get (k:=4) (fun _=>rfl) l i 0 hi (by omega)),h.cell (flat_get (k:=4) (fun _=>rfl) l i 1 hi (by omega)),h.cell (flat_get (k:=4) (fun _=>rfl) l i 2 hi (by omega)),h.cell (flat_get (k:=4) (fun _=>rfl) l i 3 hi (by omega))⟩
theorem Sx.nWa {a:OA} {l:List Wal} (h:Sx 4 W a n c (LWa l)):n=l.length:=by have:=h.1;rw [LWa_len]at this;omega
theorem Sx.atO {l:List Opn} (h:Sx 5 W (some ⟨g,o,none⟩) n c (LO l)) {i:Nat} (hi:i < l.length):W.cell? ⟨g,o+i*5,none⟩=some (.int .u8 l[i].kind)/\W.cell? ⟨g,o+i*5+1,none⟩=some (.int .i64 l[i].at_)/\W.cell? ⟨g,o+i*5+2,none⟩=some (.int .i64 l[i].wide)/\W.cell? ⟨g,o+i*5+3,none⟩=some (.int .i64 l[i].fro)/\W.cell? ⟨g,o+i*5+4,none⟩=some (.int .i64 l[i].high):=
 ⟨h.cell (flat_get (k:=5) (fun _=>rfl) l i 0 hi (by omega)),h.cell (flat_get (k:=5) (fun _=>rfl) l i 1 hi (by omega)),h.cell (flat_get (k:=5) (fun _=>rfl) l i 2 hi (by omega)),h.cell (flat_get (k:=5) (fun _=>rfl) l i 3 hi (by omega)),h.cell (flat_get (k:=5) (fun _=>rfl) l i 4 hi (by omega))⟩
theorem Sx.nO {a:OA} {l:List Opn} (h:Sx 5 W a n c (LO l)):n=l.length:=by have:=h.1;rw [LO_len]at this;omega
end
def idxB {α:Type} (p:α->Bool) (l:List α):Int:=match l.findIdx? p with
 | some i=>i
 | none=> -1
theorem idxB_some {α:Type} {p:α->Bool} {l:List α} {k:Nat} (hk:k < l.length) (hp:p l[k]=true) (hn:∀i (h:i < l.length),i < k->p l[i]=false):idxB p l=k:=by
 unfold idxB;rw [List.findIdx?_eq_some_iff_getElem.2 ⟨hk,hp,fun j hj=>by rw [hn j (by omega) hj];simp⟩]
theorem idxB_none {α:Type} {p:α->Bool} {l:List α} (hn:∀i (h:i < l.length),p l[i]=false):idxB p l= -1:=by
 unfold idxB;rw [List.findIdx?_eq_none_iff.2 (fun x hx=>by obtain ⟨i,hi,rfl⟩:=List.getElem_of_mem hx;exact hn i hi)]
theorem idxB_cases {α:Type} (p:α->Bool) (l:List α):(idxB p l= -1/\∀i (h:i < l.length),p l[i]=false)\/∃k,∃h:k < l.length,idxB p l=k/\p l[k]=true/\∀i (h:i < l.length),i < k->p l[i]=false:=by
 cases h:l.findIdx? p with
 | none=>
   refine .inl ⟨by unfold idxB;rw [h],fun i hi=>?_⟩;exact List.findIdx?_eq_none_iff.1 h _ (List.getElem_mem hi)
 | some k=>
   obtain ⟨h1,h2,h3⟩:=List.findIdx?_eq_some_iff_getElem.1 h;refine .inr ⟨k,h1,by unfold idxB;rw [h],h2,fun i hi hik=>?_⟩;have:=h3 i hik;simpa using this
theorem info_Sheet:(Tryz.prog.info? 39).map (·.size)=some 20:=by kernel_rfl
theorem mP2_0 {P_:Prop} (h:P_:=by
 clear HF HS
 as_aux_lemma=>
 rw [hp]at hx;have HP:=ζ hp;have HX:=ζ hx;clear hp hx;go_wp2_with fail
 refine HX.out.mono ?_;rintro e w1 ⟨rfl,hb⟩;have hB:=ζ (hI.out.2.trans (hb.mono hI.out.2.size));clear hb;go_wp2;go_roundw
 case rel=>exact⟨k+1,by omega,by go_num,ζ ⟨fun i h hik=>by
  rcases Nat.lt_or_ge i k with h1 | h1
  ·exact hI.out.1 i h h1
  ·exact(AA.out i h (by omega)).trans HP.out,hB.out⟩⟩
 case measure=>simp [intOf];omega):P_:=h
theorem mP2_1 {P_:Prop} (h:P_:=by
 refine HX.out.mono ?_;rintro e w1 ⟨rfl,hb⟩;have hB:=ζ (hI.out.2.trans (hb.mono hI.out.2.size));clear hb;go_wp2;go_ret;exact⟨ret_int HP.out.symm,hB.out⟩):P_:=h
theorem mP2_2 {P_:Prop} (h:P_:=by
 have HP:=ζ (idxB_none (fun i h=>hI.out.1 i h (by omega)));go_wp2;go_ret;exact⟨ret_int HP.out.symm,hI.out.2⟩):P_:=h
theorem indexFunc_Sheet (a:OA) (n c:Nat) (l:List Sht) (g:Nat) (cb:Array Value) (p:Sht->Bool) (w:World) (hs:Sx 20 w a n c (LS l)) (eg:EG g) (hf:Asks g cb w aS l Value.bool p):
  Calls Tryz.prog 135 #[.slice a n c,.func (.func g) #[] cb] w (Gives (.int .i64 (idxB p l)) w):=by
 have hn:=hs.nS;have hm:l.length<=9223372036854775807:=by have:=hs.cap;unfold maxLen at this;omega
 have HS:=ζ hs;have HF:=ζ hf;obtain rfl:l.length=n:=hn.symm;clear hs hf hn;go_enter Tryz.func135,Tryz.ntmps135;go_wp2;go_loopw [5,8] (fun _ iv wr=>∃k:Nat,k<=l.length/\iv= .int .i64 k/\Hid ((∀i (h:i < l.length),i < k->p l[i]=false)/\Below w.heap.size w wr)) (fun _ iv _=>l.length - (intOf iv).toNat)
 case atStart=>exact⟨0,Nat.zero_le _,rfl,ζ ⟨fun i _ h=>absurd h (Nat.not_lt_zero i),Below.refl _ _⟩⟩
 case round=>
  obtain ⟨k,hk,rfl,hI⟩:=hrel;by_cases hlt:k < l.length
  ·have hx:=HF.out wr hI.out.2 l[k] (List.getElem_mem hlt);obtain ⟨g0,o0,rfl⟩:=HS.out.addr (by omega);have HR:=ζ ((HS.out.below hI.out.2).range (f:=cS) (fun _=>rfl) hlt);have AA:=ζ (show ∀i (h:i < l.length),i=k->p l[i]=p l[k]from fun i h e=>by subst e;rfl);have HM:=ζ (show p l[k]=true->idxB p l=k from fun h=>idxB_some hlt h hI.out.1);generalize l[k]=x at*;obtain ⟨V,hV⟩:∃V,Value.agg (cS x).toArray=V:=⟨_,rfl⟩
   rw [show aS x=V from hV]at hx;have HV:=ζ hV;clear hV;generalize hp:p x=px at*;cases px
   ·have HP:=ζ hp;have HX:=ζ hx;clear hp hx HF HS;go_wp2_with (refine wpList_ld (o:=⟨some 15,_,_,_,_,_⟩) rfl _ _ rfl _ _ rfl (cS x) _ HR.out Tryz.underlying39 rfl info_Sheet V HV.out ?_)
    refine HX.out.mono ?_;rintro e w1 ⟨rfl,hb⟩;have hB:=ζ (hI.out.2.trans (hb.mono hI.out.2.size));clear hb;go_wp2;go_roundw
    case rel=>exact⟨k+1,by omega,by go_num,ζ ⟨fun i h hik=>by
     rcases Nat.lt_or_ge i k with h1 | h1
     ·exact hI.out.1 i h h1
     ·exact AA.out i h (by omega),hB.out⟩⟩
    case measure=>simp [intOf];omega
   ·have HP:=ζ (HM.out rfl);have HX:=ζ hx;clear hp hx HF HS HM AA;go_wp2_with (refine wpList_ld (o:=⟨some 15,_,_,_,_,_⟩) rfl _ _ rfl _ _ rfl (cS x) _ HR.out Tryz.underlying39 rfl info_Sheet V HV.out ?_)
    exact mP2_1
  ·exact mP2_2
theorem indexFunc_Wall (a:OA) (n c:Nat) (l:List Wal) (g:Nat) (cb:Array Value) (p:Wal->Bool) (w:World) (hs:Sx 4 w a n c (LWa l)) (eg:EG g) (hf:Asks g cb w aW l Value.bool p):
  Calls Tryz.prog 133 #[.slice a n c,.func (.func g) #[] cb] w (Gives (.int .i64 (idxB p l)) w):=by
 have hn:=hs.nWa;have hm:l.length<=9223372036854775807:=by have:=hs.cap;unfold maxLen at this;omega
 have HS:=ζ hs;have HF:=ζ hf;obtain rfl:l.length=n:=hn.symm;clear hs hf hn;go_enter Tryz.func133,Tryz.ntmps133;go_wp2;go_loopw [5,8] (fun _ iv wr=>∃k:Nat,k<=l.length/\iv= .int .i64 k/\Hid ((∀i (h:i < l.length),i < k->p l[i]=false)/\Below w.heap.size w wr)) (fun _ iv _=>l.length - (intOf iv).toNat)
 case atStart=>exact⟨0,Nat.zero_le _,rfl,ζ ⟨fun i _ h=>absurd h (Nat.not_lt_zero i),Below.refl _ _⟩⟩
 case round=>
  obtain ⟨k,hk,rfl,hI⟩:=hrel;by_cases hlt:k < l.length
  ·have hx:=HF.out wr hI.out.2 l[k] (List.getElem_mem hlt);obtain ⟨g0,o0,rfl⟩:=HS.out.addr (by omega);obtain ⟨x0,x1,x2,x3⟩:=(HS.out.below hI.out.2).atWa hlt;have AA:=ζ (show ∀i (h:i < l.length),i=k->p l[i]=p l[k]from fun i h e=>by subst e;rfl);have HM:=ζ (show p l[k]=true->idxB p l=k from fun h=>idxB_some hlt h hI.out.1);generalize l[k]=x at*;obtain ⟨q0,q1,q2,qa,qn,qc,qh⟩:=x;cases hp:p ⟨q0,q1,q2,qa,qn,qc,qh⟩
   ·exact mP2_0
   ·clear HF HS AA
    as_aux_lemma=>
    rw [hp]at hx;have HP:=ζ (HM.out hp);have HX:=ζ hx;clear hp hx HM;go_wp2_with fail
    exact mP2_1
  ·exact mP2_2
theorem indexFunc_Opening (a:OA) (n c:Nat) (l:List Opn) (g:Nat) (v:Value) (p:Opn->Bool) (w:World) (hs:Sx 5 w a n c (LO l)) (eg:EG g) (hf:∀W,Below w.heap.size w W->∀x∈l,Calls Tryz.prog g #[v,aO x] W (Gives (.bool (p x)) W)):
  Calls Tryz.prog 204 #[.slice a n c,.func (.func g) #[v] #[]] w (Gives (.int .i64 (idxB p l)) w):=by
 have hn:=hs.nO;have hm:l.length<=9223372036854775807:=by have:=hs.cap;unfold maxLen at this;omega
 have HS:=ζ hs;have HF:=ζ hf;obtain rfl:l.length=n:=hn.symm;clear hs hf hn;go_enter Tryz.func204,Tryz.ntmps204;go_wp2;go_loopw [5,8] (fun _ iv wr=>∃k:Nat,k<=l.length/\iv= .int .i64 k/\Hid ((∀i (h:i < l.length),i < k->p l[i]=false)/\Below w.heap.size w wr)) (fun _ iv _=>l.length - (intOf iv).toNat)
 case atStart=>exact⟨0,Nat.zero_le _,rfl,ζ ⟨fun i _ h=>absurd h (Nat.not_lt_zero i),Below.refl _ _⟩⟩
 case round=>
  obtain ⟨k,hk,rfl,hI⟩:=hrel;by_cases hlt:k < l.length
  ·have hx:=HF.out wr hI.out.2 l[k] (List.getElem_mem hlt);obtain ⟨g0,o0,rfl⟩:=HS.out.addr (by omega);obtain ⟨x0,x1,x2,x3,x4⟩:=(HS.out.below hI.out.2).atO hlt;have AA:=ζ (show ∀i (h:i < l.length),i=k->p l[i]=p l[k]from fun i h e=>by subst e;rfl);have HM:=ζ (show p l[k]=true->idxB p l=k from fun h=>idxB_some hlt h hI.out.1);generalize l[k]=x at*;obtain ⟨q0,q1,q2,q3,q4⟩:=x;cases hp:p ⟨q0,q1,q2,q3,q4⟩
   ·exact mP2_0
   ·clear HF HS AA
    as_aux_lemma=>
    rw [hp]at hx;have HP:=ζ (HM.out hp);have HX:=ζ hx;clear hp hx HM;go_wp2_with fail
    exact mP2_1
  ·exact mP2_2
theorem any_idx {α:Type} (p:α->Bool) (l:List α):l.any p=decide (0<=idxB p l):=by
 rcases idxB_cases p l with ⟨h1,h2⟩ | ⟨k,hk,h1,h2,_⟩
 ·rw [h1,show l.any p=false from List.any_eq_false.2 fun x hx=>by obtain ⟨i,hi,rfl⟩:=List.getElem_of_mem hx;rw [h2 i hi];simp];rfl
 ·rw [h1,List.any_eq_true.2 ⟨_,List.getElem_mem hk,h2⟩,decide_eq_true (by omega)]
theorem containsFunc_Opening (a:OA) (n c:Nat) (l:List Opn) (g:Nat) (v:Value) (p:Opn->Bool) (w:World) (hs:Sx 5 w a n c (LO l)) (eg:EG g) (hf:∀W,Below w.heap.size w W->∀x∈l,Calls Tryz.prog g #[v,aO x] W (Gives (.bool (p x)) W)):
  Calls Tryz.prog 168 #[.slice a n c,.func (.func g) #[v] #[]] w (Gives (.bool (l.any p)) w):=by
 have HX:=ζ (indexFunc_Opening a n c l g v p w hs eg hf);rw [any_idx];clear hs hf eg;generalize idxB p l=r at*;by_cases hr:0<=r;all_goals
  go_enter Tryz.func168,Tryz.ntmps168;go_wp2_with fail
  refine HX.out.mono ?_;rintro e w1 ⟨rfl,hb⟩;have hB:=ζ hb;clear hb HX
 ·go_wp2;go_ret;exact⟨ret_bool (by simp [hr]),hB.out⟩
 ·go_wp2;go_ret;exact⟨ret_bool (by simp),hB.out⟩
def widthI (s:Sht) (z:Int):Int:=s.base - 2*Int.tdiv (s.batter*z) 1000
def copedB (s:Sht):Bool:=
 if s.cope=0 then decide (s.tall=0) && decide (s.short=0) && decide (s.thick=0)
 else if s.cope=1\/s.cope=2 then [(s.tall,1,1000),(s.short,0,0),(s.thick,1,1000)].all limB
 else if s.cope=3 then [(s.tall,1,1000),(s.short,1,1000),(s.thick,1,1000)].all limB
 else false
def hAt (hs:List Int) (i:Nat):Int:=hs.getD (min i (hs.length - 1)) 0
def courseRun (hs:List Int) (H:Int):Nat->Nat->Int->List I2×Int
 | 0,_,z=>([],z)
 | f+1,i,z=>if H < z+hAt hs i then([],z)else((z,z+hAt hs i)::(courseRun hs H f (i+1) (z+hAt hs i)).1,(courseRun hs H f (i+1) (z+hAt hs i)).2)
theorem courseRun_succ (hs:List Int) (H:Int) (f i:Nat) (z:Int):courseRun hs H (f+1) i z=if H < z+hAt hs i then([],z)else((z,z+hAt hs i)::(courseRun hs H f (i+1) (z+hAt hs i)).1,(courseRun hs H f (i+1) (z+hAt hs i)).2):=rfl
def coursesL (hs:List Int) (H least:Int):List I2:=
 let r:=courseRun hs H 3001 0 0
 if r.2=H then r.1 else if least<=H - r.2\/r.1= []then r.1++ [(r.2,H)]else r.1.dropLast++ [((r.1.getLastD (0,0)).1,H)]
def Laying (hs:List Int) (H:Int) (out:List I2) (k:Nat) (z:Int):Prop:=out.length=k/\(k:Int)<=z/\z<=H/\courseRun hs H 3001 0 0=(out++(courseRun hs H (3001 - k) k z).1,(courseRun hs H (3001 - k) k z).2)
theorem laying_start (hs:List Int) {H:Int} (h:0<=H):Laying hs H [] 0 0:=⟨rfl,by omega,h,by simp⟩
theorem laying_step {hs:List Int} {H:Int} {out:List I2} {k:Nat} {z:Int} (h:Laying hs H out k z) (hH:H<=3000) (h1:1<=hAt hs k) (ht:¬ H < z+hAt hs k):Laying hs H (out++ [(z,z+hAt hs k)]) (k+1) (z+hAt hs k):=by
 obtain ⟨e,a,b,c⟩:=h;refine⟨by simp [e],by omega,by omega,?_⟩;rw [c,show 3001 - k=(3001 - (k+1))+1 by omega,courseRun_succ,if_neg ht];simp
theorem laying_end {hs:List Int} {H:Int} {out:List I2} {k:Nat} {z:Int} (h:Laying hs H out k z) (hH:H<=3000) (ht:H < z+hAt hs k):courseRun hs H 3001 0 0=(out,z):=by
 obtain ⟨e,a,b,c⟩:=h;rw [c,show 3001 - k=(3001 - (k+1))+1 by omega,courseRun_succ,if_pos ht];simp
theorem courses_done {hs:List Int} {H least:Int} {out:List I2} {z:Int} (h:courseRun hs H 3001 0 0=(out,z)):
  coursesL hs H least=if z=H then out else if least<=H - z\/out= []then out++ [(z,H)]else out.dropLast++ [((out.getLastD (0,0)).1,H)]:=by
 unfold coursesL;rw [h]
theorem hAt_in {hs:List Int} {k:Nat} (h:0 < hs.length):∃j,∃hj:j < hs.length,j=min k (hs.length - 1)/\hAt hs k=hs[j]:=by
 refine⟨min k (hs.length - 1),by omega,rfl,?_⟩;unfold hAt;rw [List.getD_eq_getElem?_getD,List.getElem?_eq_getElem (by omega)];rfl
theorem width_bd {s:Sht} {z:Int} (hb:0<=s.batter/\s.batter<=500) (hz:0<=z/\z<=3000):0<=s.batter*z/\s.batter*z<=1500000/\0<=(s.batter*z).tdiv 1000/\(s.batter*z).tdiv 1000<=1500:=by
 have h0:0<=s.batter*z:=Int.mul_nonneg hb.1 hz.1;have h1:s.batter*z<=500*3000:=Int.mul_le_mul hb.2 hz.2 hz.1 (by omega);have h2:(s.batter*z).tdiv 1000=(s.batter*z) / 1000:=Int.tdiv_eq_ediv_of_nonneg h0;omega
def shtNums (s:Sht):List I3:=[(s.base,1,3000),(s.batter,0,500),(s.height,1,3000),(s.skin,1,1500),((s.hn:Int),1,12),(s.least,1,1000),(s.lap,0,500),(s.run,1,20),(s.footing,0,1000),(s.spread,0,1000),(s.low,0,s.high),(s.high,0,2000),(s.rood,1,100000)]
def throughB (s:Sht):Bool:=(s.every==0 && s.at_==0) || [(s.every,1,100000),(s.at_,0,3000)].all limB
def numsB (s:Sht):Bool:=(shtNums s).all limB
def heightsB (s:Sht):Bool:=s.hs.all (fun h=>inB h 1 1000)
def sheetB (s:Sht):Bool:=namedB s.name && throughB s && numsB s && heightsB s && copedB s && decide (1<=widthI s s.height) && decide ((coursesL s.hs s.height s.least).length<=100)
theorem sheetB_no {s:Sht} (h:namedB s.name=false\/throughB s=false\/numsB s=false\/heightsB s=false\/copedB s=false\/¬ 1<=widthI s s.height\/¬ (coursesL s.hs s.height s.least).length<=100):sheetB s=false:=by
 unfold sheetB;rcases h with h | h | h | h | h | h | h;all_goals simp [h]
theorem sheetB_yes {s:Sht} (h1:namedB s.name=true) (h2:throughB s=true) (h3:numsB s=true) (h4:heightsB s=true) (h5:copedB s=true) (h6:1<=widthI s s.height) (h7:(coursesL s.hs s.height s.least).length<=100):sheetB s=true:=by
 unfold sheetB;simp [h1,h2,h3,h4,h5,h6,h7]
theorem lim_iff {x:I3} :limB x=true↔x.2.1<=x.1/\x.1<=x.2.2:=inB_iff
theorem nums_get {s:Sht} (h:numsB s=true):(1<=s.base/\s.base<=3000)/\(0<=s.batter/\s.batter<=500)/\(1<=s.height/\s.height<=3000)/\(1<=(s.hn:Int)/\(s.hn:Int)<=12)/\(1<=s.least/\s.least<=1000):=by
 unfold numsB at h;rw [List.all_eq_true]at h;exact⟨lim_iff.1 (h _ (by simp [shtNums]:(s.base,1,3000)∈shtNums s)),lim_iff.1 (h _ (by simp [shtNums]:(s.batter,0,500)∈shtNums s)),lim_iff.1 (h _ (by simp [shtNums]:(s.height,1,3000)∈shtNums s)),
  lim_iff.1 (h _ (by simp [shtNums]:((s.hn:Int),1,12)∈shtNums s)),lim_iff.1 (h _ (by simp [shtNums]:(s.least,1,1000)∈shtNums s))⟩
theorem all_no {l:List I3} {x:I3} (hx:x∈l) (h:limB x=false):l.all limB=false:=by
 cases e:l.all limB
 ·rfl
 ·rw [List.all_eq_true.1 e x hx]at h;cases h
theorem heights_get {s:Sht} (h:heightsB s=true):∀x∈s.hs,1<=x/\x<=1000:=fun x hx=>inB_iff.1 (List.all_eq_true.1 h x hx)
def openNums (o:Opn) (len H:Int):List I3:=[(o.kind,1,4),(len,1,100000),(o.wide,1,len),(o.at_,0,len - o.wide),(o.high,1,H),(o.fro,0,H - o.high)]
def fitsB (o:Opn) (len H:Int):Bool:=(openNums o len H).all limB && (!(o.kind==3) || (o.fro+o.high==H)) && (!(o.kind==4) || ((o.fro+o.high==H) && (o.fro==0)))
def meetsO (o p:Opn):Bool:=decide (o.at_ < p.at_+p.wide) && decide (p.at_ < o.at_+o.wide) && decide (o.fro < p.fro+p.high) && decide (p.fro < o.fro+o.high)
def opensB (l:List Opn) (len H:Int):Bool:=(List.range l.length).all fun i=>match l[i]? with
 | some o=>fitsB o len H && !((l.take i).any (meetsO o))
 | none=>true
def wallB (x:Wal) (s:Sht):Bool:=namedB x.name && [(x.len,1,100000),((x.on:Int),0,20)].all limB && opensB x.ops x.len s.height
section
variable (w:World)
theorem pwidth_any (s:Sht) (z:Int) (hb:0<=s.batter/\s.batter<=500) (hz:0<=z/\z<=3000) (hB:0<=s.base/\s.base<=3000):
  Calls Tryz.prog 88 #[aS s,.int .i64 z] w (Gives (.int .i64 (widthI s z)) w):=by
 obtain ⟨p0,p1,p2,p3⟩:=width_bd hb hz;have HE:=ζ (show widthI s z=s.base - 2*(s.batter*z).tdiv 1000 from rfl);obtain ⟨V,hV⟩:∃V,aS s=V:=⟨_,rfl⟩
 have HV:=ζ (show V.cells=(cS s).toArray by rw [<-hV];rfl);rw [hV];clear hV;go_enter Tryz.func88,Tryz.ntmps88;go_wp2_with (refine wpList_bx (o:=⟨some 2,_,_,_,_,_⟩) rfl (Sy.enter w) _ _ rfl (cS s).toArray HV.out ?_;intro b V2 h2;have hC:=ζ h2;clear h2;have x1:V2.cell? ⟨b,1,none⟩=some (.int .i64 s.base):=hC.out.c 0 1;have x2:V2.cell? ⟨b,2,none⟩=some (.int .i64 s.batter):=hC.out.c 0 2)
 go_ret;exact⟨ret_int HE.out.symm,hC.out.be⟩
theorem mP4_0 {P_:Prop} (h:P_:=by
 go_enter Tryz.func87,Tryz.ntmps87;go_wp2_with (refine wpList_bx (o:=⟨some 1,_,_,_,_,_⟩) rfl (Sy.enter w) _ _ rfl (cS s).toArray HV.out ?_;intro b V2 h2;have hC:=ζ h2;clear h2;have AA:V2.cell? ⟨b,13,none⟩=some (.int .u8 s.cope):=hC.out.c 0 13;have AB:V2.cell? ⟨b,14,none⟩=some (.int .i64 s.tall):=hC.out.c 0 14;have AC:V2.cell? ⟨b,15,none⟩=some (.int .i64 s.short):=hC.out.c 0 15;have AD:V2.cell? ⟨b,16,none⟩=some (.int .i64 s.thick):=hC.out.c 0 16)
 refine(kept_any _ _ _ _ [(s.tall,1,1000),(s.short,0,0),(s.thick,1,1000)] ((hC.out.onew V2.heap.size #[.int .i64 s.tall,.int .i64 1,.int .i64 1000,.int .i64 s.short,.int .i64 0,.int .i64 0,.int .i64 s.thick,.int .i64 1,.int .i64 1000] 170 3 3 rfl (by omega) rfl).osx 0 rfl)).mono ?_;rintro e w1 ⟨rfl,hb⟩;have hD:=ζ ((hC.out.row).call hb);clear hb;go_wp2;go_ret;exact⟨ret_bool (by rw [HE.out];simp),hD.out.be⟩):P_:=h
theorem pcoped_any (s:Sht):Calls Tryz.prog 87 #[aS s] w (Gives (.bool (copedB s)) w):=by
 obtain ⟨V,hV⟩:∃V,aS s=V:=⟨_,rfl⟩
 have HV:=ζ (show V.cells=(cS s).toArray by rw [<-hV];rfl);rw [hV];clear hV;by_cases h0:s.cope=0
 ·have HE:=ζ (show copedB s=(decide (s.tall=0) && decide (s.short=0) && decide (s.thick=0))by unfold copedB;rw [if_pos h0]);have b0:(s.cope==0)=true:=beq_iff_eq.2 h0;clear h0;by_cases h1:s.tall=0<;>by_cases h2:s.short=0<;>by_cases h3:s.thick=0
  all_goals
   have HF:=ζ HE.out;clear HE;go_enter Tryz.func87,Tryz.ntmps87;go_wp2_with (refine wpList_bx (o:=⟨some 1,_,_,_,_,_⟩) rfl (Sy.enter w) _ _ rfl (cS s).toArray HV.out ?_;intro b V2 h2;have hC:=ζ h2;clear h2;have AA:V2.cell? ⟨b,13,none⟩=some (.int .u8 s.cope):=hC.out.c 0 13;have AB:V2.cell? ⟨b,14,none⟩=some (.int .i64 s.tall):=hC.out.c 0 14;have AC:V2.cell? ⟨b,15,none⟩=some (.int .i64 s.short):=hC.out.c 0 15;have AD:V2.cell? ⟨b,16,none⟩=some (.int .i64 s.thick):=hC.out.c 0 16)
   go_ret;exact⟨ret_bool (by rw [HF.out];simp [h1,h2,h3]),hC.out.be⟩
 by_cases h1:s.cope=1
 ·have HE:=ζ (show copedB s= [(s.tall,1,1000),(s.short,0,0),(s.thick,1,1000)].all limB by unfold copedB;rw [if_neg h0,if_pos (by omega)]);have b0:(s.cope==0)=false:=beq_eq_false_iff_ne.2 (by omega);have b1:(s.cope==1)=true:=beq_iff_eq.2 h1;clear h0 h1;exact mP4_0
 by_cases h2:s.cope=2
 ·have HE:=ζ (show copedB s= [(s.tall,1,1000),(s.short,0,0),(s.thick,1,1000)].all limB by unfold copedB;rw [if_neg h0,if_pos (by omega)]);have b0:(s.cope==0)=false:=beq_eq_false_iff_ne.2 (by omega);have b1:(s.cope==1)=false:=beq_eq_false_iff_ne.2 (by omega);have b2:(s.cope==2)=true:=beq_iff_eq.2 h2;clear h0 h1 h2;exact mP4_0
 by_cases h3:s.cope=3
 ·have HE:=ζ (show copedB s= [(s.tall,1,1000),(s.short,1,1000),(s.thick,1,1000)].all limB by unfold copedB;rw [if_neg h0,if_neg (by omega),if_pos h3]);have b0:(s.cope==0)=false:=beq_eq_false_iff_ne.2 (by omega);have b1:(s.cope==1)=false:=beq_eq_false_iff_ne.2 (by omega);have b2:(s.cope==2)=false:=beq_eq_false_iff_ne.2 (by omega);have b3:(s.cope==3)=true:=beq_iff_eq.2 h3;clear h0 h1 h2 h3;go_enter Tryz.func87,Tryz.ntmps87;go_wp2_with (refine wpList_bx (o:=⟨some 1,_,_,_,_,_⟩) rfl (Sy.enter w) _ _ rfl (cS s).toArray HV.out ?_;intro b V2 h2;have hC:=ζ h2;clear h2;have AA:V2.cell? ⟨b,13,none⟩=some (.int .u8 s.cope):=hC.out.c 0 13;have AB:V2.cell? ⟨b,14,none⟩=some (.int .i64 s.tall):=hC.out.c 0 14;have AC:V2.cell? ⟨b,15,none⟩=some (.int .i64 s.short):=hC.out.c 0 15;have AD:V2.cell? ⟨b,16,none⟩=some (.int .i64 s.thick):=hC.out.c 0 16)
  refine(kept_any _ _ _ _ [(s.tall,1,1000),(s.short,1,1000),(s.thick,1,1000)] ((hC.out.onew V2.heap.size #[.int .i64 s.tall,.int .i64 1,.int .i64 1000,.int .i64 s.short,.int .i64 1,.int .i64 1000,.int .i64 s.thick,.int .i64 1,.int .i64 1000] 170 3 3 rfl (by omega) rfl).osx 0 rfl)).mono ?_;rintro e w1 ⟨rfl,hb⟩;have hD:=ζ ((hC.out.row).call hb);clear hb;go_wp2;go_ret;exact⟨ret_bool (by rw [HE.out];simp),hD.out.be⟩
 ·have HE:=ζ (show copedB s=false by unfold copedB;rw [if_neg h0,if_neg (by omega),if_neg h3]);have b0:(s.cope==0)=false:=beq_eq_false_iff_ne.2 h0;have b1:(s.cope==1)=false:=beq_eq_false_iff_ne.2 h1;have b2:(s.cope==2)=false:=beq_eq_false_iff_ne.2 h2;have b3:(s.cope==3)=false:=beq_eq_false_iff_ne.2 h3;clear h0 h1 h2 h3;go_enter Tryz.func87,Tryz.ntmps87;go_wp2_with (refine wpList_bx (o:=⟨some 1,_,_,_,_,_⟩) rfl (Sy.enter w) _ _ rfl (cS s).toArray HV.out ?_;intro b V2 h2;have hC:=ζ h2;clear h2;have AA:V2.cell? ⟨b,13,none⟩=some (.int .u8 s.cope):=hC.out.c 0 13)
  go_ret;exact⟨ret_bool HE.out.symm,hC.out.be⟩
end
def RetRow (w:World) (t:TypeId) (size n:Nat) (xs:List Value) (e:Ending) (w':World):Prop:=∃a c,e= .returned (.slice a n c)/\w'.ownsRow w.heap.size t size (.slice a n c) n xs/\Below w.heap.size w w'
section
variable (w:World)
theorem und_Course:Tryz.prog.underlying 43=some (.slice 56):=Tryz.underlying43
theorem info_Course:(Tryz.prog.info? 56).map (fun i=>(i.zero,i.size,i.bytes))=some (some (.agg #[.int .i64 0,.int .i64 0]),2,16):=by kernel_rfl
theorem L2_snoc1 (l:List I2) (a b:Int):L2 (l++ [(a,b)])=L2 l++ [.int .i64 a,.int .i64 b]:=by rw [L2_append];rfl
theorem mP4b_0 {P_:Prop} (h:P_:=by
 go_wp2_with (refine wpList_append_sy (o:=⟨some 68,_,_,_,_,_⟩) rfl (hC.out.onew wr.heap.size #[.int .i64 z,.int .i64 s.height] 56 2 1 rfl (by omega) rfl) 0 1 rfl rfl _ _ _ rfl und_Course info_Course rfl (by omega) rfl rfl (by intro u hu;simp at hu;rcases hu with rfl | rfl<;>rfl) (by omega) (by omega) ?_;intro a3 c3 V3 AC;have hJ:=ζ AC;clear AC)
 go_ret;refine⟨a3,c3,?_,?_,hJ.out.be⟩
 ·rw [AA.out,List.length_append,AB.out];rfl
 ·rw [AA.out,List.length_append,AB.out,L2_snoc1];exact hJ.out.gives 0 rfl):P_:=h
theorem pcourses_any (s:Sht) (hs:Sx 1 w s.ha s.hn s.hc (L1 s.hs)) (hn:0 < s.hn) (hh:∀h∈s.hs,1<=h/\h<=1000) (hH:1<=s.height/\s.height<=3000) (hL:1<=s.least):
  Calls Tryz.prog 35 #[aS s] w (RetRow w 56 2 (coursesL s.hs s.height s.least).length (L2 (coursesL s.hs s.height s.least))):=by
 have hlen:=hs.n1;have hcap:=hs.cap;unfold maxLen at hcap;obtain ⟨g0,o0,e0⟩:=hs.addr hn;have HS:=ζ (show Sx 1 w (some ⟨g0,o0,none⟩) s.hn s.hc (L1 s.hs)by rw [<-e0];exact hs);have HH:=ζ hh;have HL:=ζ hL;have E0:=ζ e0;obtain ⟨V,hV⟩:∃V,aS s=V:=⟨_,rfl⟩
 have HV:=ζ (show V.cells=(cS s).toArray by rw [<-hV];rfl);rw [hV];have AL:=hH.1;have AH:=hH.2;clear hV hs hh e0 hL hH;go_enter Tryz.func35,Tryz.ntmps35;go_wp2_with (refine wpList_bx (o:=⟨some 1,_,_,_,_,_⟩) rfl (Sy.enter w) _ _ rfl (cS s).toArray HV.out ?_;intro b V2 h2;have hC:=ζ h2;clear h2)
 go_loopw [3,4,5] (fun ov zv iv wr=>∃ (k:Nat) (z:Int) (out:List I2) (a:OA) (c:Nat),ov= .slice a k c/\zv= .int .i64 z/\iv= .int .i64 k/\Hid (Laying s.hs s.height out k z)/\Hid (Sy w wr [(b,(cS s).toArray,39)] [⟨.slice a k c,56,2,k,L2 out⟩] [])) (fun _ _ iv _=>4000 - (intOf iv).toNat)
 case atStart=>exact⟨0,0,[],none,0,rfl,rfl,rfl,ζ (laying_start _ (by omega)),ζ (hC.out.onil _ 2)⟩
 case round=>
  clear hC;obtain ⟨k,z,out,a,c,rfl,rfl,rfl,AD,hC⟩:=hrel;have hkz:=AD.out.2.1;have hzH:=AD.out.2.2.1;obtain ⟨j,hj,hje,hat⟩:=hAt_in (hs:=s.hs) (k:=k) (by omega);have hin:=HH.out s.hs[j] (List.getElem_mem hj);have x3:wr.cell? ⟨b,3,none⟩=some (.int .i64 s.height):=hC.out.c 0 3;have x5:wr.cell? ⟨b,5,none⟩=some (.slice (some ⟨g0,o0,none⟩) s.hn s.hc):=by rw [<-E0.out];exact hC.out.c 0 5
  have y0:wr.cell? ⟨g0,o0+(min (k:Int) ((s.hs.length:Int) - 1)).toNat,none⟩=some (.int .i64 (hAt s.hs k)):=by
   have h:=(hC.out.sx HS.out).at1 hj;rw [hat,show(min (k:Int) ((s.hs.length:Int) - 1)).toNat=j by omega];exact h
  have AF:=ζ (fun h1 ht=>laying_step AD.out AH h1 ht);have AG:=ζ (fun ht=>laying_end AD.out AH ht);have hol:out.length=k:=AD.out.1;rw [<-hat]at hin;clear hje hat hj;clear j;generalize hAt s.hs k=h at*;obtain ⟨hi1,hi2⟩:=hin;by_cases hT:s.height < z+h
  ·have AE:=ζ (fun l=>courses_done (least:=l) (AG.out hT));clear AF AG AD;have AB:=ζ hol;clear hol;have x6:wr.cell? ⟨b,6,none⟩=some (.int .i64 s.least):=hC.out.c 0 6;have ks:(k:Int)<=3000:=(by omega);by_cases hz:z=s.height
   ·have AA:=ζ (show coursesL s.hs s.height s.least=out by rw [AE.out,if_pos hz]);have hzz:s.height - z=0:=(by omega);clear AE
    as_aux_lemma=>
    go_wp2;go_ret;refine⟨a,c,?_,?_,hC.out.be⟩
    ·rw [AA.out,AB.out];rfl
    ·rw [AA.out,AB.out];exact hC.out.gives 0 rfl
   ·have AA:=ζ (AE.out s.least);rw [if_neg hz]at AA;have hzz:(s.height - z==0)=false:=beq_eq_false_iff_ne.2 (by omega);clear AE;by_cases hl:s.least<=s.height - z
    ·rw [if_pos (.inl hl)]at AA
     as_aux_lemma=>
     exact mP4b_0
    ·by_cases hk0:k=0
     ·rw [if_pos (.inr (List.length_eq_zero_iff.1 (by rw [AB.out];exact hk0)))]at AA;have hkb:((k:Int)==0)=true:=beq_iff_eq.2 (by omega);clear hk0
      as_aux_lemma=>
      exact mP4b_0
     ·rw [if_neg (fun hh=>hh.elim hl (fun he=>hk0 (by rw [<-AB.out,he];rfl)))]at AA;have hkb:((k:Int)==0)=false:=beq_eq_false_iff_ne.2 (by omega);obtain ⟨g1,rfl,_⟩:=hC.out.oaddr 0 rfl (by omega);have hk1:1<=(k:Int):=(by omega);obtain ⟨front,last,rfl⟩:∃front last,out=front++ [last]:=by
       rcases List.eq_nil_or_concat out with h0 | ⟨f0,l0,h0⟩
       ·exact absurd (by rw [<-AB.out,h0];rfl) hk0
       ·exact⟨f0,l0,by rw [h0,List.concat_eq_append]⟩
      obtain ⟨l1,l2⟩:=last;have hfl:front.length=k - 1:=(by have h:=AB.out;rw [List.length_append]at h;simp at h;omega);have y1:wr.cell? ⟨g1,(k - 1)*2+1,none⟩=some (.int .i64 l2):=hC.out.rcell 0 rfl (by
       rw [L2_snoc1,List.getElem?_append_right (by rw [L2_len,hfl];omega),L2_len,hfl,show(k - 1)*2+1 - (k - 1)*2=1 by omega];rfl)
      have y2:=hC.out.rfree 0 rfl ((k - 1)*2+1);have hS:=ζ (hC.out.ostore 0 rfl ((k - 1)*2+1) (.int .i64 s.height));have AJ:=ζ (show(L2 (front++ [(l1,l2)])).set ((k - 1)*2+1) (.int .i64 s.height)=L2 (front++ [(l1,s.height)])by
       rw [L2_snoc1,L2_snoc1,List.set_append_right _ _ (by rw [L2_len,hfl];omega),L2_len,hfl,show(k - 1)*2+1 - (k - 1)*2=1 by omega];rfl)
      rw [show(front++ [(l1,l2)]).dropLast=front by simp,show((front++ [(l1,l2)]).getLastD (0,0)).1=l1 by simp]at AA;have AI:=ζ hfl;clear hfl
      as_aux_lemma=>
      go_wp2;go_ret;refine⟨some ⟨g1,0,none⟩,c,?_,?_,hS.out.be⟩
      ·rw [AA.out,List.length_append,AI.out,show k - 1+ [(l1,s.height)].length=k by simp;omega];rfl
      ·rw [AA.out,List.length_append,AI.out,show k - 1+ [(l1,s.height)].length=k by simp;omega];have h:=hS.out.gives 0 rfl;rw [AJ.out]at h;exact h
  ·have AK:=ζ (AF.out hi1 hT);clear AF AG AD;go_wp2_with (refine wpList_append_sy (o:=⟨some 33,_,_,_,_,_⟩) rfl (hC.out.onew wr.heap.size #[.int .i64 z,.int .i64 (z+h)] 56 2 1 rfl (by omega) rfl) 0 1 rfl rfl _ _ _ rfl und_Course info_Course rfl (by omega) rfl rfl (by intro u hu;simp at hu;rcases hu with rfl | rfl<;>rfl) (by omega) (by omega) ?_;intro a3 c3 V3 AC;have hJ:=ζ (AC.thin (List.Sublist.refl _) (List.Sublist.cons_cons _ (List.nil_sublist _)));clear AC)
   go_roundw
   case rel=>exact⟨k+1,z+h,out++ [(z,z+h)],a3,c3,rfl,rfl,by go_num,AK,by rw [L2_snoc1];exact hJ⟩
   case measure=>simp [intOf];omega
end
section
variable (w:World)
theorem checkSheet1_any (h:Int):Calls Tryz.prog 84 #[.int .i64 h] w (Gives (.bool (!inB h 1 1000)) w):=by
 have hC:=ζ (Sy.enter w);have HE:=ζ (show [(h,1,1000)].all limB=inB h 1 1000 by simp [limB]);go_enter Tryz.func84,Tryz.ntmps84;go_wp2_with fail
 refine(kept_any _ _ _ _ [(h,1,1000)] ((hC.out.onew w.heap.size #[.int .i64 h,.int .i64 1,.int .i64 1000] 170 3 1 rfl (by omega) rfl).osx 0 rfl)).mono ?_;rintro e w1 ⟨rfl,hb⟩;have hD:=ζ ((hC.out.row).call hb);clear hb;go_wp2;go_ret;exact⟨ret_bool (by rw [<-HE.out];simp),hD.out.be⟩
theorem eg_checkSheet1:EG 84:=enters_of Tryz.func84 (by kernel_rfl) rfl
theorem throughB_1 {s:Sht} (h1:(s.every==0)=true) (h2:(s.at_==0)=true):throughB s=true:=by unfold throughB;simp [h1,h2]
theorem throughB_2 {s:Sht} (h2:(s.at_==0)=false):throughB s= [(s.every,1,100000),(s.at_,0,3000)].all limB:=by unfold throughB;simp [h2]
theorem throughB_3 {s:Sht} (h1:(s.every==0)=false):throughB s= [(s.every,1,100000),(s.at_,0,3000)].all limB:=by unfold throughB;simp [h1]
def errB (b:Bool):Int:=if b then 0 else 2
theorem errB_no {b:Bool} (h:b=false):errB b=2:=by rw [h];rfl
theorem errB_yes {b:Bool} (h:b=true):errB b=0:=by rw [h];rfl
theorem mP5_1 {P_:Prop} (h:P_:=by
 clear AK;cases nu
 ·have AE:=ζ (AB.out (.inr (.inr (.inl AA.out))))
  as_aux_lemma=>
   go_wp2;go_ret;exact⟨ret_int AE.out.symm,hO.out.be⟩
 obtain ⟨⟨n0,n1⟩,⟨n2,n3⟩,⟨n4,n5⟩,⟨n6,n7⟩,n8,n9⟩:=nums_get AA.out;have x5:w4.cell? ⟨b,5,none⟩=some (.slice s.ha s.hn s.hc):=hO.out.c 0 5;go_wp2_with fail
 refine(containsFunc_int _ _ _ _ 84 #[] (fun h=> !inB h 1 1000) _ (hO.out.sx HS.out) eg_checkSheet1 (fun W _ x _=>checkSheet1_any W x)).mono ?_;rintro e w5 ⟨rfl,hb⟩;have hP:=ζ (hO.out.call hb);clear hb hO x5;rw [AY.out];cases hhe:heightsB s
 ·have HB:=ζ (AB.out (.inr (.inr (.inr (.inl hhe)))));clear hhe
  as_aux_lemma=>
   go_wp2;go_ret;exact⟨ret_int HB.out.symm,hP.out.be⟩
 have AG:=ζ hhe;clear hhe;go_wp2_with (refine wpList_ldg (o:=⟨some 87,_,_,_,_,_⟩) rfl _ _ rfl _ _ rfl (cS s) _ (hP.out.range 0 rfl) Tryz.underlying39 rfl info_Sheet V AD.out ?_)
 refine(AV.out _).mono ?_;rintro e w6 ⟨rfl,hb⟩;have hQ:=ζ (hP.out.call hb);clear hb hP;cases hco:copedB s
 ·have HB:=ζ (AB.out (.inr (.inr (.inr (.inr (.inl hco))))));clear hco
  as_aux_lemma=>
   go_wp2;go_ret;exact⟨ret_int HB.out.symm,hQ.out.be⟩
 have AR:=ζ hco;clear hco;have x3:w6.cell? ⟨b,3,none⟩=some (.int .i64 s.height):=hQ.out.c 0 3;go_wp2_with (refine wpList_ldg (o:=⟨some 92,_,_,_,_,_⟩) rfl _ _ rfl _ _ rfl (cS s) _ (hQ.out.range 0 rfl) Tryz.underlying39 rfl info_Sheet V AD.out ?_)
 refine(AW.out _ _ ⟨n2,n3⟩ ⟨by omega,n5⟩ ⟨by omega,n1⟩).mono ?_;rintro e w7 ⟨rfl,hb⟩;have hR:=ζ (hQ.out.call hb);clear hb hQ x3;have AH:=ζ (show ¬ 1<=widthI s s.height->errB (sheetB s)=2 from fun h=>AB.out (.inr (.inr (.inr (.inr (.inr (.inl (by omega))))))));have AI:=ζ (fun h1 h7=>AJ.out AC.out AL.out AA.out AG.out AR.out h1 h7);generalize widthI s s.height=wi at*;by_cases hw1:wi < 1
 ·have HB:=ζ (AH.out (by omega))
  as_aux_lemma=>
   go_wp2;go_ret;exact⟨ret_int HB.out.symm,hR.out.be⟩
 have AS:=ζ (AI.out (by omega));have dw:decide (wi < 1)=false:=decide_eq_false hw1;clear AI AH;go_wp2_with (refine wpList_ldg (o:=⟨some 99,_,_,_,_,_⟩) rfl _ _ rfl _ _ rfl (cS s) _ (hR.out.range 0 rfl) Tryz.underlying39 rfl info_Sheet V AD.out ?_)
 refine(AX.out _ (hR.out.sx HS.out) (by omega) (heights_get AG.out) ⟨n4,n5⟩ n8).mono ?_;rintro e w8 ⟨a8,c8,rfl,hr8,hb⟩;have hT:=ζ (hR.out.call hb);clear hb hR hr8;have AT:=ζ (show ¬ (coursesL s.hs s.height s.least).length<=100->errB (sheetB s)=2 from fun h=>AB.out (.inr (.inr (.inr (.inr (.inr (.inr h)))))));generalize (coursesL s.hs s.height s.least).length=N at*;by_cases AZ:(N:Int) > 100
 ·have HB:=ζ (AT.out (by omega));go_wp2;go_ret;exact⟨ret_int HB.out.symm,hT.out.be⟩
 ·have HB:=ζ (AS.out (by omega));go_wp2;go_ret;exact⟨ret_int HB.out.symm,hT.out.be⟩):P_:=h
theorem mP5_0 {P_:Prop} (h:P_:=by
 go_enter Tryz.func34,Tryz.ntmps34;go_upto_region 1 with (refine wpList_bx (o:=⟨some 1,_,_,_,_,_⟩) rfl (Sy.enter w) _ _ rfl (cS s).toArray HV.out ?_;intro b V2 h2;have hC:=ζ h2;clear h2)
 have x9:V2.cell? ⟨b,9,none⟩=some (.int .i64 s.every):=hC.out.c 0 9;have AU:V2.cell? ⟨b,10,none⟩=some (.int .i64 s.at_):=hC.out.c 0 10;go_wp2_with fail
 refine(kept_any _ _ _ _ [(s.every,1,100000),(s.at_,0,3000)] ((hC.out.onew V2.heap.size #[.int .i64 s.every,.int .i64 1,.int .i64 100000,.int .i64 s.at_,.int .i64 0,.int .i64 3000] 170 3 2 rfl (by omega) rfl).osx 0 rfl)).mono ?_;rintro e w2 ⟨rfl,hb⟩;have hM:=ζ ((hC.out.row).call hb);clear hb hC x9 AU;rw [<-AF.out];clear AF;have AK:=ζ (show throughB s=false->errB (sheetB s)=2 from fun h=>AB.out (.inr (.inl h)));obtain ⟨th,hth⟩:∃th,throughB s=th:=⟨_,rfl⟩
 rw [hth];have AL:=ζ hth;clear hth;have x1:w2.cell? ⟨b,1,none⟩=some (.int .i64 s.base):=hM.out.c 0 1;have x2:w2.cell? ⟨b,2,none⟩=some (.int .i64 s.batter):=hM.out.c 0 2;have x3:w2.cell? ⟨b,3,none⟩=some (.int .i64 s.height):=hM.out.c 0 3;have x4:w2.cell? ⟨b,4,none⟩=some (.int .i64 s.skin):=hM.out.c 0 4;have x5:w2.cell? ⟨b,5,none⟩=some (.slice s.ha s.hn s.hc):=hM.out.c 0 5;have x6:w2.cell? ⟨b,6,none⟩=some (.int .i64 s.least):=hM.out.c 0 6;have x7:w2.cell? ⟨b,7,none⟩=some (.int .i64 s.lap):=hM.out.c 0 7;have x8:w2.cell? ⟨b,8,none⟩=some (.int .i64 s.run):=hM.out.c 0 8;have AM:w2.cell? ⟨b,11,none⟩=some (.int .i64 s.footing):=hM.out.c 0 11;have AN:w2.cell? ⟨b,12,none⟩=some (.int .i64 s.spread):=hM.out.c 0 12;have AO:w2.cell? ⟨b,17,none⟩=some (.int .i64 s.low):=hM.out.c 0 17;have AP:w2.cell? ⟨b,18,none⟩=some (.int .i64 s.high):=hM.out.c 0 18;have AQ:w2.cell? ⟨b,19,none⟩=some (.int .i64 s.rood):=hM.out.c 0 19;go_wp2_with fail
 refine(kept_any _ _ _ _ (shtNums s) ((hM.out.onew w2.heap.size #[.int .i64 s.base,.int .i64 1,.int .i64 3000,.int .i64 s.batter,.int .i64 0,.int .i64 500,.int .i64 s.height,.int .i64 1,.int .i64 3000,.int .i64 s.skin,.int .i64 1,.int .i64 1500,.int .i64 (s.hn:Int),.int .i64 1,.int .i64 12,.int .i64 s.least,.int .i64 1,.int .i64 1000,.int .i64 s.lap,.int .i64 0,.int .i64 500,.int .i64 s.run,.int .i64 1,.int .i64 20,.int .i64 s.footing,.int .i64 0,.int .i64 1000,.int .i64 s.spread,.int .i64 0,.int .i64 1000,.int .i64 s.low,.int .i64 0,.int .i64 s.high,.int .i64 s.high,.int .i64 0,.int .i64 2000,.int .i64 s.rood,.int .i64 1,.int .i64 100000] 170 3 13 rfl (by omega) rfl).osx 0 rfl)).mono ?_;rintro e w3 ⟨rfl,hb⟩;have hN:=ζ ((hM.out.row).call hb);clear hb hM x1 x2 x3 x4 x5 x6 x7 x8 AM AN AO AP AQ;obtain ⟨nu,hnu⟩:∃nu,numsB s=nu:=⟨_,rfl⟩
 rw [show(shtNums s).all limB=nu from hnu];have AA:=ζ hnu;clear hnu;have x0:w3.cell? ⟨b,0,none⟩=some (.string s.name):=hN.out.c 0 0;go_wp2_with fail
 refine(planNamed_any _ _ HM.out).mono ?_;rintro e w4 ⟨rfl,hb⟩;have hO:=ζ (hN.out.call hb);clear hb hN x0;cases hna:namedB s.name
 ·have AC:=ζ (AB.out (.inl hna));clear hna
  as_aux_lemma=>
   go_wp2;go_ret;exact⟨ret_int AC.out.symm,hO.out.be⟩
 have AC:=ζ hna;clear hna;cases th
 ·have AE:=ζ (AK.out AL.out)
  as_aux_lemma=>
   go_wp2;go_ret;exact⟨ret_int AE.out.symm,hO.out.be⟩
 exact mP5_1):P_:=h
theorem checkSheet_any (s:Sht) (hs:Sx 1 w s.ha s.hn s.hc (L1 s.hs)) (hm:s.name.size<=maxLen):Calls Tryz.prog 34 #[aS s] w (Gives (.int .i64 (errB (sheetB s))) w):=by
 have hlen:=hs.n1;have hcap:=hs.cap;unfold maxLen at hcap;have HS:=ζ hs;have HM:=ζ hm;obtain ⟨V,hV⟩:∃V,aS s=V:=⟨_,rfl⟩
 have HV:=ζ (show V.cells=(cS s).toArray by rw [<-hV];rfl);have AD:=ζ (show Value.agg (cS s).toArray=V by rw [<-hV];rfl);have AV:=ζ (fun W=>(show Calls Tryz.prog 87 #[V] W (Gives (.bool (copedB s)) W)by rw [<-hV];exact pcoped_any W s));have AW:=ζ (fun W z a b c=>(show Calls Tryz.prog 88 #[V,.int .i64 z] W (Gives (.int .i64 (widthI s z)) W)by rw [<-hV];exact pwidth_any W s z a b c));have AX:=ζ (fun W h a b c d=>(show Calls Tryz.prog 35 #[V] W (RetRow W 56 2 (coursesL s.hs s.height s.least).length (L2 (coursesL s.hs s.height s.least)))by rw [<-hV];exact pcourses_any W s h a b c d));have AB:=ζ (fun h=>errB_no (sheetB_no (s:=s) h));have AJ:=ζ (fun a b c d e f g=>errB_yes (sheetB_yes (s:=s) a b c d e f g));rw [hV];clear hV hs hm hlen;have AY:=ζ (show(s.hs.any fun h=> !inB h 1 1000)= !heightsB s by unfold heightsB;rw [Bool.eq_iff_iff];simp);cases he:(s.every==0);rotate_left
 ·cases ha:(s.at_==0);rotate_left
  ·have AF:=ζ (throughB_1 he ha);go_enter Tryz.func34,Tryz.ntmps34;go_upto_region 1 with (refine wpList_bx (o:=⟨some 1,_,_,_,_,_⟩) rfl (Sy.enter w) _ _ rfl (cS s).toArray HV.out ?_;intro b V2 h2;have hC:=ζ h2;clear h2)
   have x9:V2.cell? ⟨b,9,none⟩=some (.int .i64 s.every):=hC.out.c 0 9;have AU:V2.cell? ⟨b,10,none⟩=some (.int .i64 s.at_):=hC.out.c 0 10;have x1:V2.cell? ⟨b,1,none⟩=some (.int .i64 s.base):=hC.out.c 0 1;have x2:V2.cell? ⟨b,2,none⟩=some (.int .i64 s.batter):=hC.out.c 0 2;have x3:V2.cell? ⟨b,3,none⟩=some (.int .i64 s.height):=hC.out.c 0 3;have x4:V2.cell? ⟨b,4,none⟩=some (.int .i64 s.skin):=hC.out.c 0 4;have x5:V2.cell? ⟨b,5,none⟩=some (.slice s.ha s.hn s.hc):=hC.out.c 0 5;have x6:V2.cell? ⟨b,6,none⟩=some (.int .i64 s.least):=hC.out.c 0 6;have x7:V2.cell? ⟨b,7,none⟩=some (.int .i64 s.lap):=hC.out.c 0 7;have x8:V2.cell? ⟨b,8,none⟩=some (.int .i64 s.run):=hC.out.c 0 8;have AM:V2.cell? ⟨b,11,none⟩=some (.int .i64 s.footing):=hC.out.c 0 11;have AN:V2.cell? ⟨b,12,none⟩=some (.int .i64 s.spread):=hC.out.c 0 12;have AO:V2.cell? ⟨b,17,none⟩=some (.int .i64 s.low):=hC.out.c 0 17;have AP:V2.cell? ⟨b,18,none⟩=some (.int .i64 s.high):=hC.out.c 0 18;have AQ:V2.cell? ⟨b,19,none⟩=some (.int .i64 s.rood):=hC.out.c 0 19;go_wp2_with fail
   have AK:=ζ (show throughB s=false->errB (sheetB s)=2 from fun h=>AB.out (.inr (.inl h)));have AL:=AF;clear AF;refine(kept_any _ _ _ _ (shtNums s) ((hC.out.onew V2.heap.size #[.int .i64 s.base,.int .i64 1,.int .i64 3000,.int .i64 s.batter,.int .i64 0,.int .i64 500,.int .i64 s.height,.int .i64 1,.int .i64 3000,.int .i64 s.skin,.int .i64 1,.int .i64 1500,.int .i64 (s.hn:Int),.int .i64 1,.int .i64 12,.int .i64 s.least,.int .i64 1,.int .i64 1000,.int .i64 s.lap,.int .i64 0,.int .i64 500,.int .i64 s.run,.int .i64 1,.int .i64 20,.int .i64 s.footing,.int .i64 0,.int .i64 1000,.int .i64 s.spread,.int .i64 0,.int .i64 1000,.int .i64 s.low,.int .i64 0,.int .i64 s.high,.int .i64 s.high,.int .i64 0,.int .i64 2000,.int .i64 s.rood,.int .i64 1,.int .i64 100000] 170 3 13 rfl (by omega) rfl).osx 0 rfl)).mono ?_;rintro e w3 ⟨rfl,hb⟩;have hN:=ζ ((hC.out.row).call hb);clear hb hC x1 x2 x3 x4 x5 x6 x7 x8 AM AN AO AP AQ;obtain ⟨nu,hnu⟩:∃nu,numsB s=nu:=⟨_,rfl⟩
   rw [show(shtNums s).all limB=nu from hnu];have AA:=ζ hnu;clear hnu;have x0:w3.cell? ⟨b,0,none⟩=some (.string s.name):=hN.out.c 0 0;go_wp2_with fail
   refine(planNamed_any _ _ HM.out).mono ?_;rintro e w4 ⟨rfl,hb⟩;have hO:=ζ (hN.out.call hb);clear hb hN x0;cases hna:namedB s.name
   ·have AC:=ζ (AB.out (.inl hna));clear hna
    as_aux_lemma=>
     go_wp2;go_ret;exact⟨ret_int AC.out.symm,hO.out.be⟩
   have AC:=ζ hna;clear hna;exact mP5_1
  ·have AF:=ζ (throughB_2 ha);exact mP5_0
 ·have AF:=ζ (throughB_3 he);exact mP5_0
end
def smallO (o:Opn):Prop:=(0<=o.at_/\o.at_<=100000)/\(0<=o.wide/\o.wide<=100000)/\(0<=o.fro/\o.fro<=100000)/\(0<=o.high/\o.high<=100000)
theorem fits_small {o:Opn} {len H:Int} (h:fitsB o len H=true) (hl:len<=100000) (hH:H<=100000):smallO o:=by
 unfold fitsB at h;simp only [Bool.and_eq_true]at h;have h:=List.all_eq_true.1 h.1.1;have a1:=lim_iff.1 (h _ (by simp [openNums]:(o.wide,1,len)∈openNums o len H));have a2:=lim_iff.1 (h _ (by simp [openNums]:(o.at_,0,len - o.wide)∈openNums o len H));have a3:=lim_iff.1 (h _ (by simp [openNums]:(o.high,1,H)∈openNums o len H));have a4:=lim_iff.1 (h _ (by simp [openNums]:(o.fro,0,H - o.high)∈openNums o len H));dsimp only at a1 a2 a3 a4;unfold smallO;omega
section
variable (w:World)
theorem meets_any (o p:Opn) (h1:smallO o) (h2:smallO p):Calls Tryz.prog 169 #[aO o,aO p] w (Gives (.bool (meetsO o p)) w):=by
 obtain ⟨o0,o1,o2,o3,o4⟩:=o;obtain ⟨p0,p1,p2,p3,p4⟩:=p;unfold smallO at h1 h2;dsimp only at h1 h2;obtain ⟨⟨a0,a1⟩,⟨a2,a3⟩,⟨a4,a5⟩,a6,a7⟩:=h1;obtain ⟨⟨b0,b1⟩,⟨b2,b3⟩,⟨b4,b5⟩,b6,b7⟩:=h2;unfold meetsO;dsimp only;have hC:=ζ (((Sy.enter w).al w.heap.size #[.int .u8 o0,.int .i64 o1,.int .i64 o2,.int .i64 o3,.int .i64 o4] 104 rfl).al (w.heap.size+1) #[.int .u8 p0,.int .i64 p1,.int .i64 p2,.int .i64 p3,.int .i64 p4] 104 (by simp));by_cases c1:o1 < p1+p2;rotate_left
 ·have D:=ζ (decide_eq_false c1);go_enter Tryz.func169,Tryz.ntmps169;go_wp2;go_ret;exact⟨ret_bool (by rw [D.out];simp),hC.out.be⟩
 by_cases c2:p1 < o1+o2;rotate_left
 ·have D:=ζ (decide_eq_false c2);go_enter Tryz.func169,Tryz.ntmps169;go_wp2;go_ret;exact⟨ret_bool (by rw [D.out];simp),hC.out.be⟩
 by_cases c3:o3 < p3+p4;rotate_left
 ·have D:=ζ (decide_eq_false c3);go_enter Tryz.func169,Tryz.ntmps169;go_wp2;go_ret;exact⟨ret_bool (by rw [D.out];simp),hC.out.be⟩
 have D1:=ζ (decide_eq_true c1);have D2:=ζ (decide_eq_true c2);have D3:=ζ (decide_eq_true c3);by_cases c4:p3 < o3+o4
 ·have D4:=ζ (decide_eq_true c4);go_enter Tryz.func169,Tryz.ntmps169;go_wp2;go_ret;exact⟨ret_bool (by rw [D1.out,D2.out,D3.out,D4.out];rfl),hC.out.be⟩
 ·have D4:=ζ (decide_eq_false c4);go_enter Tryz.func169,Tryz.ntmps169;go_wp2;go_ret;exact⟨ret_bool (by simp [D4.out]),hC.out.be⟩
theorem fits_nums {o:Opn} {len H W1 W2:Int} (h1:1<=o.wide->o.wide<=len->W1=len - o.wide) (h2:1<=o.high->o.high<=H->W2=H - o.high):
  [(o.kind,1,4),(len,1,100000),(o.wide,1,len),(o.at_,0,W1),(o.high,1,H),(o.fro,0,W2)].all limB=(openNums o len H).all limB:=by
 rw [Bool.eq_iff_iff,List.all_eq_true,List.all_eq_true];unfold openNums;simp only [List.mem_cons,List.not_mem_nil,or_false,forall_eq_or_imp,forall_eq,lim_iff];constructor
 ·rintro ⟨a,b,c,d,e,f⟩;rw [h1 c.1 c.2]at d;rw [h2 e.1 e.2]at f;exact⟨a,b,c,d,e,f⟩
 ·rintro ⟨a,b,c,d,e,f⟩;have d':=d;have f':=f;rw [<-h1 c.1 c.2]at d';rw [<-h2 e.1 e.2]at f';exact⟨a,b,c,d',e,f'⟩
theorem fits_any (o:Opn) (x:Wal) (s:Sht) (hk:0<=o.kind/\o.kind<=255) (hl:1<=x.len/\x.len<=100000) (hH:1<=s.height/\s.height<=3000):Calls Tryz.prog 167 #[aO o,aW x,aS s] w (Gives (.bool (fitsB o x.len s.height)) w):=by
 obtain ⟨W1,AA⟩:∃W1,IntKind.i64.wrap (x.len - o.wide)=W1:=⟨_,rfl⟩
 obtain ⟨W2,AB⟩:∃W2,IntKind.i64.wrap (s.height - o.high)=W2:=⟨_,rfl⟩
 have HN:=ζ (fits_nums (o:=o) (len:=x.len) (H:=s.height) (W1:=W1) (W2:=W2) (fun h1 h2=>by rw [<-AA];exact IntWalk.i64_in _ (by omega)) (fun h1 h2=>by rw [<-AB];exact IntWalk.i64_in _ (by omega)));have HG:=ζ (fun(h:(openNums o x.len s.height).all limB=true)=>by
  have h:=List.all_eq_true.1 h;have a3:=lim_iff.1 (h _ (by simp [openNums]:(o.high,1,s.height)∈openNums o x.len s.height));have a4:=lim_iff.1 (h _ (by simp [openNums]:(o.fro,0,s.height - o.high)∈openNums o x.len s.height));exact(⟨a3,a4⟩:(1<=o.high/\o.high<=s.height)/\0<=o.fro/\o.fro<=s.height - o.high))
 have HE:=ζ (show fitsB o x.len s.height=((openNums o x.len s.height).all limB && (!(o.kind==3) || (o.fro+o.high==s.height)) && (!(o.kind==4) || ((o.fro+o.high==s.height) && (o.fro==0))))from rfl);obtain ⟨V,hV⟩:∃V,aS s=V:=⟨_,rfl⟩
 have HV:=ζ (show V.cells=(cS s).toArray by rw [<-hV];rfl);rw [hV];obtain ⟨U,hU⟩:∃U,aW x=U:=⟨_,rfl⟩
 have HU:=ζ (show U.cells=(cWa x).toArray by rw [<-hU];rfl);rw [hU];obtain ⟨O,hO⟩:∃O,aO o=O:=⟨_,rfl⟩
 have HO:=ζ (show O.cells=(cO o).toArray by rw [<-hO];rfl);rw [hO];have k0:=hk.1;have k1:=hk.2;have AE:=hH.2;clear hV hU hO hl hH hk;generalize fitsB o x.len s.height=R at*;go_enter Tryz.func167,Tryz.ntmps167;go_upto_region 1 with (first | (refine wpList_bx (o:=⟨some 3,_,_,_,_,_⟩) rfl (Sy.enter w) _ _ rfl (cO o).toArray HO.out ?_;intro bo V1 h1;have AC:=ζ h1;clear h1) | (refine wpList_bx (o:=⟨some 4,_,_,_,_,_⟩) rfl AC.out _ _ rfl (cWa x).toArray HU.out ?_;intro bx V2 h2;have AD:=ζ h2;clear h2) | (refine wpList_bx (o:=⟨some 5,_,_,_,_,_⟩) rfl AD.out _ _ rfl (cS s).toArray HV.out ?_;intro bs V3 h3;have hC:=ζ h3;clear h3 AC AD) | fail)
 have x0:V3.cell? ⟨bo,0,none⟩=some (.int .u8 o.kind):=hC.out.c 0 0;have x1:V3.cell? ⟨bo,1,none⟩=some (.int .i64 o.at_):=hC.out.c 0 1;have x2:V3.cell? ⟨bo,2,none⟩=some (.int .i64 o.wide):=hC.out.c 0 2;have x3:V3.cell? ⟨bo,3,none⟩=some (.int .i64 o.fro):=hC.out.c 0 3;have x4:V3.cell? ⟨bo,4,none⟩=some (.int .i64 o.high):=hC.out.c 0 4;have y2:V3.cell? ⟨bx,2,none⟩=some (.int .i64 x.len):=hC.out.c 1 2;have z3:V3.cell? ⟨bs,3,none⟩=some (.int .i64 s.height):=hC.out.c 2 3;go_wp2_with fail
 refine(kept_any _ _ _ _ [(o.kind,1,4),(x.len,1,100000),(o.wide,1,x.len),(o.at_,0,W1),(o.high,1,s.height),(o.fro,0,W2)] ((hC.out.onew V3.heap.size #[.int .i64 o.kind,.int .i64 1,.int .i64 4,.int .i64 x.len,.int .i64 1,.int .i64 100000,.int .i64 o.wide,.int .i64 1,.int .i64 x.len,.int .i64 o.at_,.int .i64 0,.int .i64 W1,.int .i64 o.high,.int .i64 1,.int .i64 s.height,.int .i64 o.fro,.int .i64 0,.int .i64 W2] 170 3 6 rfl (by omega) rfl).osx 0 rfl)).mono ?_;rintro e w4 ⟨rfl,hb⟩;have hD:=ζ ((hC.out.row).call hb);clear hb hC x0 x1 x2 x3 x4 y2 z3;rw [HN.out];have x0:w4.cell? ⟨bo,0,none⟩=some (.int .u8 o.kind):=hD.out.c 0 0;have x3:w4.cell? ⟨bo,3,none⟩=some (.int .i64 o.fro):=hD.out.c 0 3;have x4:w4.cell? ⟨bo,4,none⟩=some (.int .i64 o.high):=hD.out.c 0 4;have z3:w4.cell? ⟨bs,3,none⟩=some (.int .i64 s.height):=hD.out.c 2 3;clear HN AA AB;generalize (openNums o x.len s.height).all limB=B at*;cases B
 ·go_wp2;go_ret;exact⟨ret_bool (by rw [HE.out];rfl),hD.out.be⟩
 obtain ⟨⟨q0,q1⟩,q2,q3⟩:=HG.out rfl;clear HG;cases c1:(o.kind==3)<;>cases c2:(o.kind==4)<;>cases c3:(o.fro+o.high==s.height)<;>cases c4:(o.fro==0)
 all_goals
  have HF:=ζ (show R=_ by rw [HE.out,c1,c2,c3,c4]);have d1:(o.kind !=3)= !(o.kind==3):=rfl;have d2:(o.kind !=4)= !(o.kind==4):=rfl;rw [c1]at d1;rw [c2]at d2;clear HE;go_wp2;go_ret;exact⟨ret_bool (by rw [HF.out];rfl),hD.out.be⟩
end
theorem opens_no {l:List Opn} {len H:Int} {i:Nat} (hi:i < l.length) (h:fitsB l[i] len H=false\/(l.take i).any (meetsO l[i])=true):opensB l len H=false:=by
 cases e:opensB l len H
 ·rfl
 ·have:=List.all_eq_true.1 e i (List.mem_range.2 hi);rw [List.getElem?_eq_getElem hi]at this;dsimp only at this;rcases h with h | h<;>rw [h]at this<;>simp at this
theorem opens_yes {l:List Opn} {len H:Int} (h:∀i (hi:i < l.length),fitsB l[i] len H=true/\(l.take i).any (meetsO l[i])=false):opensB l len H=true:=List.all_eq_true.2 fun i hi=>by
 have hi:=List.mem_range.1 hi;rw [List.getElem?_eq_getElem hi];dsimp only;rw [(h i hi).1,(h i hi).2];rfl
theorem wallB_no {x:Wal} {s:Sht} (h:namedB x.name=false\/ [(x.len,1,100000),((x.on:Int),0,20)].all limB=false\/opensB x.ops x.len s.height=false):wallB x s=false:=by
 unfold wallB;rcases h with h | h | h;all_goals simp only [h,Bool.false_and,Bool.and_false]
theorem wallB_yes {x:Wal} {s:Sht} (h1:namedB x.name=true) (h2: [(x.len,1,100000),((x.on:Int),0,20)].all limB=true) (h3:opensB x.ops x.len s.height=true):wallB x s=true:=by
 unfold wallB;rw [h1,h2,h3];rfl
theorem eg_meets:EG 169:=enters_of Tryz.func169 (by kernel_rfl) rfl
theorem info_Wall:(Tryz.prog.info? 36).map (·.size)=some 4:=by kernel_rfl
section
variable (w:World)
theorem wvalid_any (x:Wal) (s:Sht) (hs:Sx 5 w x.oa x.on x.oc (LO x.ops)) (hm:x.name.size<=maxLen) (hk:∀o∈x.ops,0<=o.kind/\o.kind<=255) (hH:1<=s.height/\s.height<=3000):
  Calls Tryz.prog 132 #[aW x,aS s] w (Gives (.bool (wallB x s)) w):=by
 obtain ⟨nm,sh,len,oa,on,oc,ops⟩:=x;dsimp only at hs hm hk;obtain rfl:=hs.nO;have hcap:=hs.cap;unfold maxLen at hcap;have HS:=ζ hs;have HM:=ζ hm;have HK:=ζ hk;have HH:=ζ hH;obtain ⟨V,hV⟩:∃V,aS s=V:=⟨_,rfl⟩
 have HV:=ζ (show V.cells=(cS s).toArray by rw [<-hV];rfl);have A0:=ζ (show Value.agg (cS s).toArray=V by rw [<-hV];rfl);obtain ⟨U,hU⟩:∃U,aW ⟨nm,sh,len,oa,ops.length,oc,ops⟩=U:=⟨_,rfl⟩
 have HU:=ζ (show U.cells=(cWa ⟨nm,sh,len,oa,ops.length,oc,ops⟩).toArray by rw [<-hU];rfl);have A1:=ζ (show Value.agg (cWa ⟨nm,sh,len,oa,ops.length,oc,ops⟩).toArray=U by rw [<-hU];rfl);have A6:=ζ (fun W o a b=>(show Calls Tryz.prog 167 #[aO o,U,V] W (Gives (.bool (fitsB o len s.height)) W)by rw [<-hV,<-hU];exact fits_any W o ⟨nm,sh,len,oa,ops.length,oc,ops⟩ s a b hH));have AV:=ζ (fun h=>wallB_no (x:=⟨nm,sh,len,oa,ops.length,oc,ops⟩) (s:=s) h);have AM:=ζ (fun a b c=>wallB_yes (x:=⟨nm,sh,len,oa,ops.length,oc,ops⟩) (s:=s) a b c);rw [hV,hU];clear hV hU hs hm hk hH;go_enter Tryz.func132,Tryz.ntmps132;go_upto_region 1 with (first | (refine wpList_bx (o:=⟨some 2,_,_,_,_,_⟩) rfl (Sy.enter w) _ _ rfl (cWa ⟨nm,sh,len,oa,ops.length,oc,ops⟩).toArray HU.out ?_;intro bx V1 h1;have A7:=ζ h1;clear h1) | (refine wpList_bx (o:=⟨some 3,_,_,_,_,_⟩) rfl A7.out _ _ rfl (cS s).toArray HV.out ?_;intro bs V2 h2;have hC:=ζ h2;clear h2 A7) | fail)
 have x0:V2.cell? ⟨bx,0,none⟩=some (.string nm):=hC.out.c 0 0;have x2:V2.cell? ⟨bx,2,none⟩=some (.int .i64 len):=hC.out.c 0 2;have x3:V2.cell? ⟨bx,3,none⟩=some (.slice oa ops.length oc):=hC.out.c 0 3;go_wp2_with fail
 refine(planNamed_any _ _ HM.out).mono ?_;rintro e w4 ⟨rfl,hb⟩;have hO:=ζ (hC.out.call hb);clear hb hC x0 x2 x3;cases hna:namedB nm
 ·have AW:=ζ (AV.out (.inl hna));clear hna
  as_aux_lemma=>
   go_wp2;go_ret;exact⟨ret_bool AW.out.symm,hO.out.be⟩
 have AW:=ζ hna;clear hna;have x2:w4.cell? ⟨bx,2,none⟩=some (.int .i64 len):=hO.out.c 0 2;have x3:w4.cell? ⟨bx,3,none⟩=some (.slice oa ops.length oc):=hO.out.c 0 3;go_wp2_with fail
 refine(kept_any _ _ _ _ [(len,1,100000),((ops.length:Int),0,20)] ((hO.out.onew w4.heap.size #[.int .i64 len,.int .i64 1,.int .i64 100000,.int .i64 ops.length,.int .i64 0,.int .i64 20] 170 3 2 rfl (by omega) rfl).osx 0 rfl)).mono ?_;rintro e w5 ⟨rfl,hb⟩;have hP:=ζ ((hO.out.row).call hb);clear hb hO x2 x3;cases hnu: [(len,1,100000),((ops.length:Int),0,20)].all limB
 ·have A9:=ζ (AV.out (.inr (.inl hnu)));clear hnu
  as_aux_lemma=>
   go_wp2;go_ret;exact⟨ret_bool A9.out.symm,hP.out.be⟩
 have l1:1<=len/\len<=100000:=lim_iff.1 (List.all_eq_true.1 hnu (len,1,100000) (by simp));have l2:0<=(ops.length:Int)/\(ops.length:Int)<=20:=lim_iff.1 (List.all_eq_true.1 hnu ((ops.length:Int),0,20) (by simp));have Ab:=ζ (fun c=>AM.out AW.out hnu c);have A2:=ζ l1;clear hnu l1 AM AW;have x3:w5.cell? ⟨bx,3,none⟩=some (.slice oa ops.length oc):=hP.out.c 0 3;go_wp2;go_loopw [26] (fun iv wr=>∃k:Nat,k<=ops.length/\iv= .int .i64 k/\Hid (∀i (hi:i < ops.length),i < k->fitsB ops[i] len s.height=true/\(ops.take i).any (meetsO ops[i])=false)/\Hid (Sy w wr [(bx,(cWa ⟨nm,sh,len,oa,ops.length,oc,ops⟩).toArray,36),(bs,(cS s).toArray,39)] [] [])) (fun iv _=>ops.length - (intOf iv).toNat)
 case atStart=>exact⟨0,Nat.zero_le _,rfl,ζ (fun i _ h=>absurd h (Nat.not_lt_zero i)),hP⟩
 case round=>
  clear hP x3;obtain ⟨k,hk,rfl,HI,hC⟩:=hrel;by_cases hlt:k < ops.length
  ·obtain ⟨g0,o0,rfl⟩:=HS.out.addr (by omega);have HN:=ζ (fun h=>AV.out (.inr (.inr (opens_no hlt h))));have HY:=ζ (show fitsB ops[k] len s.height=true->(ops.take k).any (meetsO ops[k])=false->∀i (hi:i < ops.length),i < k+1->fitsB ops[i] len s.height=true/\(ops.take i).any (meetsO ops[i])=false from fun h1 h2 i hi hik=>by
    rcases Nat.lt_or_ge i k with h | h
    ·exact HI.out i hi h
    ·have:i=k:=(by omega);subst this;exact⟨h1,h2⟩)
   have AN:=ζ (show ∀q∈ops.take k,smallO q from fun q hq=>by
    obtain ⟨i,hi,e⟩:=List.mem_take_iff_getElem.1 hq;rw [<-e];exact fits_small (HI.out i (by omega) (by omega)).1 A2.out.2 (by have:=HH.out.2;omega))
   have AO:=ζ (fun W (h:Below w.heap.size w W)=>(show Sx 5 W (some ⟨g0,o0,none⟩) k oc (LO (ops.take k))by
    have h:=(HS.out.below h).take (show k<=ops.length by omega);rwa [LO_take]at h))
   have A8:=ζ (HK.out ops[k] (List.getElem_mem hlt));have AP:=ζ (fun W=>A6.out W ops[k] A8.out A2.out);have AX:=ζ (show fitsB ops[k] len s.height=true->smallO ops[k]from fun h=>fits_small h A2.out.2 (by have:=HH.out.2;omega));obtain ⟨y0,y1,y2,y3,y4⟩:=(HS.out.below hC.out.be).atO hlt;clear HI HK;obtain ⟨o,ho⟩:∃o,ops[k]=o:=⟨_,rfl⟩
   rw [ho]at HN HY AP AX y0 y1 y2 y3 y4;clear ho A8 A6 HH AV;have hkn:k<=ops.length:=(by omega);have i0:(0:Int)<=(k:Int):=(by omega);have i1:(k:Int) < (ops.length:Int):=(by omega);have i2:k<=oc:=(by omega);go_upto_region 6 with fail
   have A3:=ζ (hC.out.al wr.heap.size #[.int .u8 o.kind,.int .i64 o.at_,.int .i64 o.wide,.int .i64 o.fro,.int .i64 o.high] 104 rfl);obtain ⟨bo,hbo⟩:∃bo,wr.heap.size=bo:=⟨_,rfl⟩
   rw [hbo]at A3⊢;refine wp_geny A3.out ?_;intro W6 hc;have hD:=ζ hc;clear hc A3 hbo hC y0 y1 y2 y3 y4;cases hf:fitsB o len s.height
   ·have AY:=ζ (fun W=>by have h:=AP.out W;rw [hf]at h;exact h);have HB:=ζ (HN.out (.inl hf));clear hf AP AX HN HY AN AO;refine wp_region_held_drew (S:=(fun w'=>w'.cell? ⟨bo,0,none⟩=some (.int .u8 o.kind)/\w'.cell? ⟨bo,1,none⟩=some (.int .i64 o.at_)/\w'.cell? ⟨bo,2,none⟩=some (.int .i64 o.wide)/\w'.cell? ⟨bo,3,none⟩=some (.int .i64 o.fro)/\w'.cell? ⟨bo,4,none⟩=some (.int .i64 o.high)/\w'.rangeAt bx 0 (cWa ⟨nm,sh,len,some ⟨g0,o0,none⟩,ops.length,oc,ops⟩)/\w'.rangeAt bs 0 (cS s)/\w'.cell? ⟨bx,3,none⟩=some (.slice (some ⟨g0,o0,none⟩) ops.length oc)/\True)) (by kernel_rfl) ⟨hD.out.drew.c 2 0,hD.out.drew.c 2 1,hD.out.drew.c 2 2,hD.out.drew.c 2 3,hD.out.drew.c 2 4,hD.out.drew.range 0 rfl,hD.out.drew.range 1 rfl,hD.out.drew.c 0 3,trivial⟩ (fun hH=>?_);refine wpAnyH_geny (show Sy w _ [(bx,(cWa ⟨nm,sh,len,some ⟨g0,o0,none⟩,ops.length,oc,ops⟩).toArray,36),(bs,(cS s).toArray,39),(bo,#[.int .u8 o.kind,.int .i64 o.at_,.int .i64 o.wide,.int .i64 o.fro,.int .i64 o.high],104)] [] []from hD.out.drew) hH ?_;intro Ac hc AD;have AJ:=ζ hc;clear hc hH hD;refine tkA 0 rfl AD ?_;(try simp only [zP]);refine wpAnyH_take (i:=1) (oi:=⟨_,_,_,_,_,_⟩) (v:=U) rfl (by kernel_rfl) (by kernel_rfl) (by kernel_rfl) (fun _ _ _ h=>h) (yieldsIf_ld (by rfl) _ _ rfl bx 0 rfl (cWa ⟨nm,sh,len,some ⟨g0,o0,none⟩,ops.length,oc,ops⟩) _ (fun _ h=>h.2.2.2.2.2.1) Tryz.underlying36 rfl info_Wall U A1.out) AD ?_;(try simp only [zP]);refine wpAnyH_take (i:=2) (oi:=⟨_,_,_,_,_,_⟩) (v:=V) rfl (by kernel_rfl) (by kernel_rfl) (by kernel_rfl) (fun _ _ _ h=>h) (yieldsIf_ld (by rfl) _ _ rfl bs 0 rfl (cS s) _ (fun _ h=>h.2.2.2.2.2.2.1) Tryz.underlying39 rfl info_Sheet V A0.out) AD ?_;(try simp only [zP]);refine rdy1 3 rfl (fun Kq AE=>?_);go_simp;go_at_call 167;refine(AY.out _).mono ?_;rintro e wT ⟨rfl,hb⟩;(try go_wp2_with fail);refine stepZ AE (show Sy w _ [(bx,(cWa ⟨nm,sh,len,some ⟨g0,o0,none⟩,ops.length,oc,ops⟩).toArray,36),(bs,(cS s).toArray,39),(bo,#[.int .u8 o.kind,.int .i64 o.at_,.int .i64 o.wide,.int .i64 o.fro,.int .i64 o.high],104)] [] []from(AJ.out.call hb)) (fun _ hX=>⟨hX.c 2 0,hX.c 2 1,hX.c 2 2,hX.c 2 3,hX.c 2 4,hX.range 0 rfl,hX.range 1 rfl,hX.c 0 3,trivial⟩) ?_;intro Ad AQ AA;clear AE Kq AJ hb AD;(try simp only [zP]);refine tkA 4 rfl AA ?_;(try simp only [zP]);refine tkA 5 rfl AA ?_;(try simp only [zP]);refine tkR 6 rfl AA ?_;(try simp only [zP]);refine tkR 7 rfl AA ?_;(try simp only [zP]);refine tkR 8 rfl AA ?_;(try simp only [zP]);refine tkR 9 rfl AA ?_;(try simp only [zP]);refine tkR 10 rfl AA ?_;(try simp only [zP]);refine tkR 11 rfl AA ?_;(try simp only [zP]);refine tkR 12 rfl AA ?_;(try simp only [zP]);refine tkA 13 rfl AA ?_;(try simp only [zP]);refine wpAnyH_done (by kernel_rfl) ?_ _;go_wp2;go_ret;exact⟨ret_bool HB.out.symm,AQ.out.be⟩
   have AY:=ζ (fun W=>by have h:=AP.out W;rw [hf]at h;exact h);have AZ:=ζ (AX.out hf);have A4:=ζ (HY.out hf);clear hf AP AX HY;cases ha:(ops.take k).any (meetsO o)
   ·have HB:=ζ (A4.out ha);have A5:=ζ (fun W h=>by have h:=containsFunc_Opening _ _ _ _ 169 (aO o) (meetsO o) W (AO.out W h) eg_meets (fun W' _ q hq=>meets_any W' o q AZ.out (AN.out q hq));rw [ha]at h;exact h);clear ha HN A4 AN AO AZ;refine wp_region_held_drew (S:=(fun w'=>w'.cell? ⟨bo,0,none⟩=some (.int .u8 o.kind)/\w'.cell? ⟨bo,1,none⟩=some (.int .i64 o.at_)/\w'.cell? ⟨bo,2,none⟩=some (.int .i64 o.wide)/\w'.cell? ⟨bo,3,none⟩=some (.int .i64 o.fro)/\w'.cell? ⟨bo,4,none⟩=some (.int .i64 o.high)/\w'.rangeAt bx 0 (cWa ⟨nm,sh,len,some ⟨g0,o0,none⟩,ops.length,oc,ops⟩)/\w'.rangeAt bs 0 (cS s)/\w'.cell? ⟨bx,3,none⟩=some (.slice (some ⟨g0,o0,none⟩) ops.length oc)/\True)) (by kernel_rfl) ⟨hD.out.drew.c 2 0,hD.out.drew.c 2 1,hD.out.drew.c 2 2,hD.out.drew.c 2 3,hD.out.drew.c 2 4,hD.out.drew.range 0 rfl,hD.out.drew.range 1 rfl,hD.out.drew.c 0 3,trivial⟩ (fun hH=>?_);refine wpAnyH_geny (show Sy w _ [(bx,(cWa ⟨nm,sh,len,some ⟨g0,o0,none⟩,ops.length,oc,ops⟩).toArray,36),(bs,(cS s).toArray,39),(bo,#[.int .u8 o.kind,.int .i64 o.at_,.int .i64 o.wide,.int .i64 o.fro,.int .i64 o.high],104)] [] []from hD.out.drew) hH ?_;intro Af hc AF;have AK:=ζ hc;clear hc hH hD;refine tkA 0 rfl AF ?_;(try simp only [zP]);refine wpAnyH_take (i:=1) (oi:=⟨_,_,_,_,_,_⟩) (v:=U) rfl (by kernel_rfl) (by kernel_rfl) (by kernel_rfl) (fun _ _ _ h=>h) (yieldsIf_ld (by rfl) _ _ rfl bx 0 rfl (cWa ⟨nm,sh,len,some ⟨g0,o0,none⟩,ops.length,oc,ops⟩) _ (fun _ h=>h.2.2.2.2.2.1) Tryz.underlying36 rfl info_Wall U A1.out) AF ?_;(try simp only [zP]);refine wpAnyH_take (i:=2) (oi:=⟨_,_,_,_,_,_⟩) (v:=V) rfl (by kernel_rfl) (by kernel_rfl) (by kernel_rfl) (fun _ _ _ h=>h) (yieldsIf_ld (by rfl) _ _ rfl bs 0 rfl (cS s) _ (fun _ h=>h.2.2.2.2.2.2.1) Tryz.underlying39 rfl info_Sheet V A0.out) AF ?_;(try simp only [zP]);refine rdy1 3 rfl (fun Kq AE=>?_);go_simp;go_at_call 167;refine(AY.out _).mono ?_;rintro e wT ⟨rfl,hb⟩;(try go_wp2_with fail);refine stepZ AE (show Sy w _ [(bx,(cWa ⟨nm,sh,len,some ⟨g0,o0,none⟩,ops.length,oc,ops⟩).toArray,36),(bs,(cS s).toArray,39),(bo,#[.int .u8 o.kind,.int .i64 o.at_,.int .i64 o.wide,.int .i64 o.fro,.int .i64 o.high],104)] [] []from(AK.out.call hb)) (fun _ hX=>⟨hX.c 2 0,hX.c 2 1,hX.c 2 2,hX.c 2 3,hX.c 2 4,hX.range 0 rfl,hX.range 1 rfl,hX.c 0 3,trivial⟩) ?_;intro Ag AH AB;clear AE Kq AK hb AF;(try simp only [zP]);refine tkA 4 rfl AB ?_;(try simp only [zP]);refine tkA 5 rfl AB ?_;(try simp only [zP]);refine tkA 6 rfl AB ?_;(try simp only [zP]);refine tkA 7 rfl AB ?_;(try simp only [zP]);refine tkA 8 rfl AB ?_;(try simp only [zP]);refine tkA 9 rfl AB ?_;(try simp only [zP]);refine tkA 10 rfl AB ?_;(try simp only [zP]);refine tkA 11 rfl AB ?_;(try simp only [zP]);refine rdy1 12 rfl (fun Kq AE=>?_);go_simp;go_at_call 168;refine(A5.out _ AH.out.be).mono ?_;rintro e wT ⟨rfl,hb⟩;(try go_wp2_with fail);refine stepZ AE (show Sy w _ [(bx,(cWa ⟨nm,sh,len,some ⟨g0,o0,none⟩,ops.length,oc,ops⟩).toArray,36),(bs,(cS s).toArray,39),(bo,#[.int .u8 o.kind,.int .i64 o.at_,.int .i64 o.wide,.int .i64 o.fro,.int .i64 o.high],104)] [] []from(AH.out.call hb)) (fun _ hX=>⟨hX.c 2 0,hX.c 2 1,hX.c 2 2,hX.c 2 3,hX.c 2 4,hX.range 0 rfl,hX.range 1 rfl,hX.c 0 3,trivial⟩) ?_;intro Aj AR AS;clear AE Kq AH hb AB;(try simp only [zP]);refine tkA 13 rfl AS ?_;(try simp only [zP]);refine wpAnyH_done (by kernel_rfl) ?_ _;go_wp2;go_roundw
    case rel=>exact⟨k+1,by omega,by go_num,HB,ζ (AR.out.thin (List.Sublist.cons_cons _ (List.Sublist.cons_cons _ (List.nil_sublist _))) (List.Sublist.refl _))⟩
    case measure=>simp [intOf];omega
   ·have HB:=ζ (HN.out (.inr ha));have A5:=ζ (fun W h=>by have h:=containsFunc_Opening _ _ _ _ 169 (aO o) (meetsO o) W (AO.out W h) eg_meets (fun W' _ q hq=>meets_any W' o q AZ.out (AN.out q hq));rw [ha]at h;exact h);clear ha HN A4 AN AO AZ;refine wp_region_held_drew (S:=(fun w'=>w'.cell? ⟨bo,0,none⟩=some (.int .u8 o.kind)/\w'.cell? ⟨bo,1,none⟩=some (.int .i64 o.at_)/\w'.cell? ⟨bo,2,none⟩=some (.int .i64 o.wide)/\w'.cell? ⟨bo,3,none⟩=some (.int .i64 o.fro)/\w'.cell? ⟨bo,4,none⟩=some (.int .i64 o.high)/\w'.rangeAt bx 0 (cWa ⟨nm,sh,len,some ⟨g0,o0,none⟩,ops.length,oc,ops⟩)/\w'.rangeAt bs 0 (cS s)/\w'.cell? ⟨bx,3,none⟩=some (.slice (some ⟨g0,o0,none⟩) ops.length oc)/\True)) (by kernel_rfl) ⟨hD.out.drew.c 2 0,hD.out.drew.c 2 1,hD.out.drew.c 2 2,hD.out.drew.c 2 3,hD.out.drew.c 2 4,hD.out.drew.range 0 rfl,hD.out.drew.range 1 rfl,hD.out.drew.c 0 3,trivial⟩ (fun hH=>?_);refine wpAnyH_geny (show Sy w _ [(bx,(cWa ⟨nm,sh,len,some ⟨g0,o0,none⟩,ops.length,oc,ops⟩).toArray,36),(bs,(cS s).toArray,39),(bo,#[.int .u8 o.kind,.int .i64 o.at_,.int .i64 o.wide,.int .i64 o.fro,.int .i64 o.high],104)] [] []from hD.out.drew) hH ?_;intro Ak hc AG;have AL:=ζ hc;clear hc hH hD;refine tkA 0 rfl AG ?_;(try simp only [zP]);refine wpAnyH_take (i:=1) (oi:=⟨_,_,_,_,_,_⟩) (v:=U) rfl (by kernel_rfl) (by kernel_rfl) (by kernel_rfl) (fun _ _ _ h=>h) (yieldsIf_ld (by rfl) _ _ rfl bx 0 rfl (cWa ⟨nm,sh,len,some ⟨g0,o0,none⟩,ops.length,oc,ops⟩) _ (fun _ h=>h.2.2.2.2.2.1) Tryz.underlying36 rfl info_Wall U A1.out) AG ?_;(try simp only [zP]);refine wpAnyH_take (i:=2) (oi:=⟨_,_,_,_,_,_⟩) (v:=V) rfl (by kernel_rfl) (by kernel_rfl) (by kernel_rfl) (fun _ _ _ h=>h) (yieldsIf_ld (by rfl) _ _ rfl bs 0 rfl (cS s) _ (fun _ h=>h.2.2.2.2.2.2.1) Tryz.underlying39 rfl info_Sheet V A0.out) AG ?_;(try simp only [zP]);refine rdy1 3 rfl (fun Kq AE=>?_);go_simp;go_at_call 167;refine(AY.out _).mono ?_;rintro e wT ⟨rfl,hb⟩;(try go_wp2_with fail);refine stepZ AE (show Sy w _ [(bx,(cWa ⟨nm,sh,len,some ⟨g0,o0,none⟩,ops.length,oc,ops⟩).toArray,36),(bs,(cS s).toArray,39),(bo,#[.int .u8 o.kind,.int .i64 o.at_,.int .i64 o.wide,.int .i64 o.fro,.int .i64 o.high],104)] [] []from(AL.out.call hb)) (fun _ hX=>⟨hX.c 2 0,hX.c 2 1,hX.c 2 2,hX.c 2 3,hX.c 2 4,hX.range 0 rfl,hX.range 1 rfl,hX.c 0 3,trivial⟩) ?_;intro Al AI AC;clear AE Kq AL hb AG;(try simp only [zP]);refine tkA 4 rfl AC ?_;(try simp only [zP]);refine tkA 5 rfl AC ?_;(try simp only [zP]);refine tkA 6 rfl AC ?_;(try simp only [zP]);refine tkA 7 rfl AC ?_;(try simp only [zP]);refine tkA 8 rfl AC ?_;(try simp only [zP]);refine tkA 9 rfl AC ?_;(try simp only [zP]);refine tkA 10 rfl AC ?_;(try simp only [zP]);refine tkA 11 rfl AC ?_;(try simp only [zP]);refine rdy1 12 rfl (fun Kq AE=>?_);go_simp;go_at_call 168;refine(A5.out _ AI.out.be).mono ?_;rintro e wT ⟨rfl,hb⟩;(try go_wp2_with fail);refine stepZ AE (show Sy w _ [(bx,(cWa ⟨nm,sh,len,some ⟨g0,o0,none⟩,ops.length,oc,ops⟩).toArray,36),(bs,(cS s).toArray,39),(bo,#[.int .u8 o.kind,.int .i64 o.at_,.int .i64 o.wide,.int .i64 o.fro,.int .i64 o.high],104)] [] []from(AI.out.call hb)) (fun _ hX=>⟨hX.c 2 0,hX.c 2 1,hX.c 2 2,hX.c 2 3,hX.c 2 4,hX.range 0 rfl,hX.range 1 rfl,hX.c 0 3,trivial⟩) ?_;intro Am AT AU;clear AE Kq AI hb AC;(try simp only [zP]);refine tkA 13 rfl AU ?_;(try simp only [zP]);refine wpAnyH_done (by kernel_rfl) ?_ _;go_wp2;go_ret;exact⟨ret_bool HB.out.symm,AT.out.be⟩
  ·have hkk:¬ (k:Int) < (ops.length:Int):=(by omega);have HB:=ζ (Ab.out (opens_yes (fun i hi=>HI.out i hi (by omega))));go_wp2;go_ret;exact⟨ret_bool HB.out.symm,hC.out.be⟩
end
def isS (nm:ByteArray) (s:Sht):Bool:=s.name.toList==nm.toList
def isW (nm:ByteArray) (x:Wal):Bool:=x.name.toList==nm.toList
def zC:List Value:=[.string ⟨#[]⟩,.int .i64 0,.int .i64 0,.int .i64 0,.int .i64 0,.slice none 0 0,.int .i64 0,.int .i64 0,.int .i64 0,.int .i64 0,.int .i64 0,.int .i64 0,.int .i64 0,.int .u8 0,.int .i64 0,.int .i64 0,.int .i64 0,.int .i64 0,.int .i64 0,.int .i64 0]
def zShe:Value:= .agg zC.toArray
theorem zero_Sheet:(Tryz.prog.info? 39).map (·.zero)=some (some zShe):=by kernel_rfl
def theS (nm:ByteArray) (l:List Sht):List Value×Bool:=match l.find? (isS nm)with
 | some s=>(cS s,true)
 | none=>(zC,false)
theorem find_idx {α:Type} {p:α->Bool} {l:List α} :(idxB p l= -1/\l.find? p=none)\/∃k,∃h:k < l.length,idxB p l=k/\l.find? p=some l[k]/\p l[k]=true:=by
 rcases idxB_cases p l with ⟨h1,h2⟩ | ⟨k,hk,h1,h2,h3⟩
 ·exact .inl ⟨h1,List.find?_eq_none.2 fun x hx=>by obtain ⟨i,hi,rfl⟩:=List.getElem_of_mem hx;rw [h2 i hi];simp⟩
 ·refine .inr ⟨k,hk,h1,?_,h2⟩;rw [List.find?_eq_some_iff_append];exact⟨h2,l.take k,l.drop (k+1),by rw [List.getElem_cons_drop,List.take_append_drop],fun x hx=>by
   obtain ⟨i,hi,rfl⟩:=List.mem_take_iff_getElem.1 hx;simp [h3 i (by omega) (by omega)]⟩
theorem cS_one (s:Sht):(cS s).toArray.all (·.oneCell')=true:=by simp [cS,Value.oneCell']
theorem zC_one:zC.toArray.all (·.oneCell')=true:=by simp [zC,Value.oneCell']
section
variable (w:World)
theorem sheet1_any (s:Sht) (bn:Nat) (nm:ByteArray) (hb:w.cell? ⟨bn,0,none⟩=some (.string nm)) (hl:bn < w.heap.size):Calls Tryz.prog 136 #[aS s,.pointer (some ⟨bn,0,none⟩)] w (Gives (.bool (isS nm s)) w):=by
 obtain ⟨V,hV⟩:∃V,aS s=V:=⟨_,rfl⟩
 have HV:=ζ (show V.cells=(cS s).toArray by rw [<-hV];rfl);rw [hV];clear hV;have HB:=ζ (fun W (h:Below w.heap.size w W)=>(h.cell (p:=⟨bn,0,none⟩) hl).trans hb);clear hb;go_enter Tryz.func136,Tryz.ntmps136;go_upto_region 1 with (refine wpList_bx (o:=⟨some 2,_,_,_,_,_⟩) rfl (Sy.enter w) _ _ rfl (cS s).toArray HV.out ?_;intro b V2 h2;have hC:=ζ h2;clear h2)
 have x0:V2.cell? ⟨b,0,none⟩=some (.string s.name):=hC.out.c 0 0;have y0:=HB.out _ hC.out.be;go_wp2;go_ret;exact⟨rfl,hC.out.be⟩
theorem wall1_any (x:Wal) (bn:Nat) (nm:ByteArray) (hb:w.cell? ⟨bn,0,none⟩=some (.string nm)) (hl:bn < w.heap.size):Calls Tryz.prog 134 #[aW x,.pointer (some ⟨bn,0,none⟩)] w (Gives (.bool (isW nm x)) w):=by
 obtain ⟨V,hV⟩:∃V,aW x=V:=⟨_,rfl⟩
 have HV:=ζ (show V.cells=(cWa x).toArray by rw [<-hV];rfl);rw [hV];clear hV;have HB:=ζ (fun W (h:Below w.heap.size w W)=>(h.cell (p:=⟨bn,0,none⟩) hl).trans hb);clear hb;go_enter Tryz.func134,Tryz.ntmps134;go_upto_region 1 with (refine wpList_bx (o:=⟨some 2,_,_,_,_,_⟩) rfl (Sy.enter w) _ _ rfl (cWa x).toArray HV.out ?_;intro b V2 h2;have hC:=ζ h2;clear h2)
 have x0:V2.cell? ⟨b,0,none⟩=some (.string x.name):=hC.out.c 0 0;have y0:=HB.out _ hC.out.be;go_wp2;go_ret;exact⟨rfl,hC.out.be⟩
theorem eg_sheet1:EG 136:=enters_of Tryz.func136 (by kernel_rfl) rfl
theorem eg_wall1:EG 134:=enters_of Tryz.func134 (by kernel_rfl) rfl
def RetTheS (w:World) (nm:ByteArray) (l:List Sht) (e:Ending) (w':World):Prop:=e= .returned (.tuple #[.agg (theS nm l).1.toArray,.bool (theS nm l).2])/\Below w.heap.size w w'
theorem pwall_any (sl:Value) (a:OA) (n c:Nat) (l:List Wal) (nm:ByteArray) (hs:Sx 4 w a n c (LWa l)):Calls Tryz.prog 81 #[.agg #[sl,.slice a n c],.string nm] w (Gives (.int .i64 (idxB (isW nm) l)) w):=by
 have HS:=ζ hs;clear hs;go_enter Tryz.func81,Tryz.ntmps81;have hC:=ζ (((Sy.enter w).al w.heap.size #[sl,.slice a n c] 32 rfl).al (w.heap.size+1) #[.string nm] 9 (by simp));have HI:=ζ (fun W bn h0 h1 h2=>indexFunc_Wall a n c l 134 #[.pointer (some ⟨bn,0,none⟩)] (isW nm) W h0 eg_wall1 (fun W' hW x _=>wall1_any W' x bn nm ((hW.cell (p:=⟨bn,0,none⟩) h1).trans h2) (Nat.lt_of_lt_of_le h1 hW.size)));generalize idxB (isW nm) l=r at*;go_wp2_with fail
 refine(HI.out _ _ (hC.out.sx HS.out) (hC.out.lt 1 rfl) (hC.out.c 1 0)).mono ?_;rintro e w3 ⟨rfl,hb⟩;have hD:=ζ (hC.out.call hb);clear hb hC;go_wp2;go_ret;exact⟨rfl,hD.out.be⟩
theorem psheet_any (a:OA) (n c:Nat) (l:List Sht) (wl:Value) (nm:ByteArray) (hs:Sx 20 w a n c (LS l)):Calls Tryz.prog 82 #[.agg #[.slice a n c,wl],.string nm] w (RetTheS w nm l):=by
 obtain rfl:=hs.nS;have hcap:=hs.cap;unfold maxLen at hcap;have HS:=ζ hs;clear hs;unfold RetTheS;have HI:=ζ (fun W bn h0 h1 h2=>indexFunc_Sheet a l.length c l 136 #[.pointer (some ⟨bn,0,none⟩)] (isS nm) W h0 eg_sheet1 (fun W' hW x _=>sheet1_any W' x bn nm ((hW.cell (p:=⟨bn,0,none⟩) h1).trans h2) (Nat.lt_of_lt_of_le h1 hW.size)));rcases find_idx (p:=isS nm) (l:=l)with ⟨h1,h2⟩ | ⟨k,hk,h1,h2,_⟩
 ·have HT:=ζ (show theS nm l=(zC,false)by unfold theS;rw [h2]);rw [h1]at HI;clear h1 h2;go_enter Tryz.func82,Tryz.ntmps82;have AA:=ζ (((Sy.enter w).al w.heap.size #[.slice a l.length c,wl] 32 rfl).al (w.heap.size+1) #[.string nm] 9 (by simp));go_upto_region 1 with (refine wpList_al (o:=⟨some 4,_,_,_,_,_⟩) rfl AA.out _ rfl zShe zero_Sheet ?_;intro b V2 h2;have hC:=ζ h2;clear h2 AA)
  have x0:V2.cell? ⟨w.heap.size,0,none⟩=some (.slice a l.length c):=hC.out.c 0 0;go_wp2_with fail
  refine(HI.out _ _ (hC.out.sx HS.out) (hC.out.lt 1 rfl) (hC.out.c 1 0)).mono ?_;rintro e w3 ⟨rfl,hb⟩;have hD:=ζ (hC.out.call hb);clear hb hC x0;go_upto_region 3 with fail
  go_wp2_with (refine wpList_st (o:=⟨none,_,_,_,_,_⟩) rfl hD.out 2 rfl _ _ _ rfl rfl zC.toArray rfl info_Sheet rfl zC_one ?_;intro V4 h4;have hE:=ζ h4;clear h4 hD)
  refine bodyPost_ret (results_cell_tmp_row Tryz.results82 _ _ b 39 zC.toArray (0,0) _ rfl (hE.out.at_ 2 rfl).2 Tryz.underlying39 rfl info_Sheet) rfl ?_;rw [HT.out];exact⟨rfl,hE.out.be⟩
 ·have HT:=ζ (show theS nm l=(cS l[k],true)by unfold theS;rw [h2]);rw [h1]at HI;clear h1 h2;obtain ⟨g0,o0,rfl⟩:=HS.out.addr (by omega);have HR:=ζ (fun W (hW:Below w.heap.size w W)=>(HS.out.below hW).range (f:=cS) (fun _=>rfl) hk);have i0:(0:Int)<=(k:Int):=by omega
  have i1:(k:Int) < (l.length:Int):=by omega
  generalize l[k]=s at*;obtain ⟨V,hV⟩:∃V,Value.agg (cS s).toArray=V:=⟨_,rfl⟩
  have HV:=ζ hV;clear hV;go_enter Tryz.func82,Tryz.ntmps82;have AA:=ζ (((Sy.enter w).al w.heap.size #[.slice (some ⟨g0,o0,none⟩) l.length c,wl] 32 rfl).al (w.heap.size+1) #[.string nm] 9 (by simp));go_upto_region 1 with (refine wpList_al (o:=⟨some 4,_,_,_,_,_⟩) rfl AA.out _ rfl zShe zero_Sheet ?_;intro b V2 h2;have hC:=ζ h2;clear h2 AA)
  have x0:V2.cell? ⟨w.heap.size,0,none⟩=some (.slice (some ⟨g0,o0,none⟩) l.length c):=hC.out.c 0 0;go_wp2_with fail
  refine(HI.out _ _ (hC.out.sx HS.out) (hC.out.lt 1 rfl) (hC.out.c 1 0)).mono ?_;rintro e w3 ⟨rfl,hb⟩;have hD:=ζ (hC.out.call hb);clear hb hC x0;have x0:w3.cell? ⟨w.heap.size,0,none⟩=some (.slice (some ⟨g0,o0,none⟩) l.length c):=hD.out.c 0 0;go_upto_region 4 with fail
  go_wp2_with (first | (refine wpList_ld (o:=⟨some 18,_,_,_,_,_⟩) rfl _ _ rfl _ _ rfl (cS s) _ (HR.out _ hD.out.be) Tryz.underlying39 rfl info_Sheet V HV.out ?_) | (refine wpList_st (o:=⟨none,_,_,_,_,_⟩) rfl hD.out 2 rfl _ _ _ rfl rfl (cS s).toArray HV.out.symm info_Sheet rfl (cS_one s) ?_;intro V4 h4;have hE:=ζ h4;clear h4 hD) | fail)
  refine bodyPost_ret (results_cell_tmp_row Tryz.results82 _ _ b 39 (cS s).toArray (0,0) _ rfl (hE.out.at_ 2 rfl).2 Tryz.underlying39 rfl info_Sheet) rfl ?_;rw [HT.out];exact⟨rfl,hE.out.be⟩
end
end Go.Proofs.YtjpojeapdgjbhaaGreatDoor

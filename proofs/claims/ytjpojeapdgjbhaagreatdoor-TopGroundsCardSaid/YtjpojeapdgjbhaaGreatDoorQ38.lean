/- part -/
import Derived.Test.YtjpojeapdgjbhaaGreatDoorRows
import Derived.Test.YtjpojeapdgjbhaaGreatDoorQ2
import Derived.Lib.SmallJoins
import Derived.Lay
import Derived.LaidOnce
import Derived.SevenTiedAt
set_option maxRecDepth 100000
set_option maxHeartbeats 1000000
namespace Go.Proofs.YtjpojeapdgjbhaaGreatDoor
open Go.ChangeShapes Go.WideShapes Go.RowKit Go.Joins
theorem own:ownKnob Tryz.prog.godebug=none:=by kernel_rfl
section
variable {H:Type} {enc:TypeId×Value->H} {W:World} {base:Nat}
theorem int_wf {k:IntKind} {n:Int} (h:(Lit.int k n).wf=true):k.min<=n/\n<=k.max:=by simpa [Lit.wf] using h
theorem i64_wf {n:Int} (h:(Lit.int .i64 n).wf=true): -9223372036854775808<=n/\n < 9223372036854775808:=by
 have:=int_wf h;simp [IntKind.min,IntKind.max,IntKind.signed,IntKind.bits]at this;omega
variable {P:Program} {base':Nat} {spare:Nat->Bool} {held:Bool} {args:Array Value} {ds:List (DataW H)} {ps:List MemPlace} {t1 t2 t3 t4 t5:TypeId}
theorem open_5 (h:DataW.TrodAll enc P W base' spare held [t1,t2,t3,t4,t5] args.toList ds ps):
  ∃v1 v2 v3 v4 v5 d1 d2 d3 d4 d5 p1 p2 p3 p4 p5,args=#[v1,v2,v3,v4,v5]/\ds= [d1,d2,d3,d4,d5]/\ps=p1++p2++p3++p4++p5/\DataW.Trod enc P W base' spare held t1 v1 d1 p1/\DataW.Trod enc P W base' spare held t2 v2 d2 p2/\DataW.Trod enc P W base' spare held t3 v3 d3 p3/\DataW.Trod enc P W base' spare held t4 v4 d4 p4/\DataW.Trod enc P W base' spare held t5 v5 d5 p5:=by
 obtain ⟨v,vs,d,ds',p,q,hargs,rfl,rfl,hd,hrest⟩:=trodAll_cons h;obtain ⟨v',vs',d',ds'',p',q',rfl,rfl,rfl,hd',hrest'⟩:=trodAll_cons hrest;obtain ⟨v'',vs'',d'',ds''',p'',q'',rfl,rfl,rfl,hd'',hrest''⟩:=trodAll_cons hrest';obtain ⟨v3,vs3,d3,ds3,p3,q3,rfl,rfl,rfl,hd3,hrest3⟩:=trodAll_cons hrest'';obtain ⟨v4,vs4,d4,ds4,p4,q4,rfl,rfl,rfl,hd4,hrest4⟩:=trodAll_cons hrest3;obtain ⟨rfl,rfl,rfl⟩:=trodAll_nil hrest4;exact⟨v,v',v'',v3,v4,d,d',d'',d3,d4,p,p',p'',p3,p4,by cases args;simp_all,rfl,by simp,hd,hd',hd'',hd3,hd4⟩
end
open Go.Deep
section
variable {H:Type} {enc:TypeId×Value->H} {P:Program} {w:World} {base:Nat} {spare:Nat->Bool} {held:Bool}
theorem open_slice_fields {t e:TypeId} {fs:Array Field} {fuel:Nat} {cs:List Value} {x:DataW H×List MemPlace} (ht:P.underlying t=some (.slice e)) (he:P.underlying e=some (.struct fs))
  (hone:oneCellFields P fs=true) (hC:P.cellsOf e=fs.size) (h:DataW.trod enc P w base spare held fuel t cs=some x):
  (cs= [.slice none 0 0]/\x=(.nil,[]))\/
  ∃ (a:Addr) (len cap m:Nat) (D:Nat->DataW H) (Pl:Nat->List MemPlace),cs= [.slice (some a) len cap]/\base<=a.block/\len<=cap/\cap<=maxLen/\m=(if spare a.block then cap else len)/\
    x=(.slice ((List.range len).map D) ((List.range (m - len)).map fun j=>D (len+j)),MemPlace.row a (m*fs.size)++(List.range m).flatMap Pl)/\
    ∀i,i < m->∃ (ys:List (DataW H×List MemPlace)) (n:Nat),D i= .agg (ys.map (·.1))/\Pl i=ys.flatMap (·.2)/\ys.length=fs.size/\
     ∀ (j:Nat) (f:Field),fs[j]? =some f->∃ (v:Value) (y:DataW H×List MemPlace),w.cell? (a.add (i*fs.size+j))=some v/\ys[j]? =some y/\DataW.trod enc P w base spare held n f.type [v]=some y:=by
 rcases open_slice ht h with h0 | ⟨a,len,cap,m,n,D,Pl,hcs,hb,hl,hm,hmm,hx,hi⟩
 ·exact .inl h0
 ·refine .inr ⟨a,len,cap,m,D,Pl,hcs,hb,hl,hm,hmm,by rw [hC]at hx;exact hx,fun i him=>?_⟩;obtain ⟨cs',hc,ht'⟩:=hi i him;rw [hC]at hc;obtain ⟨ys,n',hn',hy,hlen,hyl,hf⟩:=DataW.trod_struct he ht';obtain ⟨_,hcl,hat⟩:=World.cells?_some hc;simp only [Prod.mk.injEq]at hy;refine⟨ys,n',hy.1,hy.2,hyl,fun j f hj=>?_⟩;obtain ⟨ho,hk⟩:=hone_of hone j f hj;have hjl:j < fs.size:=(Array.getElem?_eq_some_iff.1 hj).1;have hcell:=hat j hjl;have hv:cs'[j]? =some (cs'[j]'(by omega)):=List.getElem?_eq_getElem (by omega);have h1:=hf j f hj;rw [ho,hk]at h1;have hone':(cs'.drop j).take 1= [cs'[j]'(by omega)]:=by
   rw [List.drop_eq_getElem_cons (by omega)];rfl
  rw [hone']at h1;have hys:ys[j]? =some (ys[j]'(by omega)):=List.getElem?_eq_getElem (by omega);refine⟨_,_,?_,hys,h1.trans hys⟩;rw [<-Go.Deep.add_add,hcell,hv]
end
section
variable {H:Type} {enc:TypeId×Value->H} {W:World} {base:Nat}
theorem laidOut:laidOutB Tryz.prog=true:=by kernel_rfl
theorem open_int_ {v:Value} {d:DataW H} {p:List MemPlace} (hv:Value.okWide Tryz.prog W .any base 3 v) (h:DataW.Trod enc Tryz.prog W 0 (fun _=>true) true 3 v d p):
  ∃A:Int,v= .int .i64 A/\d= .lit (.int .i64 A)/\p= []/\(-9223372036854775808<=A/\A < 9223372036854775808)/\
   (∀ (W':World) (sp:Nat->Bool),DataW.Trod enc Tryz.prog W' 0 sp true 3 v d []):=by
 obtain ⟨a,rfl,rfl,rfl,wa⟩:=open_int Tryz.underlying3 hv h;exact⟨a,rfl,rfl,rfl,i64_wf wa,fun W' sp=>shut_int Tryz.underlying3 wa⟩
end
open Go.Deep Go.Joins
section
variable {H:Type} {enc:TypeId×Value->H} {W:World} {base:Nat}
theorem choose_row {α:Type} [Inhabited α] {n:Nat} {R:Nat->α->Prop} (h:∀i,i < n->∃x,R i x):∃l:List α,l.length=n/\∀i (hi:i < l.length),R i l[i]:=by
 induction n with
 | zero=>exact⟨[],rfl,fun i hi=>absurd hi (Nat.not_lt_zero i)⟩
 | succ n ih=>
   obtain ⟨l,hl,hR⟩:=ih fun i hi=>h i (by omega);obtain ⟨x,hx⟩:=h n (by omega);refine⟨l++ [x],by rw [List.length_append,hl];rfl,fun i hi=>?_⟩;rw [List.getElem_append]
   split
   ·exact hR i _
   ·rw [List.length_append,List.length_singleton]at hi;have e:i=n:=(by omega);subst e;simpa [hl] using hx
theorem open_Pts {v:Value} {d:DataW H} {p:List MemPlace} (hv:Value.okWide Tryz.prog W .any base 59 v) (h:DataW.Trod enc Tryz.prog W 0 (fun _=>true) true 59 v d p):
  ∃ (a:Option Addr) (l:List (Int×Int)) (c:Nat),v= .slice a l.length c/\Sx 2 W a l.length c (L2 l)/\∀x∈l,(-9223372036854775808<=x.1/\x.1 < 9223372036854775808)/\(-9223372036854775808<=x.2/\x.2 < 9223372036854775808):=by
 obtain ⟨a0,len,cap,rfl⟩:=okWide_slice Tryz.underlying59 hv;obtain ⟨fuel,hf⟩:=h;rcases open_slice_fields Tryz.underlying59 Tryz.underlying117 (by kernel_rfl) (by kernel_rfl) hf with ⟨hcs,hx⟩ | ⟨a,len',cap',m,D,Pl,hcs,hb,hl,hm,hmm,hx,hi⟩
 ·simp [Value.cells]at hcs;obtain ⟨rfl,rfl,rfl⟩:=hcs;exact⟨none,[],0,rfl,Sx.nil,fun x hx=>by cases hx⟩
 ·simp [Value.cells]at hcs;obtain ⟨rfl,rfl,rfl⟩:=hcs;have key:∀k,k < len->∃x:(Int×Int),(W.cell? (a.add (k*2+0))=some (.int .i64 x.1)/\W.cell? (a.add (k*2+1))=some (.int .i64 x.2))/\(-9223372036854775808<=x.1/\x.1 < 9223372036854775808)/\(-9223372036854775808<=x.2/\x.2 < 9223372036854775808):=by
   intro k hk;obtain ⟨ys,n,h1,h2,h3,h4⟩:=hi k (by simp at hmm;omega);obtain ⟨v0,y0,c0,_,t0⟩:=h4 0 _ rfl;obtain ⟨z0,e0,_,w0⟩:=DataW.trod_int Tryz.underlying3 t0;simp at e0;subst e0;obtain ⟨v1,y1,c1,_,t1⟩:=h4 1 _ rfl;obtain ⟨z1,e1,_,w1⟩:=DataW.trod_int Tryz.underlying3 t1;simp at e1;subst e1;exact⟨(z0,z1),⟨c0,c1⟩,i64_wf w0,i64_wf w1⟩
  obtain ⟨l,hll,hR⟩:=choose_row key;subst hll;refine⟨some a,l,cap,rfl,⟨L2_len l,hl,hm,fun hn=>?_⟩,fun x hx=>?_⟩
  ·obtain ⟨g,o,sp⟩:=a;have h0:=(hR 0 hn).1.1;have hspot:sp=none:=(by simpa [Addr.add] using World.cell?_spot h0);subst hspot;refine⟨g,o,rfl,by simpa [Addr.add] using World.block_lt_of_cell? W _ h0,fun k u hk=>?_⟩;have hkl:=(List.getElem?_eq_some_iff.1 hk).1;rw [L2_len]at hkl;have hq:k / 2 < l.length:=(by omega);have hr:k % 2 < 2:=Nat.mod_lt _ (by decide);have hke:k / 2*2+k % 2=k:=(by omega);have hcell:=(hR (k / 2) hq).1;rw [<-hke]at hk;unfold L2 at hk;rw [flat_get (f:=c2) (k:=2) (fun _=>rfl) l (k / 2) (k % 2) hq hr]at hk;have hadd:∀j,(⟨g,o,none⟩:Addr).add j=⟨g,o+j,none⟩:=fun j=>by unfold Addr.add;split<;>simp_all
   simp only [hadd]at hcell;generalize l[k / 2]=x at*;rw [<-hke];generalize k / 2=q at*;generalize k % 2=r at*
   match r,hr with
   | 0,_=>exact hcell.1.trans hk
   | 1,_=>exact hcell.2.trans hk
  ·obtain ⟨i,hi,rfl⟩:=List.getElem_of_mem hx;exact(hR i hi).2
theorem u16x_wf {n:Int} (h:(Lit.int .u16 n).wf=true):0<=n/\n < 65536:=by
 have:=int_wf h;simp [IntKind.min,IntKind.max,IntKind.signed,IntKind.bits]at this;omega
theorem open_u16 {v:Value} {d:DataW H} {p:List MemPlace} (hv:Value.okWide Tryz.prog W .any base 60 v) (h:DataW.Trod enc Tryz.prog W 0 (fun _=>true) true 60 v d p):
  ∃A:Int,v= .int .u16 A/\d= .lit (.int .u16 A)/\p= []/\(0<=A/\A < 65536)/\
   (∀ (W':World) (sp:Nat->Bool),DataW.Trod enc Tryz.prog W' 0 sp true 60 v d []):=by
 obtain ⟨a,rfl,rfl,rfl,wa⟩:=open_int Tryz.underlying60 hv h;exact⟨a,rfl,rfl,rfl,u16x_wf wa,fun W' sp=>shut_int Tryz.underlying60 wa⟩
theorem u8x_wf {n:Int} (h:(Lit.int .u8 n).wf=true):0<=n/\n < 256:=by
 have:=int_wf h;simp [IntKind.min,IntKind.max,IntKind.signed,IntKind.bits]at this;omega
theorem open_u8 {v:Value} {d:DataW H} {p:List MemPlace} (hv:Value.okWide Tryz.prog W .any base 5 v) (h:DataW.Trod enc Tryz.prog W 0 (fun _=>true) true 5 v d p):
  ∃A:Int,v= .int .u8 A/\d= .lit (.int .u8 A)/\p= []/\(0<=A/\A < 256)/\
   (∀ (W':World) (sp:Nat->Bool),DataW.Trod enc Tryz.prog W' 0 sp true 5 v d []):=by
 obtain ⟨a,rfl,rfl,rfl,wa⟩:=open_int Tryz.underlying5 hv h;exact⟨a,rfl,rfl,rfl,u8x_wf wa,fun W' sp=>shut_int Tryz.underlying5 wa⟩
end
end Go.Proofs.YtjpojeapdgjbhaaGreatDoor

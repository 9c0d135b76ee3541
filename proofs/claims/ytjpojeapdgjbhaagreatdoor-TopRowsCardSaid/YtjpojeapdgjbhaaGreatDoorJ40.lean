/- part -/
import Derived.Test.YtjpojeapdgjbhaaGreatDoorJ39
import Derived.Test.YtjpojeapdgjbhaaGreatDoorJ13
set_option maxRecDepth 100000
set_option maxHeartbeats 2000000
namespace Go.Proofs.YtjpojeapdgjbhaaGreatDoor
open Go.ChangeShapes Go.WideShapes Go.RowKit Go.Deep Go.Joins
instance:Inhabited Opn:=⟨⟨0,0,0,0,0⟩⟩
instance:Inhabited Sht:=⟨⟨⟨#[]⟩,0,0,0,0,none,0,0,[],0,0,0,0,0,0,0,0,0,0,0,0,0,0⟩⟩
instance:Inhabited Wal:=⟨⟨⟨#[]⟩,⟨#[]⟩,0,none,0,0,[]⟩⟩
section
variable {H:Type} {enc:TypeId×Value->H} {W:World} {base:Nat}
theorem row_Ints {v:Value} {fuel:Nat} {x:DataW H×List MemPlace} (hf:DataW.trod enc Tryz.prog W 0 (fun _=>true) true fuel 37 [v]=some x):
  ∃ (a:Option Addr) (l:List Int) (c:Nat),v= .slice a l.length c/\Sx 1 W a l.length c (L1 l):=by
 rcases open_slice Tryz.underlying37 hf with ⟨hcs,hx⟩ | ⟨a,len,cap,m,n,D,Pl,hcs,hb,hl,hm,hmm,hx,hi⟩
 ·simp at hcs;subst hcs;exact⟨none,[],0,rfl,Sx.nil⟩
 ·simp at hcs;subst hcs;have hone:Tryz.prog.cellsOf 3=1:=by kernel_rfl
  have key:∀k,k < len->∃x:Int,W.cell? (a.add k)=some (.int .i64 x):=by
   intro k hk;obtain ⟨cs',hc,ht'⟩:=hi k (by simp at hmm;omega);rw [hone]at hc;obtain ⟨z,e,_,w⟩:=DataW.trod_int Tryz.underlying3 ht';subst e;obtain ⟨_,_,hat⟩:=World.cells?_some hc;have h0:=hat 0 (by omega);refine⟨z,?_⟩;rw [Nat.mul_one]at h0;have ha:(a.add k).add 0=a.add k:=(by unfold Addr.add;rw [if_pos rfl]);rw [ha]at h0;simpa using h0
  obtain ⟨l,hll,hR⟩:=choose_row key;subst hll;refine⟨some a,l,cap,rfl,⟨by rw [L1_len,Nat.mul_one],hl,hm,fun hn=>?_⟩⟩;obtain ⟨g,o,sp⟩:=a;have h0:=hR 0 hn;have hspot:sp=none:=by simpa [Addr.add] using World.cell?_spot h0
  subst hspot;refine⟨g,o,rfl,by simpa [Addr.add] using World.block_lt_of_cell? W _ h0,fun k u hk=>?_⟩;have hkl:=(List.getElem?_eq_some_iff.1 hk).1;rw [L1_len]at hkl;have hadd:∀j,(⟨g,o,none⟩:Addr).add j=⟨g,o+j,none⟩:=fun j=>by unfold Addr.add;split<;>simp_all
  have hcell:=hR k hkl;rw [hadd]at hcell;rw [L1_get l k hkl]at hk;exact hcell.trans hk
theorem u8y_wf {n:Int} (h:(Lit.int .u8 n).wf=true):0<=n/\n<=255:=by
 have:=int_wf h;simp [IntKind.min,IntKind.max,IntKind.signed,IntKind.bits]at this;omega
theorem row_Openings {v:Value} {fuel:Nat} {x:DataW H×List MemPlace} (hf:DataW.trod enc Tryz.prog W 0 (fun _=>true) true fuel 91 [v]=some x):
  ∃ (a:Option Addr) (l:List Opn) (c:Nat),v= .slice a l.length c/\Sx 5 W a l.length c (LO l)/\∀x∈l,(0<=x.kind/\x.kind<=255):=by
 rcases open_slice_fields Tryz.underlying91 Tryz.underlying163 (by kernel_rfl) (by kernel_rfl) hf with ⟨hcs,hx⟩ | ⟨a,len,cap,m,D,Pl,hcs,hb,hl,hm,hmm,hx,hi⟩
 ·simp at hcs;subst hcs;exact⟨none,[],0,rfl,Sx.nil,fun x hx=>by cases hx⟩
 ·simp at hcs;subst hcs;have key:∀k,k < len->∃x:Opn,(W.cell? (a.add (k*5+0))=some (.int .u8 x.kind)/\W.cell? (a.add (k*5+1))=some (.int .i64 x.at_)/\W.cell? (a.add (k*5+2))=some (.int .i64 x.wide)/\W.cell? (a.add (k*5+3))=some (.int .i64 x.fro)/\W.cell? (a.add (k*5+4))=some (.int .i64 x.high))/\(0<=x.kind/\x.kind<=255):=by
   intro k hk;obtain ⟨ys,n,h1,h2,h3,h4⟩:=hi k (by simp at hmm;omega);obtain ⟨v0,y0,c0,_,t0⟩:=h4 0 _ rfl;obtain ⟨z0,e0,_,w0⟩:=DataW.trod_int Tryz.underlying5 t0;simp at e0;subst e0;obtain ⟨v1,y1,c1,_,t1⟩:=h4 1 _ rfl;obtain ⟨z1,e1,_,w1⟩:=DataW.trod_int Tryz.underlying3 t1;simp at e1;subst e1;obtain ⟨v2,y2,c2,_,t2⟩:=h4 2 _ rfl;obtain ⟨z2,e2,_,w2⟩:=DataW.trod_int Tryz.underlying3 t2;simp at e2;subst e2;obtain ⟨v3,y3,c3,_,t3⟩:=h4 3 _ rfl;obtain ⟨z3,e3,_,w3⟩:=DataW.trod_int Tryz.underlying3 t3;simp at e3;subst e3;obtain ⟨v4,y4,c4,_,t4⟩:=h4 4 _ rfl;obtain ⟨z4,e4,_,w4⟩:=DataW.trod_int Tryz.underlying3 t4;simp at e4;subst e4;exact⟨{ kind:=z0,at_:=z1,wide:=z2,fro:=z3,high:=z4 },⟨c0,c1,c2,c3,c4⟩,u8y_wf w0⟩
  obtain ⟨l,hll,hR⟩:=choose_row key;subst hll;refine⟨some a,l,cap,rfl,⟨LO_len l,hl,hm,fun hn=>?_⟩,fun x hx=>?_⟩
  ·obtain ⟨g,o,sp⟩:=a;have h0:=(hR 0 hn).1.1;have hspot:sp=none:=(by simpa [Addr.add] using World.cell?_spot h0);subst hspot;refine⟨g,o,rfl,by simpa [Addr.add] using World.block_lt_of_cell? W _ h0,fun k u hk=>?_⟩;have hkl:=(List.getElem?_eq_some_iff.1 hk).1;rw [LO_len]at hkl;have hq:k / 5 < l.length:=(by omega);have hr:k % 5 < 5:=Nat.mod_lt _ (by decide);have hke:k / 5*5+k % 5=k:=(by omega);have hcell:=(hR (k / 5) hq).1;rw [<-hke]at hk;unfold LO at hk;rw [flat_get (f:=cO) (k:=5) (fun _=>rfl) l (k / 5) (k % 5) hq hr]at hk;have hadd:∀j,(⟨g,o,none⟩:Addr).add j=⟨g,o+j,none⟩:=fun j=>by unfold Addr.add;split<;>simp_all
   simp only [hadd]at hcell;generalize l[k / 5]=x at*;rw [<-hke];generalize k / 5=q at*;generalize k % 5=r at*
   match r,hr with
   | 0,_=>exact hcell.1.trans hk
   | 1,_=>exact hcell.2.1.trans hk
   | 2,_=>exact hcell.2.2.1.trans hk
   | 3,_=>exact hcell.2.2.2.1.trans hk
   | 4,_=>exact hcell.2.2.2.2.trans hk
  ·obtain ⟨i,hi,rfl⟩:=List.getElem_of_mem hx;exact(hR i hi).2
theorem row_Sheets {v:Value} {fuel:Nat} {x:DataW H×List MemPlace} (hf:DataW.trod enc Tryz.prog W 0 (fun _=>true) true fuel 22 [v]=some x):
  ∃ (a:Option Addr) (l:List Sht) (c:Nat),v= .slice a l.length c/\Sx 20 W a l.length c (LS l)/\∀x∈l,Sx 1 W x.ha x.hn x.hc (L1 x.hs)/\x.name.size<=maxLen/\0<=x.cope:=by
 rcases open_slice_fields Tryz.underlying22 Tryz.underlying94 (by kernel_rfl) (by kernel_rfl) hf with ⟨hcs,hx⟩ | ⟨a,len,cap,m,D,Pl,hcs,hb,hl,hm,hmm,hx,hi⟩
 ·simp at hcs;subst hcs;exact⟨none,[],0,rfl,Sx.nil,fun x hx=>by cases hx⟩
 ·simp at hcs;subst hcs;have key:∀k,k < len->∃x:Sht,(W.cell? (a.add (k*20+0))=some (.string x.name)/\W.cell? (a.add (k*20+1))=some (.int .i64 x.base)/\W.cell? (a.add (k*20+2))=some (.int .i64 x.batter)/\W.cell? (a.add (k*20+3))=some (.int .i64 x.height)/\W.cell? (a.add (k*20+4))=some (.int .i64 x.skin)/\W.cell? (a.add (k*20+5))=some (.slice x.ha x.hn x.hc)/\W.cell? (a.add (k*20+6))=some (.int .i64 x.least)/\W.cell? (a.add (k*20+7))=some (.int .i64 x.lap)/\W.cell? (a.add (k*20+8))=some (.int .i64 x.run)/\W.cell? (a.add (k*20+9))=some (.int .i64 x.every)/\W.cell? (a.add (k*20+10))=some (.int .i64 x.at_)/\W.cell? (a.add (k*20+11))=some (.int .i64 x.footing)/\W.cell? (a.add (k*20+12))=some (.int .i64 x.spread)/\W.cell? (a.add (k*20+13))=some (.int .u8 x.cope)/\W.cell? (a.add (k*20+14))=some (.int .i64 x.tall)/\W.cell? (a.add (k*20+15))=some (.int .i64 x.short)/\W.cell? (a.add (k*20+16))=some (.int .i64 x.thick)/\W.cell? (a.add (k*20+17))=some (.int .i64 x.low)/\W.cell? (a.add (k*20+18))=some (.int .i64 x.high)/\W.cell? (a.add (k*20+19))=some (.int .i64 x.rood))/\Sx 1 W x.ha x.hn x.hc (L1 x.hs)/\x.name.size<=maxLen/\0<=x.cope:=by
   intro k hk;obtain ⟨ys,n,h1,h2,h3,h4⟩:=hi k (by simp at hmm;omega);obtain ⟨v0,y0,c0,_,t0⟩:=h4 0 _ rfl;obtain ⟨z0,e0,_,w0⟩:=DataW.trod_string Tryz.underlying9 t0;simp at e0;subst e0;obtain ⟨v1,y1,c1,_,t1⟩:=h4 1 _ rfl;obtain ⟨z1,e1,_,w1⟩:=DataW.trod_int Tryz.underlying3 t1;simp at e1;subst e1;obtain ⟨v2,y2,c2,_,t2⟩:=h4 2 _ rfl;obtain ⟨z2,e2,_,w2⟩:=DataW.trod_int Tryz.underlying3 t2;simp at e2;subst e2;obtain ⟨v3,y3,c3,_,t3⟩:=h4 3 _ rfl;obtain ⟨z3,e3,_,w3⟩:=DataW.trod_int Tryz.underlying3 t3;simp at e3;subst e3;obtain ⟨v4,y4,c4,_,t4⟩:=h4 4 _ rfl;obtain ⟨z4,e4,_,w4⟩:=DataW.trod_int Tryz.underlying3 t4;simp at e4;subst e4;obtain ⟨v5,y5,c5,_,t5⟩:=h4 5 _ rfl;obtain ⟨ia,il,ic,rfl,is⟩:=row_Ints t5;obtain ⟨v6,y6,c6,_,t6⟩:=h4 6 _ rfl;obtain ⟨z6,e6,_,w6⟩:=DataW.trod_int Tryz.underlying3 t6;simp at e6;subst e6;obtain ⟨v7,y7,c7,_,t7⟩:=h4 7 _ rfl;obtain ⟨z7,e7,_,w7⟩:=DataW.trod_int Tryz.underlying3 t7;simp at e7;subst e7;obtain ⟨v8,y8,c8,_,t8⟩:=h4 8 _ rfl;obtain ⟨z8,e8,_,w8⟩:=DataW.trod_int Tryz.underlying3 t8;simp at e8;subst e8;obtain ⟨v9,y9,c9,_,t9⟩:=h4 9 _ rfl;obtain ⟨z9,e9,_,w9⟩:=DataW.trod_int Tryz.underlying3 t9;simp at e9;subst e9;obtain ⟨v10,y10,c10,_,t10⟩:=h4 10 _ rfl;obtain ⟨z10,e10,_,w10⟩:=DataW.trod_int Tryz.underlying3 t10;simp at e10;subst e10;obtain ⟨v11,y11,c11,_,t11⟩:=h4 11 _ rfl;obtain ⟨z11,e11,_,w11⟩:=DataW.trod_int Tryz.underlying3 t11;simp at e11;subst e11;obtain ⟨v12,y12,c12,_,t12⟩:=h4 12 _ rfl;obtain ⟨z12,e12,_,w12⟩:=DataW.trod_int Tryz.underlying3 t12;simp at e12;subst e12;obtain ⟨v13,y13,c13,_,t13⟩:=h4 13 _ rfl;obtain ⟨z13,e13,_,w13⟩:=DataW.trod_int Tryz.underlying5 t13;simp at e13;subst e13;obtain ⟨v14,y14,c14,_,t14⟩:=h4 14 _ rfl;obtain ⟨z14,e14,_,w14⟩:=DataW.trod_int Tryz.underlying3 t14;simp at e14;subst e14;obtain ⟨v15,y15,c15,_,t15⟩:=h4 15 _ rfl;obtain ⟨z15,e15,_,w15⟩:=DataW.trod_int Tryz.underlying3 t15;simp at e15;subst e15;obtain ⟨v16,y16,c16,_,t16⟩:=h4 16 _ rfl;obtain ⟨z16,e16,_,w16⟩:=DataW.trod_int Tryz.underlying3 t16;simp at e16;subst e16;obtain ⟨v17,y17,c17,_,t17⟩:=h4 17 _ rfl;obtain ⟨z17,e17,_,w17⟩:=DataW.trod_int Tryz.underlying3 t17;simp at e17;subst e17;obtain ⟨v18,y18,c18,_,t18⟩:=h4 18 _ rfl;obtain ⟨z18,e18,_,w18⟩:=DataW.trod_int Tryz.underlying3 t18;simp at e18;subst e18;obtain ⟨v19,y19,c19,_,t19⟩:=h4 19 _ rfl;obtain ⟨z19,e19,_,w19⟩:=DataW.trod_int Tryz.underlying3 t19;simp at e19;subst e19;exact⟨{ name:=z0,base:=z1,batter:=z2,height:=z3,skin:=z4,ha:=ia,hn:=il.length,hc:=ic,hs:=il,least:=z6,lap:=z7,run:=z8,every:=z9,at_:=z10,footing:=z11,spread:=z12,cope:=z13,tall:=z14,short:=z15,thick:=z16,low:=z17,high:=z18,rood:=z19 },⟨c0,c1,c2,c3,c4,c5,c6,c7,c8,c9,c10,c11,c12,c13,c14,c15,c16,c17,c18,c19⟩,is,w0,(u8y_wf w13).1⟩
  obtain ⟨l,hll,hR⟩:=choose_row key;subst hll;refine⟨some a,l,cap,rfl,⟨LS_len l,hl,hm,fun hn=>?_⟩,fun x hx=>?_⟩
  ·obtain ⟨g,o,sp⟩:=a;have h0:=(hR 0 hn).1.1;have hspot:sp=none:=(by simpa [Addr.add] using World.cell?_spot h0);subst hspot;refine⟨g,o,rfl,by simpa [Addr.add] using World.block_lt_of_cell? W _ h0,fun k u hk=>?_⟩;have hkl:=(List.getElem?_eq_some_iff.1 hk).1;rw [LS_len]at hkl;have hq:k / 20 < l.length:=(by omega);have hr:k % 20 < 20:=Nat.mod_lt _ (by decide);have hke:k / 20*20+k % 20=k:=(by omega);have hcell:=(hR (k / 20) hq).1;rw [<-hke]at hk;unfold LS at hk;rw [flat_get (f:=cS) (k:=20) (fun _=>rfl) l (k / 20) (k % 20) hq hr]at hk;have hadd:∀j,(⟨g,o,none⟩:Addr).add j=⟨g,o+j,none⟩:=fun j=>by unfold Addr.add;split<;>simp_all
   simp only [hadd]at hcell;generalize l[k / 20]=x at*;rw [<-hke];generalize k / 20=q at*;generalize k % 20=r at*
   match r,hr with
   | 0,_=>exact hcell.1.trans hk
   | 1,_=>exact hcell.2.1.trans hk
   | 2,_=>exact hcell.2.2.1.trans hk
   | 3,_=>exact hcell.2.2.2.1.trans hk
   | 4,_=>exact hcell.2.2.2.2.1.trans hk
   | 5,_=>exact hcell.2.2.2.2.2.1.trans hk
   | 6,_=>exact hcell.2.2.2.2.2.2.1.trans hk
   | 7,_=>exact hcell.2.2.2.2.2.2.2.1.trans hk
   | 8,_=>exact hcell.2.2.2.2.2.2.2.2.1.trans hk
   | 9,_=>exact hcell.2.2.2.2.2.2.2.2.2.1.trans hk
   | 10,_=>exact hcell.2.2.2.2.2.2.2.2.2.2.1.trans hk
   | 11,_=>exact hcell.2.2.2.2.2.2.2.2.2.2.2.1.trans hk
   | 12,_=>exact hcell.2.2.2.2.2.2.2.2.2.2.2.2.1.trans hk
   | 13,_=>exact hcell.2.2.2.2.2.2.2.2.2.2.2.2.2.1.trans hk
   | 14,_=>exact hcell.2.2.2.2.2.2.2.2.2.2.2.2.2.2.1.trans hk
   | 15,_=>exact hcell.2.2.2.2.2.2.2.2.2.2.2.2.2.2.2.1.trans hk
   | 16,_=>exact hcell.2.2.2.2.2.2.2.2.2.2.2.2.2.2.2.2.1.trans hk
   | 17,_=>exact hcell.2.2.2.2.2.2.2.2.2.2.2.2.2.2.2.2.2.1.trans hk
   | 18,_=>exact hcell.2.2.2.2.2.2.2.2.2.2.2.2.2.2.2.2.2.2.1.trans hk
   | 19,_=>exact hcell.2.2.2.2.2.2.2.2.2.2.2.2.2.2.2.2.2.2.2.trans hk
  ·obtain ⟨i,hi,rfl⟩:=List.getElem_of_mem hx;exact(hR i hi).2
theorem row_Walls {v:Value} {fuel:Nat} {x:DataW H×List MemPlace} (hf:DataW.trod enc Tryz.prog W 0 (fun _=>true) true fuel 23 [v]=some x):
  ∃ (a:Option Addr) (l:List Wal) (c:Nat),v= .slice a l.length c/\Sx 4 W a l.length c (LWa l)/\∀x∈l,Sx 5 W x.oa x.on x.oc (LO x.ops)/\(x.name.size<=maxLen/\x.sheet.size<=maxLen)/\∀o∈x.ops,0<=o.kind/\o.kind<=255:=by
 rcases open_slice_fields Tryz.underlying23 Tryz.underlying93 (by kernel_rfl) (by kernel_rfl) hf with ⟨hcs,hx⟩ | ⟨a,len,cap,m,D,Pl,hcs,hb,hl,hm,hmm,hx,hi⟩
 ·simp at hcs;subst hcs;exact⟨none,[],0,rfl,Sx.nil,fun x hx=>by cases hx⟩
 ·simp at hcs;subst hcs;have key:∀k,k < len->∃x:Wal,(W.cell? (a.add (k*4+0))=some (.string x.name)/\W.cell? (a.add (k*4+1))=some (.string x.sheet)/\W.cell? (a.add (k*4+2))=some (.int .i64 x.len)/\W.cell? (a.add (k*4+3))=some (.slice x.oa x.on x.oc))/\Sx 5 W x.oa x.on x.oc (LO x.ops)/\(x.name.size<=maxLen/\x.sheet.size<=maxLen)/\∀o∈x.ops,0<=o.kind/\o.kind<=255:=by
   intro k hk;obtain ⟨ys,n,h1,h2,h3,h4⟩:=hi k (by simp at hmm;omega);obtain ⟨v0,y0,c0,_,t0⟩:=h4 0 _ rfl;obtain ⟨z0,e0,_,w0⟩:=DataW.trod_string Tryz.underlying9 t0;simp at e0;subst e0;obtain ⟨v1,y1,c1,_,t1⟩:=h4 1 _ rfl;obtain ⟨z1,e1,_,w1⟩:=DataW.trod_string Tryz.underlying9 t1;simp at e1;subst e1;obtain ⟨v2,y2,c2,_,t2⟩:=h4 2 _ rfl;obtain ⟨z2,e2,_,w2⟩:=DataW.trod_int Tryz.underlying3 t2;simp at e2;subst e2;obtain ⟨v3,y3,c3,_,t3⟩:=h4 3 _ rfl;obtain ⟨ia,il,ic,rfl,is,ik⟩:=row_Openings t3;exact⟨{ name:=z0,sheet:=z1,len:=z2,oa:=ia,on:=il.length,oc:=ic,ops:=il },⟨c0,c1,c2,c3⟩,is,⟨w0,w1⟩,ik⟩
  obtain ⟨l,hll,hR⟩:=choose_row key;subst hll;refine⟨some a,l,cap,rfl,⟨LWa_len l,hl,hm,fun hn=>?_⟩,fun x hx=>?_⟩
  ·obtain ⟨g,o,sp⟩:=a;have h0:=(hR 0 hn).1.1;have hspot:sp=none:=(by simpa [Addr.add] using World.cell?_spot h0);subst hspot;refine⟨g,o,rfl,by simpa [Addr.add] using World.block_lt_of_cell? W _ h0,fun k u hk=>?_⟩;have hkl:=(List.getElem?_eq_some_iff.1 hk).1;rw [LWa_len]at hkl;have hq:k / 4 < l.length:=(by omega);have hr:k % 4 < 4:=Nat.mod_lt _ (by decide);have hke:k / 4*4+k % 4=k:=(by omega);have hcell:=(hR (k / 4) hq).1;rw [<-hke]at hk;unfold LWa at hk;rw [flat_get (f:=cWa) (k:=4) (fun _=>rfl) l (k / 4) (k % 4) hq hr]at hk;have hadd:∀j,(⟨g,o,none⟩:Addr).add j=⟨g,o+j,none⟩:=fun j=>by unfold Addr.add;split<;>simp_all
   simp only [hadd]at hcell;generalize l[k / 4]=x at*;rw [<-hke];generalize k / 4=q at*;generalize k % 4=r at*
   match r,hr with
   | 0,_=>exact hcell.1.trans hk
   | 1,_=>exact hcell.2.1.trans hk
   | 2,_=>exact hcell.2.2.1.trans hk
   | 3,_=>exact hcell.2.2.2.trans hk
  ·obtain ⟨i,hi,rfl⟩:=List.getElem_of_mem hx;exact(hR i hi).2
theorem row_Shts {v:Value} {fuel:Nat} {x:DataW H×List MemPlace} (hf:DataW.trod enc Tryz.prog W 0 (fun _=>true) true fuel 22 [v]=some x):
  ∃ (a:Option Addr) (l:List Sht) (c:Nat),v= .slice a l.length c/\Shts W a l.length c l:=by
 obtain ⟨a,l,c,h1,h2,h3⟩:=row_Sheets hf;exact⟨a,l,c,h1,h2,fun s hs=>(h3 s hs).1,fun s hs=>(h3 s hs).2.1,fun s hs=>(h3 s hs).2.2⟩
theorem row_Wals {v:Value} {fuel:Nat} {x:DataW H×List MemPlace} (hf:DataW.trod enc Tryz.prog W 0 (fun _=>true) true fuel 23 [v]=some x):
  ∃ (a:Option Addr) (l:List Wal) (c:Nat),v= .slice a l.length c/\Wals W a l.length c l:=by
 obtain ⟨a,l,c,h1,h2,h3⟩:=row_Walls hf;exact⟨a,l,c,h1,h2,fun s hs=>(h3 s hs).1,fun s hs=>(h3 s hs).2.1,fun s hs=>(h3 s hs).2.2⟩
theorem open_Plan {v:Value} {d:DataW H} {p:List MemPlace} (hv:Value.okWide Tryz.prog W .any base 25 v) (h:DataW.Trod enc Tryz.prog W 0 (fun _=>true) true 25 v d p):
  ∃ (sa wa:Option Addr) (S:List Sht) (L:List Wal) (sc wc:Nat),v= .agg #[.slice sa S.length sc,.slice wa L.length wc]/\Shts W sa S.length sc S/\Wals W wa L.length wc L:=by
 obtain ⟨v0,v1,y0,y1,n,rfl,_,_,h0,h1⟩:=open_agg2 Tryz.underlying25 (by kernel_rfl) (by kernel_rfl) hv h;obtain ⟨sa,S,sc,rfl,hS⟩:=row_Shts h0;obtain ⟨wa,L,wc,rfl,hL⟩:=row_Wals h1;exact⟨sa,wa,S,L,sc,wc,rfl,hS,hL⟩
theorem open_Text {v:Value} {d:DataW H} {p:List MemPlace} (hv:Value.okWide Tryz.prog W .any base 9 v) (h:DataW.Trod enc Tryz.prog W 0 (fun _=>true) true 9 v d p):
  ∃s:ByteArray,v= .string s/\s.size<=maxLen:=by
 obtain ⟨s,rfl⟩:=okWide_string Tryz.underlying9 hv;obtain ⟨fuel,hf⟩:=h;obtain ⟨z,e,_,w⟩:=DataW.trod_string Tryz.underlying9 hf;simp [Value.cells]at e;subst e;exact⟨s,rfl,w⟩
end
end Go.Proofs.YtjpojeapdgjbhaaGreatDoor

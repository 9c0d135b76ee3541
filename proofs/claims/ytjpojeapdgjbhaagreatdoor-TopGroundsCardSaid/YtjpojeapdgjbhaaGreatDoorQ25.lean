/- part -/
import Derived.Test.YtjpojeapdgjbhaaGreatDoorQ21
import Derived.Test.YtjpojeapdgjbhaaGreatDoorQ24
import Derived.Lib.AppendZeros
set_option maxRecDepth 100000
set_option maxHeartbeats 8000000
namespace Go.Proofs.YtjpojeapdgjbhaaGreatDoor
open Go.RowKit Go.Shelf Dig
theorem und_PtS:Tryz.prog.underlying 48=some (.slice 47):=Tryz.underlying48
theorem und_Line:Tryz.prog.underlying 121=some (.slice 47):=Tryz.underlying121
theorem und_int3:Tryz.prog.underlying 3=some (.int .i64):=Tryz.underlying3
theorem info_PtS:(Tryz.prog.info? 47).map (fun i=>(i.zero,i.size,i.bytes))=some (some (.agg #[.int .i64 0,.int .i64 0]),2,16):=by kernel_rfl
theorem one_L2 (l:List Pt):∀u∈L2 l,u.oneCell'=true:=by
 intro u hu;unfold L2 at hu;obtain ⟨p,-,hp⟩:=List.mem_flatMap.1 hu;simp only [c2,List.mem_cons,List.not_mem_nil,or_false]at hp;rcases hp with rfl | rfl<;>rfl
section
variable (w:World)
theorem mTs6_0 {P_:Prop} (h:P_:=by
 go_wp2_with (at_builtin;refine Lib.wpList_append_run _ rfl _ _ _ _ rfl _ _ rfl rfl _ _ (hrz _) ?_)
 go_ret;refine⟨_,_,rfl,⟨rfl,.inr ⟨w.heap.size,G,_,rfl,Nat.le_refl _,World.alloc_heap_new _ _,Nat.zero_le _,HG.out,?_,rfl⟩⟩,HB.out.drew.alloc (Nat.le_refl _) _⟩;simp only [Array.size_append,size_zeroCells];show n*2+(G - n)*2=G*2;omega):P_:=h
theorem mTs6_1 {P_:Prop} (h:P_:=by
 obtain ⟨m,L,rfl,hm,hL,hS⟩:=hK.out;rw [if_neg (by omega),if_neg (by omega)]at hm hL;subst hm hL;have hT:=ζ hS;clear hS hK;go_wp2;go_ret;exact⟨_,_,rfl,hT.out.orow 0 rfl,hT.out.be⟩):P_:=h
theorem mTs6_2 {P_:Prop} (h:P_:=by
 go_roundw
 case rel=>exact⟨1,a9,c9,by omega,rfl,ζ ⟨n1,xs,rfl,by simp,by simp,by have h:=hV;rw [Nat.zero_add]at h;exact h⟩⟩
 case measure=>simp [intOf]):P_:=h
theorem grow_pts (n:Nat) (h0:0 < n) (hn:n<=100000):Calls Tryz.prog 242 #[.slice none 0 0,.int .i64 n] w (RetRow w 47 2 0 []):=by
 obtain ⟨i0,hi0,hz0,hz1,hz2⟩:=info_parts info_PtS;have hrz:=fun ty=>Lib.run_append_nil_zeros (P:=Tryz.prog) w 48 3 ty 47 i0 _ .i64 .i64 und_PtS und_int3 hi0 hz0 n h0 (by omega) (by omega) (by rw [hz2];omega);have AF:n<=grownCap w n 0 47:=grownCap_ge w _ _ _;have AA:grownCap w n 0 47<=maxLen:=grownCap_le_maxLen w n 0 47 (by unfold maxLen;omega);have AB:=AA;unfold maxLen at AB;have HB:=ζ (Below.refl w.heap.size w);generalize grownCap w n 0 47=G at*;have HG:=ζ AA;have h1:¬ (n:Int) < 0:=by omega
 have h2:(0:Int) < (n:Int):=by omega
 have h3:wrap64 ((n:Int) - 0)=(n:Int):=by unfold wrap64;omega
 have h4:wrap64 (n:Int)=(n:Int):=by unfold wrap64;omega
 clear AA;go_enter Tryz.func242,Tryz.ntmps242;exact mTs6_0
theorem concat_pts (a:OA) (c:Nat) (a1:OA) (n1 c1:Nat) (a2:OA) (n2 c2:Nat) (xs ys:List Pt) (hs:Sx 1 w a 2 c [.slice a1 n1 c1,.slice a2 n2 c2]) (h1:Sx 2 w a1 n1 c1 (L2 xs)) (h2:Sx 2 w a2 n2 c2 (L2 ys)) (hn0:0 < n1+n2) (hn:n1+n2<=1000):
  Calls Tryz.prog 213 #[.slice a 2 c] w (RetRow w 47 2 (n1+n2) (L2 (xs++ys))):=by
 obtain ⟨g0,o0,rfl⟩:=hs.addr (by omega);have H0:=ζ (fun W (hW:Below w.heap.size w W)=>show W.cell? ⟨g0,o0,none⟩=some (.slice a1 n1 c1)from(hs.below hW).cell (k:=0) rfl);have H1:=ζ (fun W (hW:Below w.heap.size w W)=>show W.cell? ⟨g0,o0+1,none⟩=some (.slice a2 n2 c2)from(hs.below hW).cell (k:=1) rfl);have AC:=ζ h1;have AD:=ζ h2;have AE:=ζ (fun W=>grow_pts W (n1+n2) hn0 (by omega));have hC:=ζ (Sy.enter w);have j1:IntKind.i64.wrap (n1:Int)=(n1:Int):=IntWalk.i64_in _ (by omega);have j2:IntKind.i64.wrap ((n1:Int)+(n2:Int))=(n1:Int)+(n2:Int):=IntWalk.i64_in _ (by omega);have j3:¬ (n1:Int) < 0:=by omega
 have j4:¬ (n1:Int)+(n2:Int) < 0:=by omega
 clear hs h1 h2;go_enter Tryz.func213,Tryz.ntmps213;go_wp2;go_loopw [3,11] (fun sv iv wr=>∃k:Nat,k<=2/\iv= .int .i64 k/\Hid (sv= .int .i64 (if k=0 then 0 else if k=1 then(n1:Int)else(n1:Int)+(n2:Int)))/\Hid (Sy w wr [] [] [])) (fun _ iv _=>2 - (intOf iv).toNat)
 case atStart=>exact⟨0,by omega,rfl,ζ rfl,hC⟩
 case round=>
  clear hC;obtain ⟨k,hk,rfl,hK,hS⟩:=hrel;rcases(show k=0\/k=1\/k=2 by omega)with rfl | rfl | rfl
  ·obtain rfl:=hK.out;clear hK;have x0:=H0.out _ hS.out.be;go_wp2;go_roundw
   case rel=>exact⟨1,by omega,rfl,ζ rfl,hS⟩
   case measure=>simp [intOf]
  ·obtain rfl:=hK.out;clear hK;have x1:=H1.out _ hS.out.be;go_wp2;go_roundw
   case rel=>exact⟨2,by omega,rfl,ζ rfl,hS⟩
   case measure=>simp [intOf]
  ·obtain rfl:=hK.out;clear hK;rw [if_neg (by omega),if_neg (by omega)];have e9:(n1:Int)+(n2:Int)=((n1+n2:Nat):Int):=(by omega);rw [e9];clear e9;go_wp2_with fail
   refine(AE.out _).mono ?_;rintro e w1 ⟨b,c',rfl,hr,hb⟩;have hD:=ζ (hS.out.adopt hb hr);clear hS hb hr j1 j2 j3 j4;go_wp2;go_loopw [6,27] (fun nv iv wr=>∃ (k:Nat) (b:OA) (c':Nat),k<=2/\iv= .int .i64 k/\Hid (∃ (m:Nat) (L:List Pt),nv= .slice b m c'/\(m=if k=0 then 0 else if k=1 then n1 else n1+n2)/\(L=if k=0 then []else if k=1 then xs else xs++ys)/\Sy w wr [] [⟨.slice b m c',47,2,m,L2 L⟩] [])) (fun _ iv _=>2 - (intOf iv).toNat)
   case atStart=>exact⟨0,b,c',by omega,rfl,ζ ⟨0,[],rfl,rfl,rfl,hD.out⟩⟩
   case round=>
    clear hD;obtain ⟨k,b,c',hk,rfl,hK⟩:=hrel;rcases(show k=0\/k=1\/k=2 by omega)with rfl | rfl | rfl
    ·obtain ⟨m,L,rfl,hm,hL,hS⟩:=hK.out;rw [if_pos rfl]at hm hL;subst hm hL;have hT:=ζ hS;clear hS hK;have x0:=H0.out _ hT.out.be;go_upto_region 13 with fail
     go_wp2_with (refine wpList_append_sx (o:=⟨some 33,_,_,_,_,_⟩) rfl hT.out 0 rfl (hT.out.sx AC.out) _ _ _ rfl und_PtS info_PtS rfl (by omega) rfl rfl (one_L2 xs) (by omega) (by omega) (fun a9 c9 V hV=>?_))
     exact mTs6_2
    ·obtain ⟨m,L,rfl,hm,hL,hS⟩:=hK.out;rw [if_neg (by omega),if_pos rfl]at hm hL;subst hm hL;have hT:=ζ hS;clear hS hK;have x1:=H1.out _ hT.out.be;go_upto_region 13 with fail
     go_wp2_with (refine wpList_append_sx (o:=⟨some 33,_,_,_,_,_⟩) rfl hT.out 0 rfl (hT.out.sx AD.out) _ _ _ rfl und_PtS info_PtS rfl (by omega) rfl rfl (one_L2 ys) (by omega) (by omega) (fun a9 c9 V hV=>?_))
     go_roundw
     case rel=>exact⟨2,a9,c9,by omega,rfl,ζ ⟨_,L++ys,rfl,by simp,by simp,by rw [L2_append];exact hV⟩⟩
     case measure=>simp [intOf]
    ·exact mTs6_1
theorem grow_line (n:Nat) (h0:0 < n) (hn:n<=100000):Calls Tryz.prog 195 #[.slice none 0 0,.int .i64 n] w (RetRow w 47 2 0 []):=by
 obtain ⟨i0,hi0,hz0,hz1,hz2⟩:=info_parts info_PtS;have hrz:=fun ty=>Lib.run_append_nil_zeros (P:=Tryz.prog) w 121 3 ty 47 i0 _ .i64 .i64 und_Line und_int3 hi0 hz0 n h0 (by omega) (by omega) (by rw [hz2];omega);have AF:n<=grownCap w n 0 47:=grownCap_ge w _ _ _;have AA:grownCap w n 0 47<=maxLen:=grownCap_le_maxLen w n 0 47 (by unfold maxLen;omega);have AB:=AA;unfold maxLen at AB;have HB:=ζ (Below.refl w.heap.size w);generalize grownCap w n 0 47=G at*;have HG:=ζ AA;have h1:¬ (n:Int) < 0:=by omega
 have h2:(0:Int) < (n:Int):=by omega
 have h3:wrap64 ((n:Int) - 0)=(n:Int):=by unfold wrap64;omega
 have h4:wrap64 (n:Int)=(n:Int):=by unfold wrap64;omega
 clear AA;go_enter Tryz.func195,Tryz.ntmps195;exact mTs6_0
theorem concat_line (a:OA) (c:Nat) (a1:OA) (n1 c1:Nat) (a2:OA) (n2 c2:Nat) (xs ys:List Pt) (hs:Sx 1 w a 2 c [.slice a1 n1 c1,.slice a2 n2 c2]) (h1:Sx 2 w a1 n1 c1 (L2 xs)) (h2:Sx 2 w a2 n2 c2 (L2 ys)) (hn0:0 < n1+n2) (hn:n1+n2<=1000):
  Calls Tryz.prog 162 #[.slice a 2 c] w (RetRow w 47 2 (n1+n2) (L2 (xs++ys))):=by
 obtain ⟨g0,o0,rfl⟩:=hs.addr (by omega);have H0:=ζ (fun W (hW:Below w.heap.size w W)=>show W.cell? ⟨g0,o0,none⟩=some (.slice a1 n1 c1)from(hs.below hW).cell (k:=0) rfl);have H1:=ζ (fun W (hW:Below w.heap.size w W)=>show W.cell? ⟨g0,o0+1,none⟩=some (.slice a2 n2 c2)from(hs.below hW).cell (k:=1) rfl);have AC:=ζ h1;have AD:=ζ h2;have AE:=ζ (fun W=>grow_line W (n1+n2) hn0 (by omega));have hC:=ζ (Sy.enter w);have j1:IntKind.i64.wrap (n1:Int)=(n1:Int):=IntWalk.i64_in _ (by omega);have j2:IntKind.i64.wrap ((n1:Int)+(n2:Int))=(n1:Int)+(n2:Int):=IntWalk.i64_in _ (by omega);have j3:¬ (n1:Int) < 0:=by omega
 have j4:¬ (n1:Int)+(n2:Int) < 0:=by omega
 clear hs h1 h2;go_enter Tryz.func162,Tryz.ntmps162;go_wp2;go_loopw [3,11] (fun sv iv wr=>∃k:Nat,k<=2/\iv= .int .i64 k/\Hid (sv= .int .i64 (if k=0 then 0 else if k=1 then(n1:Int)else(n1:Int)+(n2:Int)))/\Hid (Sy w wr [] [] [])) (fun _ iv _=>2 - (intOf iv).toNat)
 case atStart=>exact⟨0,by omega,rfl,ζ rfl,hC⟩
 case round=>
  clear hC;obtain ⟨k,hk,rfl,hK,hS⟩:=hrel;rcases(show k=0\/k=1\/k=2 by omega)with rfl | rfl | rfl
  ·obtain rfl:=hK.out;clear hK;have x0:=H0.out _ hS.out.be;go_wp2;go_roundw
   case rel=>exact⟨1,by omega,rfl,ζ rfl,hS⟩
   case measure=>simp [intOf]
  ·obtain rfl:=hK.out;clear hK;have x1:=H1.out _ hS.out.be;go_wp2;go_roundw
   case rel=>exact⟨2,by omega,rfl,ζ rfl,hS⟩
   case measure=>simp [intOf]
  ·obtain rfl:=hK.out;clear hK;rw [if_neg (by omega),if_neg (by omega)];have e9:(n1:Int)+(n2:Int)=((n1+n2:Nat):Int):=(by omega);rw [e9];clear e9;go_wp2_with fail
   refine(AE.out _).mono ?_;rintro e w1 ⟨b,c',rfl,hr,hb⟩;have hD:=ζ (hS.out.adopt hb hr);clear hS hb hr j1 j2 j3 j4;go_wp2;go_loopw [6,27] (fun nv iv wr=>∃ (k:Nat) (b:OA) (c':Nat),k<=2/\iv= .int .i64 k/\Hid (∃ (m:Nat) (L:List Pt),nv= .slice b m c'/\(m=if k=0 then 0 else if k=1 then n1 else n1+n2)/\(L=if k=0 then []else if k=1 then xs else xs++ys)/\Sy w wr [] [⟨.slice b m c',47,2,m,L2 L⟩] [])) (fun _ iv _=>2 - (intOf iv).toNat)
   case atStart=>exact⟨0,b,c',by omega,rfl,ζ ⟨0,[],rfl,rfl,rfl,hD.out⟩⟩
   case round=>
    clear hD;obtain ⟨k,b,c',hk,rfl,hK⟩:=hrel;rcases(show k=0\/k=1\/k=2 by omega)with rfl | rfl | rfl
    ·obtain ⟨m,L,rfl,hm,hL,hS⟩:=hK.out;rw [if_pos rfl]at hm hL;subst hm hL;have hT:=ζ hS;clear hS hK;have x0:=H0.out _ hT.out.be;go_upto_region 13 with fail
     go_wp2_with (refine wpList_append_sx (o:=⟨some 33,_,_,_,_,_⟩) rfl hT.out 0 rfl (hT.out.sx AC.out) _ _ _ rfl und_Line info_PtS rfl (by omega) rfl rfl (one_L2 xs) (by omega) (by omega) (fun a9 c9 V hV=>?_))
     exact mTs6_2
    ·obtain ⟨m,L,rfl,hm,hL,hS⟩:=hK.out;rw [if_neg (by omega),if_pos rfl]at hm hL;subst hm hL;have hT:=ζ hS;clear hS hK;have x1:=H1.out _ hT.out.be;go_upto_region 13 with fail
     go_wp2_with (refine wpList_append_sx (o:=⟨some 33,_,_,_,_,_⟩) rfl hT.out 0 rfl (hT.out.sx AD.out) _ _ _ rfl und_Line info_PtS rfl (by omega) rfl rfl (one_L2 ys) (by omega) (by omega) (fun a9 c9 V hV=>?_))
     go_roundw
     case rel=>exact⟨2,a9,c9,by omega,rfl,ζ ⟨_,L++ys,rfl,by simp,by simp,by rw [L2_append];exact hV⟩⟩
     case measure=>simp [intOf]
    ·exact mTs6_1
end
end Go.Proofs.YtjpojeapdgjbhaaGreatDoor

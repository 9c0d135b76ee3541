/- part -/
import Derived.Test.YthmdhlopeponcaaGreatDoorK7
namespace Go.Proofs.YthmdhlopeponcaaGreatDoor
open Go.RowKit Dig
theorem info_int:(Tryz.prog.info? 3).map (fun i=>(i.zero,i.size,i.bytes))=some (some (.int .i64 0),1,8):=by kernel_rfl
def sgnN (z:Int):Int:=if z=0 then 0 else if z < 0 then -1 else 1
structure Nz (w:World) (s:Int) (g:Value) (z:Int):Prop where
 s:s=sgnN z
 g:Sl 3 w g (dg 10000 z.natAbs)
theorem crN_bound:∀ (c:Int) (l:List Int),(∀x∈l,-1000000000000000<=x/\x<=1000000000000000)-> -1000000000000<=c->c<=1000000000000-> -1000000000000<=(cr 10000 c l).2/\(cr 10000 c l).2<=1000000000000
 | c,[],_,h1,h2=>⟨h1,h2⟩
 | c,x::l,h,h1,h2=>by
   have hx:=h x (by simp);rw [cr];exact crN_bound _ l (fun y hy=>h y (by simp [hy])) (by omega) (by omega)
def ext (xs:List Int) (k:Nat):List Int:=(xs++List.replicate 30 0).take k
theorem ext_lt {xs:List Int} {k:Nat} (h:k < xs.length):ext xs (k+1)=ext xs k++ [xs[k]]:=by
 unfold ext;rw [List.take_succ_eq_append_getElem (by rw [List.length_append];omega),List.getElem_append_left h]
theorem ext_ge {xs:List Int} {k:Nat} (h:xs.length<=k) (h2:k < xs.length+30):ext xs (k+1)=ext xs k++ [0]:=by
 unfold ext;rw [List.take_succ_eq_append_getElem (by rw [List.length_append,List.length_replicate];omega),List.getElem_append_right h,List.getElem_replicate]
theorem ext_len {xs:List Int} {k:Nat} (h:k<=xs.length+30):(ext xs k).length=k:=by
 unfold ext;rw [List.length_take,List.length_append,List.length_replicate];omega
theorem ext_mem {xs:List Int} (hb:∀x∈xs,-1000000000000000<=x/\x<=1000000000000000) (k:Nat):∀x∈ext xs k,-1000000000000000<=x/\x<=1000000000000000:=by
 intro x hx;rcases List.mem_append.1 (List.mem_of_mem_take hx)with h | h
 ·exact hb x h
 ·have:=List.eq_of_mem_replicate h;omega
theorem vl_rep (b:Int):∀n,vl b (List.replicate n 0)=0
 | 0=>rfl
 | n+1=>by rw [List.replicate_succ,vl,vl_rep b n];simp
theorem ext_vl {xs:List Int} {k:Nat} (h:xs.length<=k):vl 10000 (ext xs k)=vl 10000 xs:=by
 unfold ext;rw [List.take_append,List.take_of_length_le h,List.take_replicate,vl_append,vl_rep];simp
theorem crN_nonneg {xs:List Int} (h0:0<=vl 10000 xs) {k:Nat} (h:xs.length<=k):0<=(cr 10000 0 (ext xs k)).2:=
 cr_carry_nonneg (b:=10000) (by omega) _ (by rw [show(((10000:Nat)):Int)=10000 from rfl,ext_vl h];exact h0)
theorem crN_end {xs:List Int} {k:Nat} (h:xs.length<=k) (hc:(cr 10000 0 (ext xs k)).2=0):vl 10000 (cr 10000 0 (ext xs k)).1=vl 10000 xs:=by
 have:=cr_vl 10000 0 (ext xs k);rw [hc,ext_vl h]at this;simpa using this
theorem tdiv_pos {y:Int} (h:0<=y):y.tdiv 10000=y / 10000/\y.tmod 10000=y % 10000:=⟨Int.tdiv_eq_ediv_of_nonneg h,Int.tmod_eq_emod_of_nonneg h⟩
theorem tdiv_neg {y:Int} (h:y < 0):(y % 10000=0->y.tdiv 10000=y / 10000/\y.tmod 10000=0)/\(y % 10000≠0->y.tdiv 10000=y / 10000+1/\y.tmod 10000=y % 10000 - 10000):=by
 have h1:=Int.mul_tdiv_add_tmod y 10000;have h2:y.tmod 10000= -((-y) % 10000):=by
  have:=Int.neg_tmod (-y) 10000;rw [Int.neg_neg,Int.tmod_eq_emod_of_nonneg (a:= -y) (by omega)]at this;exact this
 constructor
 ·intro h0;constructor<;>omega
 ·intro h0;constructor<;>omega
end Go.Proofs.YthmdhlopeponcaaGreatDoor

/- part -/
import Derived.Test.YtjpojeapdgjbhaaGreatDoorQ2
set_option maxRecDepth 100000
set_option maxHeartbeats 1000000
namespace Go.Proofs.YtjpojeapdgjbhaaGreatDoor
open Go.RowKit Dig
theorem none_any (a:Option Addr) (n c:Nat) (w:World):
  Calls Tryz.prog 78 #[.agg #[.slice a n c]] w fun e w'=>e= .returned (.bool ((n:Int)==0))/\w'=w.alloc (.cells #[.slice a n c] 68):=by
 go_enter Tryz.func78,Tryz.ntmps78;go_wp2;go_ret;exact⟨rfl,rfl⟩
theorem made_false (a:Option Addr) (n c:Nat) (w:World):
  Calls Tryz.prog 108 #[.bool false,.agg #[.slice a n c]] w fun e w'=>e= .returned (.agg #[.slice a n c,.bool false])/\Below w.heap.size w w':=by
 go_enter Tryz.func108,Tryz.ntmps108;go_wp2;go_region
 go_wp2;refine bodyPost_ret (v:= .agg #[.slice a n c,.bool false]) (by simp [results,Tryz.results108,go_sem]) rfl ⟨rfl,?_⟩;exact(((Below.refl _ _).alloc (Nat.le_refl _) _).alloc (by go_size) _).drew
theorem made_true (a:Option Addr) (n c:Nat) (w:World):
  Calls Tryz.prog 108 #[.bool true,.agg #[.slice a n c]] w fun e w'=>e= .returned (.agg #[.slice a n c,.bool (!((n:Int)==0))])/\Below w.heap.size w w':=by
 go_enter Tryz.func108,Tryz.ntmps108;go_wp2;go_region_held3 (fun w'=>w'.cell? ⟨w.heap.size,0,none⟩=some (.slice a n c)/\True) (first | exact⟨Box.cell (t:=68) ((Box.new' rfl).alloc _),trivial⟩ | exact⟨Box.cell (t:=68) (((Box.new' rfl).alloc _).alloc _),trivial⟩) (first | (go_at_call 78;refine(none_any _ _ _ _).mono ?_;rintro e w' ⟨rfl,rfl⟩))
 go_wp2;refine bodyPost_ret (v:= .agg #[.slice a n c,.bool (!((n:Int)==0))]) (by simp [results,Tryz.results108,go_sem]) rfl ⟨rfl,?_⟩;exact((((Below.refl _ _).alloc (Nat.le_refl _) _).alloc (by go_size) _).alloc (by go_size) _).drew
structure Zd (w:World) (s:Value) (m:Bool) (z:Int):Prop where
 d:Dg w s z.natAbs
 m:m=decide (z < 0)
theorem Zd.mono {w w':World} {s:Value} {m:Bool} {z:Int} (h:Zd w s m z) (hb:Below w.heap.size w w'):Zd w' s m z:=⟨Sl.mono h.d hb,h.m⟩
def RetZ (w:World) (z:Int) (e:Ending) (w':World):Prop:=∃a n c m,e= .returned (.agg #[.slice a n c,.bool m])/\Zd w' (.slice a n c) m z/\Below w.heap.size w w'
theorem made_any (m:Bool) (a:Option Addr) (n c:Nat) (N:Nat) (w:World) (h:Dg w (.slice a n c) N) (z:Int) (hz:z=if m then -(N:Int)else N):
  Calls Tryz.prog 108 #[.bool m,.agg #[.slice a n c]] w (RetZ w z):=by
 have hn:=Sl.len h;cases m
 ·refine(made_false a n c w).mono ?_;rintro e w' ⟨rfl,hb⟩;simp only [Bool.false_eq_true,if_false]at hz;subst hz;exact⟨a,n,c,false,rfl,⟨by rw [Int.natAbs_natCast];exact Sl.mono h hb,by simp⟩,hb⟩
 ·refine(made_true a n c w).mono ?_;rintro e w' ⟨rfl,hb⟩;simp only [if_true]at hz;subst hz;refine⟨a,n,c,_,rfl,⟨by rw [Int.natAbs_neg,Int.natAbs_natCast];exact Sl.mono h hb,?_⟩,hb⟩;have e:(n=0)↔N=0:=by
   rw [<-dg_nil_iff (b:=16777216) (by omega) (n:=N),hn];exact List.length_eq_zero_iff
  by_cases h0:N=0
  ·subst h0;have:=e.2 rfl;subst this;rfl
  ·have:n≠0:=fun e'=>h0 (e.1 e');have h1:((n:Int)==0)=false:=(by simpa using this);rw [h1];simp;omega
end Go.Proofs.YtjpojeapdgjbhaaGreatDoor

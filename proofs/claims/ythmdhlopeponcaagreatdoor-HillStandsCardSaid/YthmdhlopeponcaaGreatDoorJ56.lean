/- bays stand on feet and end under heads (plain) -/
import Derived.Test.YthmdhlopeponcaaGreatDoorJ48
import Derived.Test.YthmdhlopeponcaaGreatDoorJ55
namespace Go.Proofs.YthmdhlopeponcaaGreatDoor
section
variable {l:List Pt} {bs:List Int} {d e r h:Int}
def headsL (l:List Pt) (bs:List Int) (e r:Int):List Int:=folL max (-r) ((nbr bs).map fun t=>headI l t.1 t.2 e)
theorem headsL_len:(headsL l bs e r).length=bs.length - 1:=by unfold headsL;rw [folL_len,List.length_map,nbr_len]
theorem headsL_at {i:Nat} (hi:i < bs.length - 1):bX (headsL l bs e r) i= -bX (folL min r (baseL (downL l) bs e)) i:=down_heads e r hi
theorem heads_in (hk:brkB l bs=true) (he:0≤e∧e≤3000) (hr:0≤r):∀z∈headsL l bs e r,-100000≤z∧z≤103000:=by
 intro z hz
 obtain ⟨i,hi,rfl⟩:=List.getElem_of_mem hz
 rw [←bX_at hi]
 rw [headsL_len]at hi
 rw [headsL_at hi]
 have hm:bX (folL min r (baseL (downL l) bs e)) i∈folL min r (baseL (downL l) bs e):=by
  rw [bX_at (by rw [folL_len,baseL_len];exact hi)];exact List.getElem_mem _
 have:=feet_in (down_brk hk) he hr _ hm
 omega
theorem foot_head (hk:brkB l bs=true) (hd:0≤d) (he:0≤e) (hr:0≤r) {i:Nat} (hi:i < bs.length - 1):bX (folL min r (baseL l bs d)) i≤bX (headsL l bs e r) i:=by
 have h1:=(keepB_iff.1 (feet_keep (l:=l) (bs:=bs) (d:=d) hr) i (by rw [folL_len,baseL_len];exact hi)).1
 have h2:=(keepB_iff.1 (feet_keep (l:=downL l) (bs:=bs) (d:=e) hr) i (by rw [folL_len,baseL_len];exact hi)).1
 rw [headsL_at hi]
 rw [down_foot]at h2
 have hT:Strt l (bX bs i) (bX bs (i+1)):=by
  rw [bX_at (show i+1 < bs.length by omega),bX_at (show i < bs.length by omega)];exact brk_strt hk (List.mem_of_getElem? (nbr_get (by omega)))
 have h3:=Rat.floor_le (loQ l (bX bs i) (bX bs (i+1)))
 have h4:hiQ l (bX bs i) (bX bs (i+1))≤((hiQ l (bX bs i) (bX bs (i+1))).ceil:Rat):=Rat.le_ceil
 obtain ⟨x,hx,ex⟩:=hT.lo_is.2
 have h5:=hT.hi_is.1 x hx
 rw [←ex]at h5
 have h6:((loQ l (bX bs i) (bX bs (i+1))).floor:Rat)≤((hiQ l (bX bs i) (bX bs (i+1))).ceil:Rat):=Rat.le_trans h3 (Rat.le_trans h5 h4)
 have h7:=cast_le_iff.1 h6
 unfold footI at h1
 unfold headI at h2
 omega
end
section
variable {bs F D:List Int} {h:Int}
theorem minL_le {l:List Int} (h0:0 < l.length):∀z∈l,minL l≤z:=by
 cases l with
 | nil=>simp at h0
 | cons a r=>
   intro z hz
   show r.foldl min a≤z
   have key:∀ (r:List Int) (a:Int),r.foldl min a≤a∧∀z∈r,r.foldl min a≤z:=by
    intro r
    induction r with
    | nil=>intro a;exact⟨Int.le_refl _,fun z hz=>by cases hz⟩
    | cons b r ih=>
      intro a
      rw [List.foldl_cons]
      have:=ih (min a b)
      refine⟨by omega,fun z hz=>?_⟩
      rcases List.mem_cons.1 hz with rfl | hz
      ·omega
      ·exact this.2 z hz
   rcases List.mem_cons.1 hz with rfl | hz
   ·exact(key r z).1
   ·exact(key r a).2 z hz
theorem le_maxL {l:List Int} (h0:0 < l.length):∀z∈l,z≤maxL l:=by
 cases l with
 | nil=>simp at h0
 | cons a r=>
   intro z hz
   show z≤r.foldl max a
   have key:∀ (r:List Int) (a:Int),a≤r.foldl max a∧∀z∈r,z≤r.foldl max a:=by
    intro r
    induction r with
    | nil=>intro a;exact⟨Int.le_refl _,fun z hz=>by cases hz⟩
    | cons b r ih=>
      intro a
      rw [List.foldl_cons]
      have:=ih (max a b)
      refine⟨by omega,fun z hz=>?_⟩
      rcases List.mem_cons.1 hz with rfl | hz
      ·omega
      ·exact this.2 z hz
   rcases List.mem_cons.1 hz with rfl | hz
   ·exact(key r z).1
   ·exact(key r a).2 z hz
theorem stand_row (hu:∀i,i < bs.length - 1→bX bs i < bX bs (i+1)) {x:Rw3} (hx:x∈rowsL bs F D h) {t:Nat} (ht:t < bs.length - 1):
  x.2.1=x.1+h∧x.2.2.length≤bs.length - 1∧∀b∈x.2.2,(covB (bX bs) t b=true∧bX F t≤x.1∧x.2.1≤bX D t)∨(covB (bX bs) t b=false∧(b.2≤bX bs t∨bX bs (t+1)≤b.1)):=by
 unfold rowsL at hx
 obtain ⟨k,_,rfl⟩:=rows_mem _ x hx
 have hB:=bay_ok (has:=hasR F D (minL F+(k:Nat)*h) h) hu (bs.length - 1) (Nat.le_refl _)
 refine⟨rfl,bayP_len _ _ _,fun b hb=>?_⟩
 cases hc:covB (bX bs) t b
 ·rcases hB.sep t ht b hb with h1 | h1
  ·rw [hc]at h1;cases h1
  ·exact .inr ⟨rfl,h1⟩
 ·left
  refine⟨rfl,?_⟩
  have h1:=hB.cnt t ht
  have h2:0 < (baysP bs F D (minL F+(k:Nat)*h) h (bs.length - 1)).countP (covB (bX bs) t):=List.countP_pos_iff.2 ⟨b,hb,hc⟩
  unfold baysP at h2
  rw [h1]at h2
  split at h2
  ·rename_i hh
   unfold hasR at hh
   rw [Bool.and_eq_true,decide_eq_true_iff,decide_eq_true_iff]at hh
   exact hh
  ·omega
theorem stand_up (hh:0≤h) {k:Nat} (h1:k+1 < (rowsL bs F D h).length):((rowsL bs F D h)[k]).2.1≤((rowsL bs F D h)[k+1]).1:=by
 have:=rows_up (bs:=bs) (feet:=F) (heads:=D) (low:=minL F) (n:=bs.length - 1) hh (rowN (minL F) (maxL D) h)
 exact List.pairwise_iff_getElem.1 this k (k+1) (by unfold rowsL at h1;omega) (by unfold rowsL at h1;exact h1) (by omega)
theorem stand_many (hu:∀i,i < bs.length - 1→bX bs i < bX bs (i+1)) (hh:1≤h) (hF:F.length=bs.length - 1) (hD:D.length=bs.length - 1) {t:Nat} (ht:t < bs.length - 1) (hle:bX F t≤bX D t):
  ((((rowsL bs F D h).map (cntT bs t)).sum:Nat):Int)=max 0 ((bX D t - minL F) / h - (bX F t - minL F+h - 1) / h):=by
 unfold rowsL
 rw [rows_count hu ht]
 have h1:minL F≤bX F t:=minL_le (by omega) _ (by rw [bX_at (show t < F.length by omega)];exact List.getElem_mem _)
 have h2:bX D t≤maxL D:=le_maxL (by omega) _ (by rw [bX_at (show t < D.length by omega)];exact List.getElem_mem _)
 exact has_count hh h1 hle h2
theorem sum_le {α:Type} (f:α→Nat) (c:Nat):∀l:List α,(∀x∈l,f x≤c)→(l.map f).sum≤c*l.length
 | [],_=>Nat.zero_le _
 | x::l,h=>by
   rw [List.map_cons,List.sum_cons,List.length_cons,Nat.mul_add]
   have:=sum_le f c l (fun y hy=>h y (List.mem_cons_of_mem _ hy))
   have:=h x List.mem_cons_self
   omega
theorem cntT_le (t:Nat) (x:Rw3):cntT bs t x≤x.2.2.length:=List.countP_le_length
theorem stand_low (hh:1≤h) {x:Rw3} (hx:x∈rowsL bs F D h):minL F≤x.1∧x.1+h≤maxL D:=by
 unfold rowsL at hx
 obtain ⟨k,hk,rfl⟩:=rows_mem _ x hx
 have h1:=(row_more (low:=minL F) (top:=maxL D) hh).1 hk
 have h2:=Int.mul_nonneg (show(0:Int)≤(k:Int)by omega) (show 0≤h by omega)
 dsimp only
 omega
end
end Go.Proofs.YthmdhlopeponcaaGreatDoor

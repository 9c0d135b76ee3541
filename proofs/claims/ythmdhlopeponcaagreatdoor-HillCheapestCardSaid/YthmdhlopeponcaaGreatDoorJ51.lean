/- the best cuts cost least (plain) -/
import Derived.Test.YthmdhlopeponcaaGreatDoorJ28
namespace Go.Proofs.YthmdhlopeponcaaGreatDoor
section
variable {l:List Pt} {a unit least depth:Int}
theorem cmp_lt {x y:Rat} (h:cmpQ x y < 0):x≤y:=by
 have:¬ 0≤cmpQ x y:=by omega
 rw [cmpQ_ge]at this
 grind
theorem cmp_ge {x y:Rat} (h:¬ cmpQ x y < 0):y≤x:=cmpQ_ge.1 (by omega)
theorem bet_yes {c:Ct} {o:Ct} (h:betB c (some o)=true):c.1≤o.1:=by
 unfold betB at h
 rw [Bool.or_eq_true,Bool.and_eq_true,decide_eq_true_iff,decide_eq_true_iff]at h
 rcases h with h | h
 ·exact cmp_lt h
 ·have h0:0≤cmpQ o.1 c.1:=by
   have:=h.1
   unfold cmpQ at this⊢
   by_cases e:c.1=o.1
   ·rw [if_pos e.symm];exact Int.le_refl 0
   ·rw [if_neg e]at this;split at this<;>omega
  exact cmpQ_ge.1 h0
theorem bet_no {c:Ct} {o:Ct} (h:betB c (some o)=false):o.1≤c.1:=by
 unfold betB at h
 rw [Bool.or_eq_false_iff,decide_eq_false_iff_not]at h
 exact cmp_ge h.1
def below? (c:Option Ct) (q:Rat):Prop:=∃d,c=some d∧d.1≤q
theorem pick_keeps {row:Nat→Option Ct} {k i:Nat} {cur:Option Ct} {q:Rat} (h:below? cur q):below? (pickC l a unit least depth row k i cur) q:=by
 unfold pickC
 split
 ·exact h
 ·rename_i c hc
  split
  ·exact h
  ·obtain ⟨d,rfl,hd⟩:=h
   split
   ·rename_i hb
    exact⟨_,rfl,Rat.le_trans (bet_yes hb) hd⟩
   ·exact⟨d,rfl,hd⟩
theorem pick_takes {row:Nat→Option Ct} {k i:Nat} {cur:Option Ct} {c:Ct} (hr:row i=some c) (hl:¬ ((k:Int) - (i:Int))*unit < least):below? (pickC l a unit least depth row k i cur) (c.1+costI l a unit depth i k):=by
 unfold pickC
 rw [hr]
 dsimp only
 rw [if_neg hl]
 split
 ·exact⟨_,rfl,Rat.le_refl⟩
 ·rename_i hb
  cases cur with
  | none=>exact absurd rfl hb
  | some o=>exact⟨o,rfl,bet_no (by simpa using hb)⟩
theorem next_takes {row:Nat→Option Ct} {k:Nat} {i:Nat} {c:Ct} (hr:row i=some c) (hl:¬ ((k:Int) - (i:Int))*unit < least):∀m,i < m→below? (nextC l a unit least depth row k m) (c.1+costI l a unit depth i k)
 | 0,h=>absurd h (Nat.not_lt_zero i)
 | m+1,h=>by
   unfold nextC
   rcases Nat.lt_succ_iff_lt_or_eq.1 h with h1 | rfl
   ·exact pick_keeps (next_takes hr hl m h1)
   ·exact pick_takes hr hl
theorem below_le {c:Option Ct} {p q:Rat} (h:below? c p) (hq:p≤q):below? c q:=by
 obtain ⟨d,e,hd⟩:=h
 exact⟨d,e,Rat.le_trans hd hq⟩
theorem row_least {n:Nat} {t j:Nat} {bs:List Int} {q:Rat} (h:Chn l a unit least depth t j bs q) (hj:j≤n):below? (rowC l a unit least depth n t j) q:=by
 induction h with
 | zero=>exact⟨(0,[a]),rfl,Rat.le_refl⟩
 | @step t i j bs c h hij hl ih=>
   obtain ⟨d,hd,hle⟩:=ih (by omega)
   unfold rowC
   rw [if_pos (by omega)]
   refine below_le (next_takes hd hl j hij) ?_
   grind
theorem take_left {c b:Option Ct} {q:Rat} (h:below? c q):below? (takeC c b) q:=by
 obtain ⟨d,rfl,hd⟩:=h
 unfold takeC
 cases b with
 | none=>exact⟨d,rfl,hd⟩
 | some o=>
   dsimp only
   split
   ·exact⟨d,rfl,hd⟩
   ·rename_i hb
    exact⟨o,rfl,Rat.le_trans (cmp_ge hb) hd⟩
theorem take_right {c b:Option Ct} {q:Rat} (h:below? b q):below? (takeC c b) q:=by
 obtain ⟨o,rfl,ho⟩:=h
 unfold takeC
 cases c with
 | none=>exact⟨o,rfl,ho⟩
 | some d=>
   dsimp only
   split
   ·rename_i hb
    exact⟨d,rfl,Rat.le_trans (cmp_lt hb) ho⟩
   ·exact⟨o,rfl,ho⟩
theorem best_least {n:Nat} {t:Nat} {bs:List Int} {q:Rat} (h:Chn l a unit least depth t n bs q) (h0:1≤t):∀mo,t≤mo→below? (bestC l a unit least depth n mo) q
 | 0,hm=>by omega
 | mo+1,hm=>by
   unfold bestC
   rcases Nat.lt_succ_iff_lt_or_eq.1 (Nat.lt_succ_of_le hm)with h1 | rfl
   ·exact take_right (best_least h h0 mo (by omega))
   ·exact take_left (row_least h (Nat.le_refl _))
theorem best_chn {n:Nat} :∀ {mo:Nat} {c:Ct},bestC l a unit least depth n mo=some c→∃t,1≤t∧t≤mo∧Chn l a unit least depth t n c.2 c.1
 | 0,c,h=>by cases h
 | mo+1,c,h=>by
   unfold bestC takeC at h
   have key:rowC l a unit least depth n (mo+1) n=some c∨bestC l a unit least depth n mo=some c:=by
    split at h
    ·exact .inr h
    ·rename_i e _;exact .inl (e.trans h)
    ·rename_i e1 e2
     split at h
     ·exact .inl (e1.trans h)
     ·exact .inr (e2.trans h)
   rcases key with h1 | h1
   ·exact⟨mo+1,by omega,Nat.le_refl _,row_chn h1⟩
   ·obtain ⟨t,h2,h3,h4⟩:=best_chn h1
    exact⟨t,h2,by omega,h4⟩
theorem Chn.weak {least':Int} (hle:least'≤least) {t j:Nat} {bs:List Int} {q:Rat} (h:Chn l a unit least depth t j bs q):Chn l a unit least' depth t j bs q:=by
 induction h with
 | zero=>exact .zero
 | step h hij hl ih=>exact .step ih hij (by omega)
theorem chn_one {n:Nat} (h0:0 < n) (hl:least≤(n:Int)*unit):∃bs q,Chn l a unit least depth 1 n bs q:=
 ⟨_,_,.step .zero h0 (by rw [Int.natCast_zero,Int.sub_zero];omega)⟩
theorem Chn.steps {t j:Nat} {bs:List Int} {q:Rat} (h:Chn l a unit least depth t j bs q):(∀i,i+1 < bs.length→least≤bX bs (i+1) - bX bs i)∧∀i,i < bs.length→∃k:Nat,bX bs i=atC a unit k:=by
 induction h with
 | zero=>exact⟨fun i hi=>by simp at hi,fun i hi=>⟨0,by obtain rfl:i=0:=by simpa using hi
                                                       rw [atC_zero];rfl⟩⟩
 | @step t i j bs c h hij hl ih=>
   obtain ⟨pre,rfl⟩:=h.last
   have hlast:∀i,i < (pre++ [atC a unit i]).length→True:=fun _ _=>trivial
   have hl1:(pre++ [atC a unit i]).length=pre.length+1:=by simp
   have hlt:∀m,m < (pre++ [atC a unit i]).length→bX (pre++ [atC a unit i]++ [atC a unit j]) m=bX (pre++ [atC a unit i]) m:=fun m hm=>by
    unfold bX
    rw [List.getD_eq_getElem?_getD,List.getD_eq_getElem?_getD,List.getElem?_append_left hm]
   have hend:bX (pre++ [atC a unit i]++ [atC a unit j]) (pre.length+1)=atC a unit j:=by
    unfold bX
    rw [List.getD_eq_getElem?_getD,List.getElem?_append_right (by rw [hl1];exact Nat.le_refl _),hl1,Nat.sub_self];rfl
   have hpre:bX (pre++ [atC a unit i]) pre.length=atC a unit i:=by
    unfold bX
    rw [List.getD_eq_getElem?_getD,List.getElem?_append_right (Nat.le_refl _),Nat.sub_self];rfl
   have hl2:(pre++ [atC a unit i]++ [atC a unit j]).length=pre.length+2:=by simp
   refine⟨fun m hm=>?_,fun m hm=>?_⟩
   ·rw [hl2]at hm
    by_cases e:m=pre.length
    ·subst e
     rw [hend,hlt _ (by rw [hl1];omega),hpre]
     unfold atC
     have:((j:Int) - (i:Int))*unit=(j:Int)*unit - (i:Int)*unit:=Int.sub_mul ..
     omega
    ·rw [hlt m (by rw [hl1];omega),hlt (m+1) (by rw [hl1];omega)]
     exact ih.1 m (by rw [hl1];omega)
   ·rw [hl2]at hm
    by_cases e:m=pre.length+1
    ·subst e
     exact⟨j,hend⟩
    ·rw [hlt m (by rw [hl1];omega)]
     exact ih.2 m (by rw [hl1];omega)
theorem chn_of (hu:1≤unit) (hl:1≤least):∀ (bs:List Int),1≤bs.length→bX bs 0=a→(∀i,i+1 < bs.length→least≤bX bs (i+1) - bX bs i)→(∀i,i < bs.length→(bX bs i - a) % unit=0)→
  ∃j:Nat,bX bs (bs.length - 1)=atC a unit j∧∃q,Chn l a unit least depth (bs.length - 1) j bs q:=by
 intro bs
 generalize hn:bs.length=m
 induction m generalizing bs with
 | zero=>intro h;omega
 | succ m ih=>
   intro _ h0 hs hd
   rcases List.eq_nil_or_concat bs with e | ⟨pre,x,e⟩
   ·subst e;simp at hn
   rw [List.concat_eq_append]at e
   subst e
   have hpl:pre.length=m:=by simpa using hn
   have hlt:∀i,i < m→bX (pre++ [x]) i=bX pre i:=fun i hi=>by
    unfold bX
    rw [List.getD_eq_getElem?_getD,List.getD_eq_getElem?_getD,List.getElem?_append_left (by omega)]
   have hend:bX (pre++ [x]) m=x:=by
    unfold bX
    rw [List.getD_eq_getElem?_getD,List.getElem?_append_right (by omega),hpl,Nat.sub_self];rfl
   rw [Nat.add_sub_cancel]
   rcases Nat.eq_zero_or_pos m with e | hm
   ·subst e
    obtain rfl:pre= []:=List.length_eq_zero_iff.1 hpl
    rw [hend]at h0
    subst h0
    exact⟨0,by rw [hend,atC_zero],0,.zero⟩
   ·obtain ⟨i,hi,q,hc⟩:=ih pre hpl hm (by rw [←hlt 0 hm];exact h0) (fun i hi=>by rw [←hlt i (by omega),←hlt (i+1) hi];exact hs i (by omega)) (fun i hi=>by rw [←hlt i hi];exact hd i (by omega))
    have hx:=hs (m - 1) (by omega)
    rw [show m - 1+1=m by omega,hend,hlt (m - 1) (by omega),hi]at hx
    have hd':=hd m (by omega)
    rw [hend]at hd'
    have hge:0≤x - a:=by
     unfold atC at hx
     have:=Int.mul_nonneg (show 0≤(i:Int)by omega) (show 0≤unit by omega)
     omega
    have hq:(x - a) / unit*unit=x - a:=Int.ediv_mul_cancel (Int.dvd_of_emod_eq_zero hd')
    have hqn:0≤(x - a) / unit:=Int.ediv_nonneg hge (by omega)
    obtain ⟨j,hj⟩:=Int.eq_ofNat_of_zero_le hqn
    rw [hj]at hq
    have hxj:x=atC a unit j:=by unfold atC;omega
    have hij:i < j:=by
     rcases Nat.lt_or_ge i j with h | h
     ·exact h
     ·have:=atC_le (a:=a) hu h
      omega
    refine⟨j,by rw [hend];exact hxj,q+costI l a unit depth i j,?_⟩
    have:=Chn.step hc hij (by
     rw [hxj]at hx
     unfold atC at hx
     have:((j:Int) - (i:Int))*unit=(j:Int)*unit - (i:Int)*unit:=Int.sub_mul ..
     omega)
    rw [←hxj,show m - 1+1=m by omega]at this
    exact this
theorem atC_inj (hu:1≤unit) {i j:Nat} (h:atC a unit i=atC a unit j):i=j:=by
 rcases Nat.lt_trichotomy i j with h1 | h1 | h1
 ·have:=atC_lt (a:=a) hu h1;omega
 ·exact h1
 ·have:=atC_lt (a:=a) hu h1;omega
end
end Go.Proofs.YthmdhlopeponcaaGreatDoor

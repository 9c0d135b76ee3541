/- the loads of a least carrying are a carrying at its cost (plain) -/
import Derived.Test.YteogibpmpppgmaaGreatK10
import Derived.Test.YteogibpmpppgmaaGreatH18
namespace Go.Proofs.YteogibpmpppgmaaGreat
open Go.RowKit

theorem sumBy_append {α : Type} (f : α → Int) (l r : List α) : sumBy f (l ++ r) = sumBy f l + sumBy f r := by unfold sumBy; rw [List.map_append, lsum_append]
theorem sumBy_cons {α : Type} (f : α → Int) (x : α) (l : List α) : sumBy f (x :: l) = f x + sumBy f l := by unfold sumBy; rw [List.map_cons, lsum_cons]
theorem sumBy_row (f : I3 → Int) (X : Nat → Nat → Int) (i : Nat) : ∀ nn, sumBy f ((List.range nn).flatMap (ldOf X i)) = rsum (fun k => if 0 < X i k then f ((i : Int), (k : Int), X i k) else 0) nn
  | 0 => rfl
  | nn + 1 => by
    rw [row_succ, sumBy_append, sumBy_row f X i nn]
    have h : sumBy f (ldOf X i nn) = if 0 < X i nn then f ((i : Int), (nn : Int), X i nn) else 0 := by
      unfold ldOf
      split
      · rw [sumBy_cons]; exact Int.add_zero _
      · rfl
    rw [h]
    rfl
theorem sumBy_loads (f : I3 → Int) (X : Nat → Nat → Int) (nn : Nat) : ∀ np, sumBy f (loadsOf np nn X) = rsum (fun i => rsum (fun k => if 0 < X i k then f ((i : Int), (k : Int), X i k) else 0) nn) np
  | 0 => rfl
  | np + 1 => by
    rw [loadsOf_succ, sumBy_append, sumBy_loads f X nn np]
    unfold loadRow
    rw [sumBy_row]
    rfl
theorem put_sum (j : I3 → Nat) (i : Nat) : ∀ (l : List I3) (g : List Int), (∀ x ∈ l, j x < g.length) → (l.foldl (fun g x => putL g (j x) x.2.2) g).getD i 0 = g.getD i 0 + sumBy (fun x => if j x = i then x.2.2 else 0) l
  | [], g, _ => by show _ = _ + (0 : Int); rw [Int.add_zero]; rfl
  | x :: l, g, h => by
    rw [List.foldl_cons, put_sum j i l _ (fun y hy => by rw [putL_len]; exact h y (List.mem_cons_of_mem _ hy)), putL_at i (h x (List.mem_cons_self ..)), sumBy_cons]
    split
    · rename_i e; rw [e]; omega
    · omega
theorem cost_sum (P : List I3) (N : List I2) : ∀ (l : List I3) (c : Int), l.foldl (fun c x => c + x.2.2 * unitAt P N x) c = c + sumBy (fun x => x.2.2 * unitAt P N x) l
  | [], c => by show c = c + (0 : Int); omega
  | x :: l, c => by rw [List.foldl_cons, cost_sum P N l, sumBy_cons]; omega
theorem given_sum {np : Nat} {l : List I3} (h : ∀ x ∈ l, x.1.toNat < np) (i : Nat) : (givenL np l).getD i 0 = sumBy (fun x => if x.1.toNat = i then x.2.2 else 0) l := by
  unfold givenL
  rw [put_sum (fun x => x.1.toNat) i l _ (fun x hx => by rw [List.length_replicate]; exact h x hx), rep0, Int.zero_add]
theorem got_sum {nn : Nat} {l : List I3} (h : ∀ x ∈ l, x.2.1.toNat < nn) (i : Nat) : (gotL nn l).getD i 0 = sumBy (fun x => if x.2.1.toNat = i then x.2.2 else 0) l := by
  unfold gotL
  rw [put_sum (fun x => x.2.1.toNat) i l _ (fun x hx => by rw [List.length_replicate]; exact h x hx), rep0, Int.zero_add]
theorem costL_sum (P : List I3) (N : List I2) (l : List I3) : costL P N l = sumBy (fun x => x.2.2 * unitAt P N x) l := by
  unfold costL; rw [cost_sum, Int.zero_add]
theorem lds_pair {np nn : Nat} {l : List I3} (h1 : ∀ x ∈ l, ldIn np nn x = true) (h2 : l.Pairwise fun y x => ldUp y x = true) : ldsOk np nn l = true := by
  refine lds_yes fun i hi => ?_
  unfold ldOk
  rw [getD_at3 hi, h1 _ (List.getElem_mem hi), Bool.true_and]
  rcases Nat.eq_zero_or_pos i with h | h
  · rw [decide_eq_true h]; rfl
  · rw [getD_at3 (by omega), List.pairwise_iff_getElem.1 h2 (i - 1) i (by omega) hi (by omega), Bool.or_true]
theorem mem_ldOf {X : Nat → Nat → Int} {i k : Nat} {x : I3} (h : x ∈ ldOf X i k) : x = ((i : Int), (k : Int), X i k) ∧ 0 < X i k := by
  unfold ldOf at h
  split at h
  · rename_i h0; exact ⟨List.mem_singleton.1 h, h0⟩
  · cases h
theorem mem_loads {X : Nat → Nat → Int} {np nn : Nat} {x : I3} (h : x ∈ loadsOf np nn X) : ∃ i k : Nat, i < np ∧ k < nn ∧ x = ((i : Int), (k : Int), X i k) ∧ 0 < X i k := by
  unfold loadsOf loadRow at h
  obtain ⟨i, hi, h1⟩ := List.mem_flatMap.1 h
  obtain ⟨k, hk, h2⟩ := List.mem_flatMap.1 h1
  exact ⟨i, k, List.mem_range.1 hi, List.mem_range.1 hk, mem_ldOf h2⟩
theorem loads_up (X : Nat → Nat → Int) (np nn : Nat) : (loadsOf np nn X).Pairwise fun y x => ldUp y x = true := by
  unfold loadsOf loadRow
  rw [List.pairwise_flatMap]
  refine ⟨fun i _ => ?_, ?_⟩
  · rw [List.pairwise_flatMap]
    refine ⟨fun k _ => ?_, ?_⟩
    · unfold ldOf; split
      · exact List.pairwise_singleton _ _
      · exact List.Pairwise.nil
    · refine List.Pairwise.imp (fun {a b} hab x hx y hy => ?_) List.pairwise_lt_range
      obtain ⟨rfl, _⟩ := mem_ldOf hx
      obtain ⟨rfl, _⟩ := mem_ldOf hy
      unfold ldUp
      dsimp only
      rw [decide_eq_false (by omega), decide_eq_false (show ¬ ((b : Int) ≤ (a : Int)) by omega)]
      simp
  · refine List.Pairwise.imp (fun {a b} hab x hx y hy => ?_) List.pairwise_lt_range
    obtain ⟨k, _, h1⟩ := List.mem_flatMap.1 hx
    obtain ⟨m, _, h2⟩ := List.mem_flatMap.1 hy
    obtain ⟨rfl, _⟩ := mem_ldOf h1
    obtain ⟨rfl, _⟩ := mem_ldOf h2
    unfold ldUp
    dsimp only
    rw [decide_eq_false (show ¬ ((b : Int) < (a : Int)) by omega), decide_eq_false (show ¬ ((b : Int) = (a : Int)) by omega)]
    rfl
theorem inB_true {x lo hi : Int} (h0 : lo ≤ x) (h1 : x ≤ hi) : inB x lo hi = true := inB_iff.2 ⟨h0, h1⟩
/-- the loads of a matrix of small numbers whose rows and columns are right -/
theorem loads_carry {P : List I3} {N : List I2} {X : Nat → Nat → Int} (h0 : ∀ i k, i < P.length → k < N.length → 0 ≤ X i k ∧ X i k ≤ 1000000) (hr : ∀ i, i < P.length → rsum (fun k => X i k) N.length ≤ hA P i) (hc : ∀ k, k < N.length → rsum (fun i => X i k) P.length = hB N k) :
    carryOk P N (loadsOf P.length N.length X) = true ∧ costL P N (loadsOf P.length N.length X) = costN P.length N.length (costC P N) X := by
  have hx : ∀ i k, i < P.length → k < N.length → (if 0 < X i k then X i k else 0) = X i k := fun i k hi hk => by
    have := h0 i k hi hk
    split <;> omega
  refine ⟨ok_yes (lds_pair (fun x hm => ?_) (loads_up X _ _)) (given_yes fun i hi => ?_) (got_yes fun k hk => ?_), ?_⟩
  · obtain ⟨i, k, hi, hk, rfl, hp⟩ := mem_loads hm
    have := h0 i k hi hk
    unfold ldIn
    dsimp only
    rw [inB_true (by omega) (by omega), inB_true (by omega) (by omega), inB_true (by omega) (by omega)]
    rfl
  · rw [given_sum (fun x hm => by obtain ⟨i, k, hi, hk, rfl, hp⟩ := mem_loads hm; exact hi), sumBy_loads]
    refine Int.le_trans (Int.le_of_eq ?_) (hr i hi)
    rw [rsum_one (g := fun _ => 0) (j := i) P.length hi, rsum_zero, Int.zero_add, Int.sub_zero]
    · exact rsum_congr _ fun k hk => by dsimp only; rw [Int.toNat_natCast, if_pos rfl]; exact hx i k hi hk
    · intro j hj hne
      refine (rsum_congr (g := fun _ => 0) _ fun k hk => ?_).trans (rsum_zero _)
      dsimp only
      rw [Int.toNat_natCast, if_neg hne]
      split <;> rfl
  · rw [got_sum (fun x hm => by obtain ⟨i, k, hi, hk, rfl, hp⟩ := mem_loads hm; exact hk), sumBy_loads, ← hc k hk]
    refine rsum_congr _ fun i hi => ?_
    rw [rsum_one (g := fun _ => 0) (j := k) N.length hk, rsum_zero, Int.zero_add, Int.sub_zero]
    · dsimp only; rw [Int.toNat_natCast, if_pos rfl]; exact hx i k hi hk
    · intro j hj hne
      dsimp only
      rw [Int.toNat_natCast, if_neg hne]
      split <;> rfl
  · rw [costL_sum, sumBy_loads]
    unfold costN
    refine rsum_congr _ fun i hi => rsum_congr _ fun k hk => ?_
    unfold unitAt costC
    dsimp only
    rw [Int.toNat_natCast, Int.toNat_natCast]
    have := h0 i k hi hk
    split
    · rfl
    · rw [show X i k = 0 by omega, Int.zero_mul]
theorem yinv_carry {P : List I3} {N : List I2} {X : Nat → Nat → Int} {G T : Nat → Int} (hG : YGood P N) (Y : YInv P.length N.length (hA P) (hB N) (costC P N) X G T) (hd : ∀ k, k < N.length → T k = hB N k) :
    carryOk P N (loadsOf P.length N.length X) = true ∧ costL P N (loadsOf P.length N.length X) = costN P.length N.length (costC P N) X :=
  loads_carry (yinv_small hG Y) (fun i hi => by rw [← Y.row i hi]; exact Y.ga i hi) (fun k hk => by rw [← Y.col k hk]; exact hd k hk)
/-- prices are a proof -/
theorem priced_proof {P : List I3} {N : List I2} {X : Nat → Nat → Int} {u v : List Int} (hu : u.length = P.length) (hv : v.length = N.length) (h : Priced P.length N.length (hA P) (hB N) (costC P N) X (fun i => u.getD i 0) (fun k => v.getD k 0)) :
    proofB P N (costN P.length N.length (costC P N) X) u v = true := by
  rw [proof_yes hu hv (us_yes fun i hi => inB_iff.2 (h.u0 i (by omega))) (us_yes fun i hi => inB_iff.2 (h.v0 i (by omega))) (pairs_yes fun k hk i hi => h.uv i k hi hk)]
  exact decide_eq_true h.sum
end Go.Proofs.YteogibpmpppgmaaGreat

/- a least carrying, plain: how long a chain is, how it begins and ends, and how the loads are changed hop by hop -/
import Derived.Test.YteogibpmpppgmaaG8
namespace Go.Proofs.Yteogibpmpppgmaa

theorem nodup_lt : ∀ (n : Nat) (l : List Nat), l.Nodup → (∀ x ∈ l, x < n) → l.length ≤ n
  | 0, l, _, h => by
    cases l with
    | nil => exact Nat.le_refl _
    | cons x l => exact absurd (h x (List.mem_cons_self ..)) (Nat.not_lt_zero _)
  | n + 1, l, hn, h => by
    have h1 := nodup_lt n (l.erase n) (hn.erase n) (fun x hx => by
      have h2 := h x (List.mem_of_mem_erase hx)
      have h3 : x ≠ n := fun e => by subst e; exact hn.not_mem_erase hx
      omega)
    rw [List.length_erase] at h1
    split at h1 <;> omega
section
variable {np nn : Nat} {C X : Nat → Nat → Int} {F : Nat → Bool} {q0 q1 : Nat → Int} {s : RS}
/-- the piles of a chain -/
def pilesP (s : RS) : Nat → Nat → List Nat
  | 0, i => [i]
  | n + 1, i => i :: pilesP s n (s.b1.getD (s.b0.getD i hop0).k hop0).i
theorem pilesP_len : ∀ {n i : Nat}, (pilesP s n i).length = n + 1
  | 0, _ => rfl
  | n + 1, _ => by unfold pilesP; rw [List.length_cons, pilesP_len]
theorem pilesP_pd : ∀ {n i : Nat}, PD s n i → ∀ j ∈ pilesP s n i, ∃ m, m ≤ n ∧ PD s m j
  | 0, i, h, j, hj => by
    unfold pilesP at hj
    rcases List.mem_singleton.1 hj with rfl
    exact ⟨0, Nat.le_refl _, h⟩
  | n + 1, i, h, j, hj => by
    unfold pilesP at hj
    rcases List.mem_cons.1 hj with rfl | hj
    · exact ⟨n + 1, Nat.le_refl _, h⟩
    · obtain ⟨m, h1, h2⟩ := pilesP_pd h.2 j hj
      exact ⟨m, by omega, h2⟩
theorem pilesP_nodup : ∀ {n i : Nat}, PD s n i → (pilesP s n i).Nodup
  | 0, i, _ => by unfold pilesP; simp
  | n + 1, i, h => by
    unfold pilesP
    refine List.nodup_cons.2 ⟨fun hm => ?_, pilesP_nodup h.2⟩
    obtain ⟨m, h1, h2⟩ := pilesP_pd h.2 i hm
    have := PD.unique h h2
    omega
theorem pilesP_lt (I : RInv np nn C X F q0 q1 s) : ∀ {n i : Nat}, i < np → PD s n i → ∀ j ∈ pilesP s n i, j < np
  | 0, i, hi, _, j, hj => by
    unfold pilesP at hj
    rcases List.mem_singleton.1 hj with rfl
    exact hi
  | n + 1, i, hi, h, j, hj => by
    unfold pilesP at hj
    rcases List.mem_cons.1 hj with rfl | hj
    · exact hi
    · obtain ⟨_, _, _, _, _, _, _, _, a9⟩ := climbP_steps I hi h
      exact pilesP_lt I a9 h.2 j hj
theorem pd_lt (I : RInv np nn C X F q0 q1 s) {n i : Nat} (hi : i < np) (hp : PD s n i) : n < np := by
  have := nodup_lt np _ (pilesP_nodup hp) (pilesP_lt I hi hp)
  rw [pilesP_len] at this
  omega
theorem climbP_len : ∀ {n i : Nat}, (climbP s n i).length = 2 * n
  | 0, _ => rfl
  | n + 1, _ => by unfold climbP; rw [List.length_cons, List.length_cons, climbP_len]; omega
theorem climb_len {n k : Nat} : (climb s n k).length = 2 * n + 1 := by unfold climb; rw [List.length_cons, climbP_len]
theorem climb_last_ : ∀ (n : Nat) (h : Hop), ((h :: climbP s n h.i).getD (2 * n) hop0).i = rootP s n h.i
  | 0, h => rfl
  | n + 1, h => by
    have := climb_last_ n (s.b1.getD (s.b0.getD h.i hop0).k hop0)
    rw [show 2 * (n + 1) = 2 * n + 1 + 1 by omega]
    unfold climbP rootP
    rw [List.getD_cons_succ, List.getD_cons_succ]
    exact this
theorem climb_last {n k : Nat} : ((climb s n k).getD ((climb s n k).length - 1) hop0).i = rootP s n (s.b1.getD k hop0).i := by
  rw [climb_len, Nat.add_sub_cancel]
  exact climb_last_ n _
theorem chainD_snoc (l : List Hop) (h : Hop) (i k : Nat) : chainD (l ++ [h]) i k = chainD l i k + hopD h i k := by
  induction l with
  | nil => show hopD h i k + 0 = 0 + hopD h i k; omega
  | cons x l ih =>
    show hopD x i k + chainD (l ++ [h]) i k = hopD x i k + chainD l i k + hopD h i k
    rw [ih]; omega
theorem hopD_bd (h : Hop) (i k : Nat) : -1 ≤ hopD h i k ∧ hopD h i k ≤ 1 := by
  unfold hopD sg
  split
  · split <;> omega
  · omega
theorem chainD_bd : ∀ (l : List Hop) (i k : Nat), -(l.length : Int) ≤ chainD l i k ∧ chainD l i k ≤ l.length
  | [], _, _ => by unfold chainD; simp
  | h :: l, i, k => by
    have h1 := hopD_bd h i k
    have h2 := chainD_bd l i k
    show -((l.length + 1 : Nat) : Int) ≤ hopD h i k + chainD l i k ∧ hopD h i k + chainD l i k ≤ ((l.length + 1 : Nat) : Int)
    omega
end
section
variable {np nn : Nat} {A B : Nat → Int} {C X X' : Nat → Nat → Int} {G T G' T' : Nat → Int}
theorem Feas.congr {q0 q1 : Nat → Int} (h : Feas np nn C X q0 q1) (hx : ∀ i k, i < np → k < nn → X' i k = X i k) : Feas np nn C X' q0 q1 :=
  ⟨h.n0, h.n1, h.fwd, fun i k hi hk h1 => h.bwd i k hi hk (by rw [← hx i k hi hk]; exact h1)⟩
theorem YInv.congr (Y : YInv np nn A B C X G T) (hx : ∀ i k, i < np → k < nn → X' i k = X i k) (hg : ∀ i, i < np → G' i = G i) (ht : ∀ k, k < nn → T' k = T k) : YInv np nn A B C X' G' T' where
  n0 := Y.n0
  n1 := Y.n1
  c0 := Y.c0
  x0 i k hi hk := by rw [hx i k hi hk]; exact Y.x0 i k hi hk
  row i hi := by rw [hg i hi, Y.row i hi]; exact rsum_congr _ fun k hk => (hx i k hi hk).symm
  col k hk := by rw [ht k hk, Y.col k hk]; exact rsum_congr _ fun i hi => (hx i k hi hk).symm
  ga i hi := by rw [hg i hi]; exact Y.ga i hi
  tb k hk := by rw [ht k hk]; exact Y.tb k hk
  pot := by
    obtain ⟨p0, p1, h1, h2, h3, h4⟩ := Y.pot
    exact ⟨p0, p1, h1.congr hx, h2, h3, fun i hi h => h4 i hi (by rw [← hg i hi]; exact h)⟩
/-- a row's entry is no more than the row -/
theorem rsum_entry {f : Nat → Int} : ∀ {n j : Nat}, j < n → (∀ i, i < n → 0 ≤ f i) → f j ≤ rsum f n
  | n + 1, j, h, h0 => by
    show f j ≤ rsum f n + f n
    have h1 := rsum_nonneg n fun i hi => h0 i (by omega)
    have h2 := h0 n (by omega)
    rcases Nat.lt_or_ge j n with h3 | h3
    · have := rsum_entry h3 fun i hi => h0 i (by omega)
      omega
    · obtain rfl : j = n := by omega
      omega
theorem YInv.xle (Y : YInv np nn A B C X G T) {i k : Nat} (hi : i < np) (hk : k < nn) : X i k ≤ A i := by
  have h1 := rsum_entry (f := fun k => X i k) hk fun k hk => Y.x0 i k hi hk
  have h2 := Y.row i hi
  have h3 := Y.ga i hi
  omega
/-- a cheapest chain, or nothing where nothing lacks -/
def IsChain (np nn : Nat) (A B : Nat → Int) (C X : Nat → Nat → Int) (G T : Nat → Int) (l : List Hop) : Prop :=
  (l = [] ∧ ∀ k, k < nn → T k = B k) ∨ ∃ s n k p0 p1, RInv np nn C X (fun i => decide (G i < A i)) p0 p1 s ∧ (∀ i, i < np → 0 ≤ p0 i ∧ p0 i ≤ capN) ∧ (∀ k, k < nn → 0 ≤ p1 k ∧ p1 k ≤ capN) ∧ Fixed np nn C X s ∧ k < nn ∧ T k < B k ∧ s.d1.getD k 0 < farN ∧
    PD s n (s.b1.getD k hop0).i ∧ rootP s n (s.b1.getD k hop0).i < np ∧ G (rootP s n (s.b1.getD k hop0).i) < A (rootP s n (s.b1.getD k hop0).i) ∧ l = climb s n k
/-- what is known of a chain, and what may be brought along it -/
theorem chain_facts (Y : YInv np nn A B C X G T) (hE : rsum B nn ≤ rsum A np) {l : List Hop} (h : IsChain np nn A B C X G T l) (hne : l ≠ []) :
    0 < l.length ∧ l.length ≤ 39 ∧ (∀ x ∈ l, isHop np nn C X x) ∧ ∃ k r, (l.getD 0 hop0).k = k ∧ (l.getD (l.length - 1) hop0).i = r ∧ k < nn ∧ r < np ∧ T k < B k ∧ G r < A r ∧
      ∀ m, 0 ≤ m → m ≤ B k - T k → m ≤ A r - G r → (∀ x ∈ l, x.b = true → m ≤ X x.i x.k) →
        YInv np nn A B C (fun i k' => X i k' + m * chainD l i k') (fun i => G i + if r = i then m else 0) (fun k' => T k' + if k = k' then m else 0) := by
  rcases h with ⟨h, _⟩ | ⟨s, n, k, p0, p1, I, b0, b1, hX, hk, hl, hf, hP, hr, hg, rfl⟩
  · exact absurd h hne
  obtain ⟨c1, c2, c3⟩ := climb_hops I hk hf hP
  obtain ⟨d1, d2, d3, d4⟩ := I.p1 k hk hf
  have hn := pd_lt I d1.1 hP
  have h20 := Y.n0
  refine ⟨by rw [climb_len]; omega, by rw [climb_len]; omega, fun x hx => (c1 x hx).1, k, rootP s n (s.b1.getD k hop0).i, d2, climb_last, hk, hr, hl, hg, fun m h0 h1 h2 h3 => ?_⟩
  exact y_step Y hE b0 b1 I hX hk hl hP h0 h1 h2 h3
end
end Go.Proofs.Yteogibpmpppgmaa

/- a least carrying, plain: the yard's state, one chain more, and the prices that prove it least -/
/- a least carrying, plain: how long a chain is, how it begins and ends, and how the loads are changed hop by hop -/
/- the loads of a yard, plain: their list, its cost -/
import Derived.Test.YtchignmnnbepnaaGreatJ34
namespace Go.Proofs.YtchignmnnbepnaaGreat

def capN : Int := 1200000
section
variable {np nn : Nat} {A B : Nat → Int} {C X : Nat → Nat → Int} {G T : Nat → Int}
structure YInv (np nn : Nat) (A B : Nat → Int) (C X : Nat → Nat → Int) (G T : Nat → Int) : Prop where
  n0 : np ≤ 20
  n1 : nn ≤ 20
  c0 : ∀ i k, i < np → k < nn → 0 ≤ C i k ∧ C i k ≤ capN
  x0 : ∀ i k, i < np → k < nn → 0 ≤ X i k
  row : ∀ i, i < np → G i = rsum (fun k => X i k) nn
  col : ∀ k, k < nn → T k = rsum (fun i => X i k) np
  ga : ∀ i, i < np → G i ≤ A i
  tb : ∀ k, k < nn → T k ≤ B k
  pot : ∃ p0 p1, Feas np nn C X p0 p1 ∧ (∀ i, i < np → 0 ≤ p0 i ∧ p0 i ≤ capN) ∧ (∀ k, k < nn → 0 ≤ p1 k ∧ p1 k ≤ capN) ∧ ∀ i, i < np → G i < A i → p0 i = 0
theorem y_start (n0 : np ≤ 20) (n1 : nn ≤ 20) (c0 : ∀ i k, i < np → k < nn → 0 ≤ C i k ∧ C i k ≤ capN) (ha : ∀ i, i < np → 0 ≤ A i) (hb : ∀ k, k < nn → 0 ≤ B k) : YInv np nn A B C (fun _ _ => 0) (fun _ => 0) (fun _ => 0) :=
  ⟨n0, n1, c0, fun _ _ _ _ => Int.le_refl _, fun _ _ => (rsum_zero nn).symm, fun _ _ => (rsum_zero np).symm, ha, hb, fun _ => 0, fun _ => 0,
    ⟨n0, n1, fun i k hi hk => by have := (c0 i k hi hk).1; omega, fun _ _ _ _ h => absurd h (by decide)⟩, fun _ _ => ⟨Int.le_refl _, (by decide : (0 : Int) ≤ capN)⟩, fun _ _ => ⟨Int.le_refl _, (by decide : (0 : Int) ≤ capN)⟩, fun _ _ _ => rfl⟩
theorem YInv.total (Y : YInv np nn A B C X G T) : rsum G np = rsum T nn := by
  rw [rsum_congr np Y.row, rsum_congr nn Y.col, rsum_swap]
/-- where a need lacks something, a pile has something left -/
theorem YInv.some_left (Y : YInv np nn A B C X G T) (hE : rsum B nn ≤ rsum A np) {k : Nat} (hk : k < nn) (hl : T k < B k) : ∃ i, i < np ∧ G i < A i := by
  apply Classical.byContradiction
  intro hno
  have h1 : rsum A np ≤ rsum G np := rsum_le np fun i hi => by
    apply Classical.byContradiction
    intro h
    exact hno ⟨i, hi, by omega⟩
  have h2 : rsum T nn < rsum B nn := by
    have h3 := rsum_one (f := B) (g := fun j => if j = k then T k else B j) nn hk fun j _ hj => by rw [if_neg hj]
    have h4 := rsum_le (f := T) (g := fun j => if j = k then T k else B j) nn fun j hj => by
      by_cases e : j = k
      · rw [if_pos e, e]; exact Int.le_refl _
      · rw [if_neg e]; exact Y.tb j hj
    simp only [if_pos] at h3
    omega
  have := Y.total
  omega

section
variable {F : Nat → Bool} {s : RS} {p0 p1 : Nat → Int}
/-- from a pile with something left all needs are reached, and cheaply -/
theorem reach_all (c0 : ∀ i k, i < np → k < nn → 0 ≤ C i k ∧ C i k ≤ capN) (I : RInv np nn C X F p0 p1 s) (hX : Fixed np nn C X s) {i : Nat} (hi : i < np) (hF : F i = true) : ∀ k, k < nn → s.d1.getD k 0 ≤ capN := fun k hk => by
  have h1 := I.fr i hi hF
  have h2 := hX.fwd hi hk (by unfold farN; omega)
  have := (c0 i k hi hk).2
  omega
theorem cap_far : capN < farN := by decide
/-- the distances, cut off at the dearest, are prices again; kept by whatever is brought along tight hops -/
theorem y_step (Y : YInv np nn A B C X G T) (hE : rsum B nn ≤ rsum A np) (hp : ∀ i, i < np → 0 ≤ p0 i ∧ p0 i ≤ capN) (hp1 : ∀ k, k < nn → 0 ≤ p1 k ∧ p1 k ≤ capN) 
    (I : RInv np nn C X (fun i => decide (G i < A i)) p0 p1 s) (hX : Fixed np nn C X s) {k n : Nat} {m : Int} (hk : k < nn) (hl : T k < B k) (hP : PD s n (s.b1.getD k hop0).i) (h0 : 0 ≤ m) (h1 : m ≤ B k - T k)
    (h2 : m ≤ A (rootP s n (s.b1.getD k hop0).i) - G (rootP s n (s.b1.getD k hop0).i)) (h3 : ∀ h ∈ climb s n k, h.b = true → m ≤ X h.i h.k) :
    YInv np nn A B C (fun i k' => X i k' + m * chainD (climb s n k) i k') (fun i => G i + if rootP s n (s.b1.getD k hop0).i = i then m else 0) (fun k' => T k' + if k = k' then m else 0) := by
  obtain ⟨i0, hi0, hl0⟩ := Y.some_left hE hk hl
  have hall := reach_all Y.c0 I hX hi0 (by simpa using hl0)
  have hcf := cap_far
  have hdk : s.d1.getD k 0 < farN := by have := hall k hk; omega
  obtain ⟨c1, c2, c3⟩ := climb_hops I hk hdk hP
  have hr := climb_row I hk hdk hP
  have hc := climb_col I hk hdk hP
  have hb := climb_back I hk hdk hP
  generalize hr0 : rootP s n (s.b1.getD k hop0).i = r at *
  generalize climb s n k = l at *
  have hrd : s.d0.getD r 0 = if decide (G r < A r) = true then 0 else farN := I.rt r c2 c3
  refine ⟨Y.n0, Y.n1, Y.c0, fun i j hi hj => ?_, fun i hi => ?_, fun j hj => ?_, fun i hi => ?_, fun j hj => ?_, fun i => if s.d0.getD i 0 ≤ capN then s.d0.getD i 0 else capN, fun j => s.d1.getD j 0, ⟨Y.n0, Y.n1, fun i j hi hj => ?_, fun i j hi hj hx => ?_⟩, fun i hi => ?_, fun j hj => ?_, fun i hi hg => ?_⟩
  · show 0 ≤ X i j + m * chainD l i j
    have hx := Y.x0 i j hi hj
    rcases hb i j with h | ⟨h, g, hg, e1, e2, e3⟩
    · have := Int.mul_nonneg h0 h; omega
    · have h4 := h3 g hg e1
      rw [e2, e3] at h4
      have : m * (-1) ≤ m * chainD l i j := Int.mul_le_mul_of_nonneg_left h h0
      omega
  · show G i + _ = rsum (fun j => X i j + m * chainD l i j) nn
    rw [rsum_add, rsum_mul, hr, ← Y.row i hi]
    split
    · omega
    · omega
  · show T j + _ = rsum (fun i => X i j + m * chainD l i j) np
    rw [rsum_add, rsum_mul (f := fun i => chainD l i j), hc, ← Y.col j hj]
    split
    · omega
    · omega
  · show G i + _ ≤ A i
    have := Y.ga i hi
    split
    · rename_i e; subst e; omega
    · omega
  · show T j + _ ≤ B j
    have := Y.tb j hj
    split
    · rename_i e; subst e; omega
    · omega
  · show s.d1.getD j 0 ≤ (if s.d0.getD i 0 ≤ capN then s.d0.getD i 0 else capN) + C i j
    have := hall j hj
    have := (Y.c0 i j hi hj).1
    split
    · exact hX.fwd hi hj (by omega)
    · omega
  · show (if s.d0.getD i 0 ≤ capN then s.d0.getD i 0 else capN) ≤ s.d1.getD j 0 - C i j
    have hd := hall j hj
    have hcc := (Y.c0 i j hi hj).1
    have key : s.d0.getD i 0 ≤ s.d1.getD j 0 - C i j := by
      have hx' : 0 < X i j + m * chainD l i j := hx
      by_cases h4 : 0 < X i j
      · exact hX.bwd hi hj h4 (by omega)
      · have h5 : 0 < chainD l i j := by
          apply Classical.byContradiction
          intro h6
          have : m * chainD l i j ≤ m * 0 := Int.mul_le_mul_of_nonneg_left (by omega) h0
          omega
        obtain ⟨g, hg, e1, e2, e3⟩ := chainD_pos h5
        obtain ⟨e4, e5⟩ := (c1 g hg).2 e1
        obtain ⟨_, _, _, f4⟩ := I.p1 g.k (c1 g hg).1.2.1 e4
        rw [← e5, e2, e3] at f4
        omega
    split <;> omega
  · show 0 ≤ (if s.d0.getD i 0 ≤ capN then s.d0.getD i 0 else capN) ∧ (if s.d0.getD i 0 ≤ capN then s.d0.getD i 0 else capN) ≤ capN
    have h5 := I.lo0 i hi
    have h6 := (hp i hi).1
    have : (0 : Int) ≤ capN := by decide
    split <;> omega
  · have h5 := I.lo1 j hj
    have h6 := (hp1 j hj).1
    exact ⟨Int.le_trans h6 h5, hall j hj⟩
  · show (if s.d0.getD i 0 ≤ capN then s.d0.getD i 0 else capN) = 0
    have hg' : G i < A i := by
      have : G i + (if r = i then m else 0) < A i := hg
      split at this <;> omega
    have h5 := I.fr i hi (by simpa using hg')
    have h6 := I.lo0 i hi
    have h7 := (hp i hi).1
    rw [if_pos (by have : (0 : Int) ≤ capN := by decide
                   omega)]
    omega
/-- the chain begins where something is left, and there is something to bring -/
theorem y_root (Y : YInv np nn A B C X G T) (hE : rsum B nn ≤ rsum A np) (I : RInv np nn C X (fun i => decide (G i < A i)) p0 p1 s) (hX : Fixed np nn C X s) {k : Nat} (hk : k < nn) (hl : T k < B k) :
    s.d1.getD k 0 < farN ∧ ∃ n, PD s n (s.b1.getD k hop0).i ∧ rootP s n (s.b1.getD k hop0).i < np ∧ G (rootP s n (s.b1.getD k hop0).i) < A (rootP s n (s.b1.getD k hop0).i) ∧ ∀ h ∈ climb s n k, isHop np nn C X h := by
  obtain ⟨i0, hi0, hl0⟩ := Y.some_left hE hk hl
  have hall := reach_all Y.c0 I hX hi0 (by simpa using hl0)
  have hcf := cap_far
  have hdk : s.d1.getD k 0 < farN := by have := hall k hk; omega
  obtain ⟨n', hu⟩ := I.ac k hk hdk
  obtain ⟨n, hP⟩ := up_pd hu
  obtain ⟨c1, c2, c3⟩ := climb_hops I hk hdk hP
  refine ⟨hdk, n, hP, c2, ?_, fun h hh => (c1 h hh).1⟩
  have hrd := I.rt _ c2 c3
  apply Classical.byContradiction
  intro hno
  rw [if_neg (by simpa using hno)] at hrd
  -- the root is reached
  have key : ∀ n i, i < np → s.d0.getD i 0 < farN → PD s n i → s.d0.getD (rootP s n i) 0 < farN := by
    intro n
    induction n with
    | zero => intro i _ h _; exact h
    | succ n ih =>
      intro i hi h hp
      obtain ⟨a1, a2, a3, a4, a5, a6, a7, a8, a9⟩ := climbP_steps I hi hp
      obtain ⟨_, _, _, f4⟩ := I.p1 _ a4 a5
      have := (Y.c0 _ _ a9 a4).1
      exact ih _ a9 (by omega) hp.2
  obtain ⟨f1, _, _, f4⟩ := I.p1 k hk hdk
  have := (Y.c0 _ _ f1.1 hk).1
  have := key n _ f1.1 (by omega) hP
  omega
end

/-- what a carrying costs -/
def costN (np nn : Nat) (C X : Nat → Nat → Int) : Int := rsum (fun i => rsum (fun k => X i k * C i k) nn) np
/-- and a price that is paid exactly where something is brought, or left, proves the cost -/
theorem tight {u v : Nat → Int} (hx : ∀ i k, i < np → k < nn → 0 ≤ X i k) (hr : ∀ i, i < np → G i = rsum (fun k => X i k) nn) (hc : ∀ k, k < nn → rsum (fun i => X i k) np = B k) (hu : ∀ i, i < np → G i * u i = A i * u i) (h : ∀ i k, i < np → k < nn → 0 < X i k → v k - u i = C i k) :
    rsum (fun k => B k * v k) nn - rsum (fun i => A i * u i) np = costN np nn C X := by
  have e1 : rsum (fun k => B k * v k) nn = rsum (fun i => rsum (fun k => X i k * v k) nn) np := by
    rw [rsum_swap]
    refine rsum_congr nn fun k hk => ?_
    rw [← hc k hk, Int.mul_comm, ← rsum_mul]
    exact rsum_congr np fun i _ => Int.mul_comm _ _
  have e2 : rsum (fun i => rsum (fun k => X i k) nn * u i) np = rsum (fun i => A i * u i) np := rsum_congr np fun i hi => by rw [← hr i hi]; exact hu i hi
  rw [e1, ← e2, ← rsum_sub]
  refine rsum_congr np fun i hi => ?_
  rw [Int.mul_comm, ← rsum_mul, ← rsum_sub]
  refine rsum_congr nn fun k hk => ?_
  rw [Int.mul_comm (u i), ← Int.mul_sub]
  rcases Int.lt_or_le 0 (X i k) with h1 | h1
  · rw [h i k hi hk h1]
  · have := hx i k hi hk
    rw [show X i k = 0 by omega, Int.zero_mul, Int.zero_mul]

/-- the prices as the program finds them -/
structure Priced (np nn : Nat) (A B : Nat → Int) (C X : Nat → Nat → Int) (u v : Nat → Int) : Prop where
  u0 : ∀ i, i < np → 0 ≤ u i ∧ u i ≤ 1000000000
  v0 : ∀ k, k < nn → 0 ≤ v k ∧ v k ≤ 1000000000
  uv : ∀ i k, i < np → k < nn → v k - u i ≤ C i k
  sum : rsum (fun k => B k * v k) nn - rsum (fun i => A i * u i) np = costN np nn C X
section
variable {s : RS} {p0 p1 : Nat → Int}
end
end

end Go.Proofs.YtchignmnnbepnaaGreat
namespace Go.Proofs.YtchignmnnbepnaaGreat

theorem nodup_lt : ∀ (n : Nat) (l : List Nat), l.Nodup → (∀ x ∈ l, x < n) → l.length ≤ n
  | 0, l, _, h => by
    cases l with
    | nil => exact Nat.le_refl _
    | cons x l => exact absurd (h x (List.mem_cons_self ..)) (Nat.not_lt_zero _)
  | n + 1, l, hn, h => by
    have h1 := nodup_lt n (l.erase n) (hn.erase n) (fun x hx => by
      have h2 := h x (List.mem_of_mem_erase hx)
      have h3 : x ≠ n := fun e => by subst e; exact hn.not_mem_erase hx
      omega)
    rw [List.length_erase] at h1
    split at h1 <;> omega
section
variable {np nn : Nat} {C X : Nat → Nat → Int} {F : Nat → Bool} {q0 q1 : Nat → Int} {s : RS}
/-- the piles of a chain -/
def pilesP (s : RS) : Nat → Nat → List Nat
  | 0, i => [i]
  | n + 1, i => i :: pilesP s n (s.b1.getD (s.b0.getD i hop0).k hop0).i
theorem pilesP_len : ∀ {n i : Nat}, (pilesP s n i).length = n + 1
  | 0, _ => rfl
  | n + 1, _ => by unfold pilesP; rw [List.length_cons, pilesP_len]
theorem pilesP_pd : ∀ {n i : Nat}, PD s n i → ∀ j ∈ pilesP s n i, ∃ m, m ≤ n ∧ PD s m j
  | 0, i, h, j, hj => by
    unfold pilesP at hj
    rcases List.mem_singleton.1 hj with rfl
    exact ⟨0, Nat.le_refl _, h⟩
  | n + 1, i, h, j, hj => by
    unfold pilesP at hj
    rcases List.mem_cons.1 hj with rfl | hj
    · exact ⟨n + 1, Nat.le_refl _, h⟩
    · obtain ⟨m, h1, h2⟩ := pilesP_pd h.2 j hj
      exact ⟨m, by omega, h2⟩
theorem pilesP_nodup : ∀ {n i : Nat}, PD s n i → (pilesP s n i).Nodup
  | 0, i, _ => by unfold pilesP; simp
  | n + 1, i, h => by
    unfold pilesP
    refine List.nodup_cons.2 ⟨fun hm => ?_, pilesP_nodup h.2⟩
    obtain ⟨m, h1, h2⟩ := pilesP_pd h.2 i hm
    have := PD.unique h h2
    omega
theorem pilesP_lt (I : RInv np nn C X F q0 q1 s) : ∀ {n i : Nat}, i < np → PD s n i → ∀ j ∈ pilesP s n i, j < np
  | 0, i, hi, _, j, hj => by
    unfold pilesP at hj
    rcases List.mem_singleton.1 hj with rfl
    exact hi
  | n + 1, i, hi, h, j, hj => by
    unfold pilesP at hj
    rcases List.mem_cons.1 hj with rfl | hj
    · exact hi
    · obtain ⟨_, _, _, _, _, _, _, _, a9⟩ := climbP_steps I hi h
      exact pilesP_lt I a9 h.2 j hj
theorem pd_lt (I : RInv np nn C X F q0 q1 s) {n i : Nat} (hi : i < np) (hp : PD s n i) : n < np := by
  have := nodup_lt np _ (pilesP_nodup hp) (pilesP_lt I hi hp)
  rw [pilesP_len] at this
  omega
theorem climbP_len : ∀ {n i : Nat}, (climbP s n i).length = 2 * n
  | 0, _ => rfl
  | n + 1, _ => by unfold climbP; rw [List.length_cons, List.length_cons, climbP_len]; omega
theorem climb_len {n k : Nat} : (climb s n k).length = 2 * n + 1 := by unfold climb; rw [List.length_cons, climbP_len]
theorem climb_last_ : ∀ (n : Nat) (h : Hop), ((h :: climbP s n h.i).getD (2 * n) hop0).i = rootP s n h.i
  | 0, h => rfl
  | n + 1, h => by
    have := climb_last_ n (s.b1.getD (s.b0.getD h.i hop0).k hop0)
    rw [show 2 * (n + 1) = 2 * n + 1 + 1 by omega]
    unfold climbP rootP
    rw [List.getD_cons_succ, List.getD_cons_succ]
    exact this
theorem climb_last {n k : Nat} : ((climb s n k).getD ((climb s n k).length - 1) hop0).i = rootP s n (s.b1.getD k hop0).i := by
  rw [climb_len, Nat.add_sub_cancel]
  exact climb_last_ n _
theorem chainD_snoc (l : List Hop) (h : Hop) (i k : Nat) : chainD (l ++ [h]) i k = chainD l i k + hopD h i k := by
  induction l with
  | nil => show hopD h i k + 0 = 0 + hopD h i k; omega
  | cons x l ih =>
    show hopD x i k + chainD (l ++ [h]) i k = hopD x i k + chainD l i k + hopD h i k
    rw [ih]; omega
theorem hopD_bd (h : Hop) (i k : Nat) : -1 ≤ hopD h i k ∧ hopD h i k ≤ 1 := by
  unfold hopD sg
  split
  · split <;> omega
  · omega
theorem chainD_bd : ∀ (l : List Hop) (i k : Nat), -(l.length : Int) ≤ chainD l i k ∧ chainD l i k ≤ l.length
  | [], _, _ => by unfold chainD; simp
  | h :: l, i, k => by
    have h1 := hopD_bd h i k
    have h2 := chainD_bd l i k
    show -((l.length + 1 : Nat) : Int) ≤ hopD h i k + chainD l i k ∧ hopD h i k + chainD l i k ≤ ((l.length + 1 : Nat) : Int)
    omega
end
section
variable {np nn : Nat} {A B : Nat → Int} {C X X' : Nat → Nat → Int} {G T G' T' : Nat → Int}
theorem Feas.congr {q0 q1 : Nat → Int} (h : Feas np nn C X q0 q1) (hx : ∀ i k, i < np → k < nn → X' i k = X i k) : Feas np nn C X' q0 q1 :=
  ⟨h.n0, h.n1, h.fwd, fun i k hi hk h1 => h.bwd i k hi hk (by rw [← hx i k hi hk]; exact h1)⟩
theorem YInv.congr (Y : YInv np nn A B C X G T) (hx : ∀ i k, i < np → k < nn → X' i k = X i k) (hg : ∀ i, i < np → G' i = G i) (ht : ∀ k, k < nn → T' k = T k) : YInv np nn A B C X' G' T' where
  n0 := Y.n0
  n1 := Y.n1
  c0 := Y.c0
  x0 i k hi hk := by rw [hx i k hi hk]; exact Y.x0 i k hi hk
  row i hi := by rw [hg i hi, Y.row i hi]; exact rsum_congr _ fun k hk => (hx i k hi hk).symm
  col k hk := by rw [ht k hk, Y.col k hk]; exact rsum_congr _ fun i hi => (hx i k hi hk).symm
  ga i hi := by rw [hg i hi]; exact Y.ga i hi
  tb k hk := by rw [ht k hk]; exact Y.tb k hk
  pot := by
    obtain ⟨p0, p1, h1, h2, h3, h4⟩ := Y.pot
    exact ⟨p0, p1, h1.congr hx, h2, h3, fun i hi h => h4 i hi (by rw [← hg i hi]; exact h)⟩
/-- a row's entry is no more than the row -/
theorem rsum_entry {f : Nat → Int} : ∀ {n j : Nat}, j < n → (∀ i, i < n → 0 ≤ f i) → f j ≤ rsum f n
  | n + 1, j, h, h0 => by
    show f j ≤ rsum f n + f n
    have h1 := rsum_nonneg n fun i hi => h0 i (by omega)
    have h2 := h0 n (by omega)
    rcases Nat.lt_or_ge j n with h3 | h3
    · have := rsum_entry h3 fun i hi => h0 i (by omega)
      omega
    · obtain rfl : j = n := by omega
      omega
theorem YInv.xle (Y : YInv np nn A B C X G T) {i k : Nat} (hi : i < np) (hk : k < nn) : X i k ≤ A i := by
  have h1 := rsum_entry (f := fun k => X i k) hk fun k hk => Y.x0 i k hi hk
  have h2 := Y.row i hi
  have h3 := Y.ga i hi
  omega
/-- a cheapest chain, or nothing where nothing lacks -/
def IsChain (np nn : Nat) (A B : Nat → Int) (C X : Nat → Nat → Int) (G T : Nat → Int) (l : List Hop) : Prop :=
  (l = [] ∧ ∀ k, k < nn → T k = B k) ∨ ∃ s n k p0 p1, RInv np nn C X (fun i => decide (G i < A i)) p0 p1 s ∧ (∀ i, i < np → 0 ≤ p0 i ∧ p0 i ≤ capN) ∧ (∀ k, k < nn → 0 ≤ p1 k ∧ p1 k ≤ capN) ∧ Fixed np nn C X s ∧ k < nn ∧ T k < B k ∧ s.d1.getD k 0 < farN ∧
    PD s n (s.b1.getD k hop0).i ∧ rootP s n (s.b1.getD k hop0).i < np ∧ G (rootP s n (s.b1.getD k hop0).i) < A (rootP s n (s.b1.getD k hop0).i) ∧ l = climb s n k
/-- what is known of a chain, and what may be brought along it -/
theorem chain_facts (Y : YInv np nn A B C X G T) (hE : rsum B nn ≤ rsum A np) {l : List Hop} (h : IsChain np nn A B C X G T l) (hne : l ≠ []) :
    0 < l.length ∧ l.length ≤ 39 ∧ (∀ x ∈ l, isHop np nn C X x) ∧ ∃ k r, (l.getD 0 hop0).k = k ∧ (l.getD (l.length - 1) hop0).i = r ∧ k < nn ∧ r < np ∧ T k < B k ∧ G r < A r ∧
      ∀ m, 0 ≤ m → m ≤ B k - T k → m ≤ A r - G r → (∀ x ∈ l, x.b = true → m ≤ X x.i x.k) →
        YInv np nn A B C (fun i k' => X i k' + m * chainD l i k') (fun i => G i + if r = i then m else 0) (fun k' => T k' + if k = k' then m else 0) := by
  rcases h with ⟨h, _⟩ | ⟨s, n, k, p0, p1, I, b0, b1, hX, hk, hl, hf, hP, hr, hg, rfl⟩
  · exact absurd h hne
  obtain ⟨c1, c2, c3⟩ := climb_hops I hk hf hP
  obtain ⟨d1, d2, d3, d4⟩ := I.p1 k hk hf
  have hn := pd_lt I d1.1 hP
  have h20 := Y.n0
  refine ⟨by rw [climb_len]; omega, by rw [climb_len]; omega, fun x hx => (c1 x hx).1, k, rootP s n (s.b1.getD k hop0).i, d2, climb_last, hk, hr, hl, hg, fun m h0 h1 h2 h3 => ?_⟩
  exact y_step Y hE b0 b1 I hX hk hl hP h0 h1 h2 h3
end
end Go.Proofs.YtchignmnnbepnaaGreat
namespace Go.Proofs.YtchignmnnbepnaaGreat

def ldOf (X : Nat → Nat → Int) (i k : Nat) : List (Int × Int × Int) := if 0 < X i k then [((i : Int), (k : Int), X i k)] else []
def loadRow (nn : Nat) (X : Nat → Nat → Int) (i : Nat) : List (Int × Int × Int) := (List.range nn).flatMap (ldOf X i)
def loadsOf (np nn : Nat) (X : Nat → Nat → Int) : List (Int × Int × Int) := (List.range np).flatMap (loadRow nn X)
theorem loadsOf_succ (np nn : Nat) (X : Nat → Nat → Int) : loadsOf (np + 1) nn X = loadsOf np nn X ++ loadRow nn X np := by
  unfold loadsOf
  rw [List.range_succ, List.flatMap_append]
  simp
theorem row_succ (X : Nat → Nat → Int) (i k : Nat) : (List.range (k + 1)).flatMap (ldOf X i) = (List.range k).flatMap (ldOf X i) ++ ldOf X i k := by
  rw [List.range_succ, List.flatMap_append]
  simp
theorem row_len (X : Nat → Nat → Int) (i : Nat) : ∀ k, ((List.range k).flatMap (ldOf X i)).length ≤ k
  | 0 => by simp
  | k + 1 => by
    rw [row_succ, List.length_append]
    have := row_len X i k
    have h : (ldOf X i k).length ≤ 1 := by unfold ldOf; split <;> simp
    omega
theorem loads_len (nn : Nat) (X : Nat → Nat → Int) : ∀ np, (loadsOf np nn X).length ≤ np * nn
  | 0 => by simp [loadsOf]
  | np + 1 => by
    rw [loadsOf_succ, List.length_append, Nat.succ_mul]
    have := loads_len nn X np
    have := row_len X np nn
    unfold loadRow
    omega
theorem rsum_abs {f : Nat → Int} {B : Int} : ∀ n : Nat, (∀ i, i < n → 0 ≤ f i ∧ f i ≤ B) → 0 ≤ rsum f n ∧ rsum f n ≤ n * B
  | 0, _ => by simp [rsum]
  | n + 1, h => by
    have h1 := rsum_abs n fun i hi => h i (by omega)
    have h2 := h n (by omega)
    show 0 ≤ rsum f n + f n ∧ rsum f n + f n ≤ ((n + 1 : Nat) : Int) * B
    rw [show ((n + 1 : Nat) : Int) = (n : Int) + 1 by omega, Int.add_mul]
    omega
end Go.Proofs.YtchignmnnbepnaaGreat

/- a least carrying, plain: the yard's state, one chain more, and the prices that prove it least -/
import Derived.Test.YteogibpmpppgmaaG7
namespace Go.Proofs.Yteogibpmpppgmaa

def capN : Int := 1200000
section
variable {np nn : Nat} {A B : Nat → Int} {C X : Nat → Nat → Int} {G T : Nat → Int}
structure YInv (np nn : Nat) (A B : Nat → Int) (C X : Nat → Nat → Int) (G T : Nat → Int) : Prop where
  n0 : np ≤ 20
  n1 : nn ≤ 20
  c0 : ∀ i k, i < np → k < nn → 0 ≤ C i k ∧ C i k ≤ capN
  x0 : ∀ i k, i < np → k < nn → 0 ≤ X i k
  row : ∀ i, i < np → G i = rsum (fun k => X i k) nn
  col : ∀ k, k < nn → T k = rsum (fun i => X i k) np
  ga : ∀ i, i < np → G i ≤ A i
  tb : ∀ k, k < nn → T k ≤ B k
  pot : ∃ p0 p1, Feas np nn C X p0 p1 ∧ (∀ i, i < np → 0 ≤ p0 i ∧ p0 i ≤ capN) ∧ (∀ k, k < nn → 0 ≤ p1 k ∧ p1 k ≤ capN) ∧ ∀ i, i < np → G i < A i → p0 i = 0
theorem y_start (n0 : np ≤ 20) (n1 : nn ≤ 20) (c0 : ∀ i k, i < np → k < nn → 0 ≤ C i k ∧ C i k ≤ capN) (ha : ∀ i, i < np → 0 ≤ A i) (hb : ∀ k, k < nn → 0 ≤ B k) : YInv np nn A B C (fun _ _ => 0) (fun _ => 0) (fun _ => 0) :=
  ⟨n0, n1, c0, fun _ _ _ _ => Int.le_refl _, fun _ _ => (rsum_zero nn).symm, fun _ _ => (rsum_zero np).symm, ha, hb, fun _ => 0, fun _ => 0,
    ⟨n0, n1, fun i k hi hk => by have := (c0 i k hi hk).1; omega, fun _ _ _ _ h => absurd h (by decide)⟩, fun _ _ => ⟨Int.le_refl _, (by decide : (0 : Int) ≤ capN)⟩, fun _ _ => ⟨Int.le_refl _, (by decide : (0 : Int) ≤ capN)⟩, fun _ _ _ => rfl⟩
theorem YInv.total (Y : YInv np nn A B C X G T) : rsum G np = rsum T nn := by
  rw [rsum_congr np Y.row, rsum_congr nn Y.col, rsum_swap]
/-- where a need lacks something, a pile has something left -/
theorem YInv.some_left (Y : YInv np nn A B C X G T) (hE : rsum B nn ≤ rsum A np) {k : Nat} (hk : k < nn) (hl : T k < B k) : ∃ i, i < np ∧ G i < A i := by
  apply Classical.byContradiction
  intro hno
  have h1 : rsum A np ≤ rsum G np := rsum_le np fun i hi => by
    apply Classical.byContradiction
    intro h
    exact hno ⟨i, hi, by omega⟩
  have h2 : rsum T nn < rsum B nn := by
    have h3 := rsum_one (f := B) (g := fun j => if j = k then T k else B j) nn hk fun j _ hj => by rw [if_neg hj]
    have h4 := rsum_le (f := T) (g := fun j => if j = k then T k else B j) nn fun j hj => by
      by_cases e : j = k
      · rw [if_pos e, e]; exact Int.le_refl _
      · rw [if_neg e]; exact Y.tb j hj
    simp only [if_pos] at h3
    omega
  have := Y.total
  omega

section
variable {F : Nat → Bool} {s : RS} {p0 p1 : Nat → Int}
/-- from a pile with something left all needs are reached, and cheaply -/
theorem reach_all (c0 : ∀ i k, i < np → k < nn → 0 ≤ C i k ∧ C i k ≤ capN) (I : RInv np nn C X F p0 p1 s) (hX : Fixed np nn C X s) {i : Nat} (hi : i < np) (hF : F i = true) : ∀ k, k < nn → s.d1.getD k 0 ≤ capN := fun k hk => by
  have h1 := I.fr i hi hF
  have h2 := hX.fwd hi hk (by unfold farN; omega)
  have := (c0 i k hi hk).2
  omega
theorem cap_far : capN < farN := by decide
/-- distances from what is left are no less than nothing -/
theorem reach_nonneg (I : RInv np nn C X F p0 p1 s) (hp : ∀ i, i < np → 0 ≤ p0 i) (hp1 : ∀ k, k < nn → 0 ≤ p1 k) : (∀ i, i < np → 0 ≤ s.d0.getD i 0) ∧ ∀ k, k < nn → 0 ≤ s.d1.getD k 0 :=
  ⟨fun i hi => Int.le_trans (hp i hi) (I.lo0 i hi), fun k hk => Int.le_trans (hp1 k hk) (I.lo1 k hk)⟩
/-- the distances, cut off at the dearest, are prices again; kept by whatever is brought along tight hops -/
theorem y_step (Y : YInv np nn A B C X G T) (hE : rsum B nn ≤ rsum A np) (hp : ∀ i, i < np → 0 ≤ p0 i ∧ p0 i ≤ capN) (hp1 : ∀ k, k < nn → 0 ≤ p1 k ∧ p1 k ≤ capN) 
    (I : RInv np nn C X (fun i => decide (G i < A i)) p0 p1 s) (hX : Fixed np nn C X s) {k n : Nat} {m : Int} (hk : k < nn) (hl : T k < B k) (hP : PD s n (s.b1.getD k hop0).i) (h0 : 0 ≤ m) (h1 : m ≤ B k - T k)
    (h2 : m ≤ A (rootP s n (s.b1.getD k hop0).i) - G (rootP s n (s.b1.getD k hop0).i)) (h3 : ∀ h ∈ climb s n k, h.b = true → m ≤ X h.i h.k) :
    YInv np nn A B C (fun i k' => X i k' + m * chainD (climb s n k) i k') (fun i => G i + if rootP s n (s.b1.getD k hop0).i = i then m else 0) (fun k' => T k' + if k = k' then m else 0) := by
  obtain ⟨i0, hi0, hl0⟩ := Y.some_left hE hk hl
  have hall := reach_all Y.c0 I hX hi0 (by simpa using hl0)
  have hcf := cap_far
  have hdk : s.d1.getD k 0 < farN := by have := hall k hk; omega
  obtain ⟨c1, c2, c3⟩ := climb_hops I hk hdk hP
  have hr := climb_row I hk hdk hP
  have hc := climb_col I hk hdk hP
  have hb := climb_back I hk hdk hP
  generalize hr0 : rootP s n (s.b1.getD k hop0).i = r at *
  generalize climb s n k = l at *
  have hrd : s.d0.getD r 0 = if decide (G r < A r) = true then 0 else farN := I.rt r c2 c3
  refine ⟨Y.n0, Y.n1, Y.c0, fun i j hi hj => ?_, fun i hi => ?_, fun j hj => ?_, fun i hi => ?_, fun j hj => ?_, fun i => if s.d0.getD i 0 ≤ capN then s.d0.getD i 0 else capN, fun j => s.d1.getD j 0, ⟨Y.n0, Y.n1, fun i j hi hj => ?_, fun i j hi hj hx => ?_⟩, fun i hi => ?_, fun j hj => ?_, fun i hi hg => ?_⟩
  · show 0 ≤ X i j + m * chainD l i j
    have hx := Y.x0 i j hi hj
    rcases hb i j with h | ⟨h, g, hg, e1, e2, e3⟩
    · have := Int.mul_nonneg h0 h; omega
    · have h4 := h3 g hg e1
      rw [e2, e3] at h4
      have : m * (-1) ≤ m * chainD l i j := Int.mul_le_mul_of_nonneg_left h h0
      omega
  · show G i + _ = rsum (fun j => X i j + m * chainD l i j) nn
    rw [rsum_add, rsum_mul, hr, ← Y.row i hi]
    split
    · omega
    · omega
  · show T j + _ = rsum (fun i => X i j + m * chainD l i j) np
    rw [rsum_add, rsum_mul (f := fun i => chainD l i j), hc, ← Y.col j hj]
    split
    · omega
    · omega
  · show G i + _ ≤ A i
    have := Y.ga i hi
    split
    · rename_i e; subst e; omega
    · omega
  · show T j + _ ≤ B j
    have := Y.tb j hj
    split
    · rename_i e; subst e; omega
    · omega
  · show s.d1.getD j 0 ≤ (if s.d0.getD i 0 ≤ capN then s.d0.getD i 0 else capN) + C i j
    have := hall j hj
    have := (Y.c0 i j hi hj).1
    split
    · exact hX.fwd hi hj (by omega)
    · omega
  · show (if s.d0.getD i 0 ≤ capN then s.d0.getD i 0 else capN) ≤ s.d1.getD j 0 - C i j
    have hd := hall j hj
    have hcc := (Y.c0 i j hi hj).1
    have key : s.d0.getD i 0 ≤ s.d1.getD j 0 - C i j := by
      have hx' : 0 < X i j + m * chainD l i j := hx
      by_cases h4 : 0 < X i j
      · exact hX.bwd hi hj h4 (by omega)
      · have h5 : 0 < chainD l i j := by
          apply Classical.byContradiction
          intro h6
          have : m * chainD l i j ≤ m * 0 := Int.mul_le_mul_of_nonneg_left (by omega) h0
          omega
        obtain ⟨g, hg, e1, e2, e3⟩ := chainD_pos h5
        obtain ⟨e4, e5⟩ := (c1 g hg).2 e1
        obtain ⟨_, _, _, f4⟩ := I.p1 g.k (c1 g hg).1.2.1 e4
        rw [← e5, e2, e3] at f4
        omega
    split <;> omega
  · show 0 ≤ (if s.d0.getD i 0 ≤ capN then s.d0.getD i 0 else capN) ∧ (if s.d0.getD i 0 ≤ capN then s.d0.getD i 0 else capN) ≤ capN
    have h5 := I.lo0 i hi
    have h6 := (hp i hi).1
    have : (0 : Int) ≤ capN := by decide
    split <;> omega
  · have h5 := I.lo1 j hj
    have h6 := (hp1 j hj).1
    exact ⟨Int.le_trans h6 h5, hall j hj⟩
  · show (if s.d0.getD i 0 ≤ capN then s.d0.getD i 0 else capN) = 0
    have hg' : G i < A i := by
      have : G i + (if r = i then m else 0) < A i := hg
      split at this <;> omega
    have h5 := I.fr i hi (by simpa using hg')
    have h6 := I.lo0 i hi
    have h7 := (hp i hi).1
    rw [if_pos (by have : (0 : Int) ≤ capN := by decide
                   omega)]
    omega
/-- the chain begins where something is left, and there is something to bring -/
theorem y_root (Y : YInv np nn A B C X G T) (hE : rsum B nn ≤ rsum A np) (I : RInv np nn C X (fun i => decide (G i < A i)) p0 p1 s) (hX : Fixed np nn C X s) {k : Nat} (hk : k < nn) (hl : T k < B k) :
    s.d1.getD k 0 < farN ∧ ∃ n, PD s n (s.b1.getD k hop0).i ∧ rootP s n (s.b1.getD k hop0).i < np ∧ G (rootP s n (s.b1.getD k hop0).i) < A (rootP s n (s.b1.getD k hop0).i) ∧ ∀ h ∈ climb s n k, isHop np nn C X h := by
  obtain ⟨i0, hi0, hl0⟩ := Y.some_left hE hk hl
  have hall := reach_all Y.c0 I hX hi0 (by simpa using hl0)
  have hcf := cap_far
  have hdk : s.d1.getD k 0 < farN := by have := hall k hk; omega
  obtain ⟨n', hu⟩ := I.ac k hk hdk
  obtain ⟨n, hP⟩ := up_pd hu
  obtain ⟨c1, c2, c3⟩ := climb_hops I hk hdk hP
  refine ⟨hdk, n, hP, c2, ?_, fun h hh => (c1 h hh).1⟩
  have hrd := I.rt _ c2 c3
  apply Classical.byContradiction
  intro hno
  rw [if_neg (by simpa using hno)] at hrd
  -- the root is reached
  have key : ∀ n i, i < np → s.d0.getD i 0 < farN → PD s n i → s.d0.getD (rootP s n i) 0 < farN := by
    intro n
    induction n with
    | zero => intro i _ h _; exact h
    | succ n ih =>
      intro i hi h hp
      obtain ⟨a1, a2, a3, a4, a5, a6, a7, a8, a9⟩ := climbP_steps I hi hp
      obtain ⟨_, _, _, f4⟩ := I.p1 _ a4 a5
      have := (Y.c0 _ _ a9 a4).1
      exact ih _ a9 (by omega) hp.2
  obtain ⟨f1, _, _, f4⟩ := I.p1 k hk hdk
  have := (Y.c0 _ _ f1.1 hk).1
  have := key n _ f1.1 (by omega) hP
  omega
end

/-- what a carrying costs -/
def costN (np nn : Nat) (C X : Nat → Nat → Int) : Int := rsum (fun i => rsum (fun k => X i k * C i k) nn) np
/-- prices prove a lower bound -/
theorem weak {u v : Nat → Int} (hx : ∀ i k, i < np → k < nn → 0 ≤ X i k) (hu : ∀ i, i < np → 0 ≤ u i) (hr : ∀ i, i < np → rsum (fun k => X i k) nn ≤ A i) (hc : ∀ k, k < nn → rsum (fun i => X i k) np = B k) (h : ∀ i k, i < np → k < nn → v k - u i ≤ C i k) :
    rsum (fun k => B k * v k) nn - rsum (fun i => A i * u i) np ≤ costN np nn C X := by
  have e1 : rsum (fun k => B k * v k) nn = rsum (fun i => rsum (fun k => X i k * v k) nn) np := by
    rw [rsum_swap]
    refine rsum_congr nn fun k hk => ?_
    rw [← hc k hk, Int.mul_comm, ← rsum_mul]
    exact rsum_congr np fun i _ => Int.mul_comm _ _
  have e2 : rsum (fun i => rsum (fun k => X i k) nn * u i) np ≤ rsum (fun i => A i * u i) np := rsum_le np fun i hi => Int.mul_le_mul_of_nonneg_right (hr i hi) (hu i hi)
  have e3 : rsum (fun i => rsum (fun k => X i k * v k) nn) np - rsum (fun i => rsum (fun k => X i k) nn * u i) np ≤ costN np nn C X := by
    rw [← rsum_sub]
    refine rsum_le np fun i hi => ?_
    rw [Int.mul_comm, ← rsum_mul, ← rsum_sub]
    refine rsum_le nn fun k hk => ?_
    rw [Int.mul_comm (u i), ← Int.mul_sub]
    exact Int.mul_le_mul_of_nonneg_left (h i k hi hk) (hx i k hi hk)
  omega
/-- and a price that is paid exactly where something is brought, or left, proves the cost -/
theorem tight {u v : Nat → Int} (hx : ∀ i k, i < np → k < nn → 0 ≤ X i k) (hr : ∀ i, i < np → G i = rsum (fun k => X i k) nn) (hc : ∀ k, k < nn → rsum (fun i => X i k) np = B k) (hu : ∀ i, i < np → G i * u i = A i * u i) (h : ∀ i k, i < np → k < nn → 0 < X i k → v k - u i = C i k) :
    rsum (fun k => B k * v k) nn - rsum (fun i => A i * u i) np = costN np nn C X := by
  have e1 : rsum (fun k => B k * v k) nn = rsum (fun i => rsum (fun k => X i k * v k) nn) np := by
    rw [rsum_swap]
    refine rsum_congr nn fun k hk => ?_
    rw [← hc k hk, Int.mul_comm, ← rsum_mul]
    exact rsum_congr np fun i _ => Int.mul_comm _ _
  have e2 : rsum (fun i => rsum (fun k => X i k) nn * u i) np = rsum (fun i => A i * u i) np := rsum_congr np fun i hi => by rw [← hr i hi]; exact hu i hi
  rw [e1, ← e2, ← rsum_sub]
  refine rsum_congr np fun i hi => ?_
  rw [Int.mul_comm, ← rsum_mul, ← rsum_sub]
  refine rsum_congr nn fun k hk => ?_
  rw [Int.mul_comm (u i), ← Int.mul_sub]
  rcases Int.lt_or_le 0 (X i k) with h1 | h1
  · rw [h i k hi hk h1]
  · have := hx i k hi hk
    rw [show X i k = 0 by omega, Int.zero_mul, Int.zero_mul]

/-- the prices as the program finds them -/
structure Priced (np nn : Nat) (A B : Nat → Int) (C X : Nat → Nat → Int) (u v : Nat → Int) : Prop where
  u0 : ∀ i, i < np → 0 ≤ u i ∧ u i ≤ 1000000000
  v0 : ∀ k, k < nn → 0 ≤ v k ∧ v k ≤ 1000000000
  uv : ∀ i k, i < np → k < nn → v k - u i ≤ C i k
  sum : rsum (fun k => B k * v k) nn - rsum (fun i => A i * u i) np = costN np nn C X
section
variable {s : RS} {p0 p1 : Nat → Int}
/-- if something is left somewhere -/
theorem priced_left (Y : YInv np nn A B C X G T) (hd : ∀ k, k < nn → T k = B k) (hp : ∀ i, i < np → 0 ≤ p0 i ∧ p0 i ≤ capN) (hp1 : ∀ k, k < nn → 0 ≤ p1 k ∧ p1 k ≤ capN)
    (I : RInv np nn C X (fun i => decide (G i < A i)) p0 p1 s) (hX : Fixed np nn C X s) {i0 : Nat} (hi0 : i0 < np) (hl0 : G i0 < A i0) {u v : Nat → Int}
    (hv : ∀ k, k < nn → v k = s.d1.getD k 0) (hu : ∀ i, i < np → s.d0.getD i 0 < farN → u i = s.d0.getD i 0) (hu2 : ∀ i, i < np → s.d0.getD i 0 = farN → 0 ≤ u i ∧ u i ≤ 1000000000 ∧ ∀ k, k < nn → v k - C i k ≤ u i) : Priced np nn A B C X u v := by
  have hall := reach_all Y.c0 I hX hi0 (by simpa using hl0)
  obtain ⟨hn0, hn1⟩ := reach_nonneg I (fun i hi => (hp i hi).1) (fun k hk => (hp1 k hk).1)
  have hcf := cap_far
  have hcn : capN ≤ 1000000000 := by decide
  have hfar : ∀ i, i < np → s.d0.getD i 0 < farN ∨ s.d0.getD i 0 = farN := fun i hi => by have := I.up0 i hi; omega
  -- what is not reached has nothing
  have hx0 : ∀ i k, i < np → k < nn → 0 < X i k → s.d0.getD i 0 ≤ s.d1.getD k 0 - C i k := fun i k hi hk hx => hX.bwd hi hk hx (by have := hall k hk; omega)
  have hnone : ∀ i, i < np → s.d0.getD i 0 = farN → A i * u i = G i * u i := fun i hi hf => by
    have hg : ¬ G i < A i := fun h => by
      have := I.fr i hi (by simpa using h)
      rw [hf] at this
      exact absurd this (by decide)
    rw [show A i = G i by have := Y.ga i hi; omega]
  refine ⟨fun i hi => ?_, fun k hk => ?_, fun i k hi hk => ?_, tight (G := G) Y.x0 Y.row (fun k hk => by rw [← Y.col k hk]; exact hd k hk) (fun i hi => ?_) (fun i k hi hk hx => ?_)⟩
  · rcases hfar i hi with h | h
    · rw [hu i hi h]
      refine ⟨hn0 i hi, ?_⟩
      -- reached: from nothing, or back from a need
      cases hb : (s.b0.getD i hop0).b with
      | false =>
        have := I.rt i hi hb
        split at this <;> omega
      | true =>
        -- some need lies above it
        obtain ⟨a1, a2, a3, a4⟩ := I.p0 i hi hb
        have h4 : 0 < X i (s.b0.getD i hop0).k := by
          rcases a1.2.2 with ⟨h, _⟩ | ⟨_, _, h⟩
          · rw [hb] at h; cases h
          · rwa [a2] at h
        have h5 := hx0 i _ hi a1.2.1 h4
        have h6 := hall _ a1.2.1
        have h7 := (Y.c0 i _ hi a1.2.1).1
        omega
    · exact ⟨(hu2 i hi h).1, (hu2 i hi h).2.1⟩
  · rw [hv k hk]
    have := hall k hk
    exact ⟨hn1 k hk, by omega⟩
  · rcases hfar i hi with h | h
    · rw [hv k hk, hu i hi h]
      have := hX.fwd hi hk h
      omega
    · have := (hu2 i hi h).2.2 k hk
      omega
  · rcases hfar i hi with h | h
    · rcases Int.lt_or_le (G i) (A i) with hg | hg
      · have h5 := I.fr i hi (by simpa using hg)
        have h6 := hn0 i hi
        rw [hu i hi h, show s.d0.getD i 0 = 0 by omega, Int.mul_zero, Int.mul_zero]
      · rw [show A i = G i by have := Y.ga i hi; omega]
    · exact (hnone i hi h).symm
  · have h5 := hx0 i k hi hk hx
    have h6 := hall k hk
    have h7 := (Y.c0 i k hi hk).1
    rw [hv k hk, hu i hi (by omega)]
    have := hX.fwd hi hk (by omega)
    omega
/-- if nothing is left anywhere: from all piles, shifted -/
theorem priced_none (Y : YInv np nn A B C X G T) (hd : ∀ k, k < nn → T k = B k) (h0 : 0 < np) (hp : ∀ i, i < np → 0 ≤ p0 i ∧ p0 i ≤ capN)
    (I : RInv np nn C X (fun _ => true) (fun i => p0 i - capN) (fun k => p1 k - capN) s) (hX : Fixed np nn C X s) (hl : ∀ i, i < np → ¬ G i < A i) {u v : Nat → Int} {sh : Int}
    (hs1 : ∀ i, i < np → -s.d0.getD i 0 ≤ sh) (hs2 : sh = 0 ∨ ∃ i, i < np ∧ sh = -s.d0.getD i 0)
    (hv : ∀ k, k < nn → v k = s.d1.getD k 0 + sh) (hu : ∀ i, i < np → u i = s.d0.getD i 0 + sh) : Priced np nn A B C X u v := by
  have hall := reach_all Y.c0 I hX h0 rfl
  have hcf := cap_far
  have hcn : 2 * capN ≤ 1000000000 ∧ 0 ≤ capN := by decide
  have hle : ∀ i, i < np → s.d0.getD i 0 ≤ 0 := fun i hi => I.fr i hi rfl
  have hge : ∀ i, i < np → -capN ≤ s.d0.getD i 0 := fun i hi => by have := I.lo0 i hi; have := (hp i hi).1; omega
  have hsh : sh ≤ capN := by
    rcases hs2 with h | ⟨i, hi, h⟩
    · omega
    · have := hge i hi; omega
  have hd0 : ∀ i, i < np → s.d0.getD i 0 < farN := fun i hi => by have := hle i hi; unfold farN; omega
  have hx0 : ∀ i k, i < np → k < nn → 0 < X i k → s.d0.getD i 0 ≤ s.d1.getD k 0 - C i k := fun i k hi hk hx => hX.bwd hi hk hx (by have := hall k hk; omega)
  refine ⟨fun i hi => ?_, fun k hk => ?_, fun i k hi hk => ?_, tight (G := G) Y.x0 Y.row (fun k hk => by rw [← Y.col k hk]; exact hd k hk) (fun i hi => ?_) (fun i k hi hk hx => ?_)⟩
  · rw [hu i hi]
    have := hle i hi
    have := hs1 i hi
    omega
  · rw [hv k hk]
    have h5 := hall k hk
    obtain ⟨a1, a2, a3, a4⟩ := I.p1 k hk (by omega)
    have := (Y.c0 _ k a1.1 hk).1
    have := hs1 _ a1.1
    omega
  · rw [hv k hk, hu i hi]
    have := hX.fwd hi hk (hd0 i hi)
    omega
  · rw [show A i = G i by have := Y.ga i hi; have := hl i hi; omega]
  · have h5 := hx0 i k hi hk hx
    rw [hv k hk, hu i hi]
    have := hX.fwd hi hk (hd0 i hi)
    omega
/-- if there is no pile at all -/
theorem priced_empty {u v : Nat → Int} (hv : ∀ k, k < nn → v k = 0) : Priced 0 nn A B C X u v := by
  refine ⟨fun i hi => absurd hi (Nat.not_lt_zero _), fun k hk => by rw [hv k hk]; exact ⟨Int.le_refl _, by decide⟩, fun i k hi => absurd hi (Nat.not_lt_zero _), ?_⟩
  rw [rsum_congr (g := fun _ => 0) nn fun k hk => by rw [hv k hk, Int.mul_zero], rsum_zero]
  rfl
end
end

end Go.Proofs.Yteogibpmpppgmaa

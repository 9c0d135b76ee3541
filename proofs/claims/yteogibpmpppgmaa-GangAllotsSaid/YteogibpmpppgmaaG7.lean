/- a least carrying, plain: bringing more along a cheapest chain keeps what proves it least -/
import Derived.Test.YteogibpmpppgmaaG6
namespace Go.Proofs.Yteogibpmpppgmaa

section
variable {np nn : Nat} {C X : Nat → Nat → Int} {F : Nat → Bool} {q0 q1 : Nat → Int} {s : RS}
def Fixed (np nn : Nat) (C X : Nat → Nat → Int) (s : RS) : Prop := ∀ h, isHop np nn C X h → fires s h = false
def dist0 (np nn : Nat) (F : Nat → Bool) : RS := ⟨(List.range 20).map fun i => if i < np then (if F i then 0 else farN) else 0, (List.range 20).map fun k => if k < nn then farN else 0, List.replicate 20 hop0, List.replicate 20 hop0⟩
theorem getD_range {f : Nat → Int} {n i : Nat} (h : i < n) : ((List.range n).map f).getD i 0 = f i := by
  rw [List.getD_eq_getElem?_getD, List.getElem?_map, List.getElem?_range h]; rfl
theorem dist0_inv (hq : Feas np nn C X q0 q1) (h0 : ∀ i, i < np → q0 i ≤ farN ∧ (F i = true → q0 i ≤ 0)) (h1 : ∀ k, k < nn → q1 k ≤ farN) : RInv np nn C X F q0 q1 (dist0 np nn F) := by
  have e0 : ∀ i, i < np → (dist0 np nn F).d0.getD i 0 = if F i then 0 else farN := fun i hi => by
    show ((List.range 20).map fun i => if i < np then (if F i then 0 else farN) else 0).getD i 0 = _
    rw [getD_range (Nat.lt_of_lt_of_le hi hq.n0), if_pos hi]
  have e1 : ∀ k, k < nn → (dist0 np nn F).d1.getD k 0 = farN := fun k hk => by
    show ((List.range 20).map fun k => if k < nn then farN else 0).getD k 0 = _
    rw [getD_range (Nat.lt_of_lt_of_le hk hq.n1), if_pos hk]
  have eb : ∀ i, (dist0 np nn F).b0.getD i hop0 = hop0 := fun i => by
    show (List.replicate 20 hop0).getD i hop0 = hop0
    rw [List.getD_eq_getElem?_getD, List.getElem?_replicate]; split <;> rfl
  have hf : (0 : Int) ≤ farN := by unfold farN; omega
  refine ⟨by simp [dist0], by simp [dist0], by simp [dist0], by simp [dist0], fun i hi => ?_, fun k hk => ?_, fun i hi => ?_, fun k hk => ?_, fun i hi hF => ?_, fun k hk h => ?_, fun i hi h => ?_, fun i hi _ => e0 i hi, fun k hk h => ?_⟩
  · rw [e0 i hi]
    split
    · rename_i h; exact (h0 i hi).2 h
    · exact (h0 i hi).1
  · rw [e1 k hk]; exact h1 k hk
  · rw [e0 i hi]; split <;> omega
  · rw [e1 k hk]; exact Int.le_refl _
  · rw [e0 i hi, if_pos hF]; exact Int.le_refl _
  · rw [e1 k hk] at h; omega
  · rw [eb] at h; cases h
  · rw [e1 k hk] at h; omega

/-- how many hops back a pile is from where its chain begins -/
def PD (s : RS) : Nat → Nat → Prop
  | 0, i => (s.b0.getD i hop0).b = false
  | n + 1, i => (s.b0.getD i hop0).b = true ∧ PD s n (s.b1.getD (s.b0.getD i hop0).k hop0).i
theorem PD.unique : ∀ {n m i : Nat}, PD s n i → PD s m i → n = m
  | 0, 0, _, _, _ => rfl
  | 0, m + 1, i, h, k => by have h1 : (s.b0.getD i hop0).b = false := h; have k1 := k.1; rw [h1] at k1; cases k1
  | n + 1, 0, i, h, k => by have k1 : (s.b0.getD i hop0).b = false := k; have h1 := h.1; rw [k1] at h1; cases h1
  | n + 1, m + 1, i, h, k => congrArg (· + 1) (PD.unique h.2 k.2)
theorem up_pd : ∀ {n k : Nat}, Up s n k → ∃ m, PD s m (s.b1.getD k hop0).i
  | 0, _, h => h.elim
  | n + 1, k, ⟨_, h⟩ => by
    rcases h with h | ⟨h, h2⟩
    · exact ⟨0, h⟩
    · obtain ⟨m, hm⟩ := up_pd h2
      exact ⟨m + 1, h, hm⟩
/-- the chain behind its first hop, from a pile on -/
def climbP (s : RS) : Nat → Nat → List Hop
  | 0, _ => []
  | n + 1, i => s.b0.getD i hop0 :: s.b1.getD (s.b0.getD i hop0).k hop0 :: climbP s n (s.b1.getD (s.b0.getD i hop0).k hop0).i
def rootP (s : RS) : Nat → Nat → Nat
  | 0, i => i
  | n + 1, i => rootP s n (s.b1.getD (s.b0.getD i hop0).k hop0).i
def climb (s : RS) (n k : Nat) : List Hop := s.b1.getD k hop0 :: climbP s n (s.b1.getD k hop0).i
def sg (b : Bool) : Int := if b then -1 else 1
theorem sg_t : sg true = -1 := rfl
theorem sg_f : sg false = 1 := rfl
/-- how often a pair is brought more, less how often less -/
def hopD (h : Hop) (i k : Nat) : Int := if h.i = i ∧ h.k = k then sg h.b else 0
def chainD : List Hop → Nat → Nat → Int
  | [], _, _ => 0
  | h :: l, i, k => hopD h i k + chainD l i k
def one (b : Bool) : Int := if b then 1 else 0
theorem rsum_single {n j : Nat} (c : Int) : rsum (fun i => if i = j then c else 0) n = if j < n then c else 0 := by
  induction n with
  | zero => simp [rsum]
  | succ n ih =>
    unfold rsum
    rw [ih]
    by_cases h : j < n
    · have h1 : j < n + 1 := by omega
      have h2 : ¬ n = j := by omega
      simp only [h, h1, h2, if_true, if_false]; omega
    · by_cases e : n = j
      · subst e
        simp
      · have h1 : ¬ j < n + 1 := by omega
        simp only [h, h1, e, if_false]; omega
theorem hopD_row {h : Hop} (hk : h.k < nn) (i : Nat) : rsum (fun k => hopD h i k) nn = if h.i = i then sg h.b else 0 := by
  by_cases e : h.i = i
  · rw [if_pos e, rsum_congr (g := fun k => if k = h.k then sg h.b else 0) nn fun k _ => by
      unfold hopD
      by_cases e2 : h.k = k
      · rw [if_pos ⟨e, e2⟩, if_pos e2.symm]
      · rw [if_neg (fun h3 => e2 h3.2), if_neg (fun h3 => e2 h3.symm)]]
    rw [rsum_single, if_pos hk]
  · rw [if_neg e, rsum_congr (g := fun _ => 0) nn fun k _ => by unfold hopD; rw [if_neg (fun h3 => e h3.1)]]
    exact rsum_zero nn
theorem hopD_col {h : Hop} (hi : h.i < np) (k : Nat) : rsum (fun i => hopD h i k) np = if h.k = k then sg h.b else 0 := by
  by_cases e : h.k = k
  · rw [if_pos e, rsum_congr (g := fun i => if i = h.i then sg h.b else 0) np fun i _ => by
      unfold hopD
      by_cases e2 : h.i = i
      · rw [if_pos ⟨e2, e⟩, if_pos e2.symm]
      · rw [if_neg (fun h3 => e2 h3.1), if_neg (fun h3 => e2 h3.symm)]]
    rw [rsum_single, if_pos hi]
  · rw [if_neg e, rsum_congr (g := fun _ => 0) np fun i _ => by unfold hopD; rw [if_neg (fun h3 => e h3.2)]]
    exact rsum_zero np
theorem chainD_row_cons (h : Hop) (l : List Hop) (i : Nat) : rsum (fun k => chainD (h :: l) i k) nn = rsum (fun k => hopD h i k) nn + rsum (fun k => chainD l i k) nn := rsum_add _ _ _
theorem chainD_col_cons (h : Hop) (l : List Hop) (k : Nat) : rsum (fun i => chainD (h :: l) i k) np = rsum (fun i => hopD h i k) np + rsum (fun i => chainD l i k) np := rsum_add _ _ _

/-- along a chain all piles and needs are this yard's, the hops as they were laid -/
theorem climbP_steps (I : RInv np nn C X F q0 q1 s) {n i : Nat} (hi : i < np) (h : PD s (n + 1) i) :
    isHop np nn C X (s.b0.getD i hop0) ∧ (s.b0.getD i hop0).i = i ∧ (s.b0.getD i hop0).b = true ∧ (s.b0.getD i hop0).k < nn ∧ s.d1.getD (s.b0.getD i hop0).k 0 < farN ∧
    isHop np nn C X (s.b1.getD (s.b0.getD i hop0).k hop0) ∧ (s.b1.getD (s.b0.getD i hop0).k hop0).k = (s.b0.getD i hop0).k ∧ (s.b1.getD (s.b0.getD i hop0).k hop0).b = false ∧ (s.b1.getD (s.b0.getD i hop0).k hop0).i < np := by
  obtain ⟨hb, _⟩ := h
  obtain ⟨a1, a2, a3, a4⟩ := I.p0 i hi hb
  obtain ⟨c1, c2, c3, c4⟩ := I.p1 _ a1.2.1 a3
  exact ⟨a1, a2, hb, a1.2.1, a3, c1, c2, c3, c1.1⟩
theorem climbP_hops (I : RInv np nn C X F q0 q1 s) : ∀ {n i : Nat}, i < np → PD s n i → (∀ h ∈ climbP s n i, isHop np nn C X h ∧ (h.b = false → s.d1.getD h.k 0 < farN ∧ h = s.b1.getD h.k hop0)) ∧ rootP s n i < np ∧ (s.b0.getD (rootP s n i) hop0).b = false
  | 0, i, hi, hp => ⟨fun h hh => by simp [climbP] at hh, hi, hp⟩
  | n + 1, i, hi, hp => by
    obtain ⟨a1, a2, a3, a4, a5, a6, a7, a8, a9⟩ := climbP_steps I hi hp
    obtain ⟨b1, b2⟩ := climbP_hops I a9 hp.2
    refine ⟨fun h hh => ?_, b2⟩
    rcases List.mem_cons.1 hh with rfl | hh
    · exact ⟨a1, fun e => by rw [a3] at e; cases e⟩
    rcases List.mem_cons.1 hh with rfl | hh
    · exact ⟨a6, fun _ => by rw [a7]; exact ⟨a5, rfl⟩⟩
    · exact b1 h hh
theorem climbP_row (I : RInv np nn C X F q0 q1 s) : ∀ {n i : Nat}, i < np → PD s n i → ∀ j, rsum (fun k => chainD (climbP s n i) j k) nn = (if rootP s n i = j then 1 else 0) - (if i = j then 1 else 0)
  | 0, i, _, _, j => by
    show rsum (fun _ => 0) nn = _
    rw [rsum_zero]; show (0 : Int) = (if i = j then 1 else 0) - _; omega
  | n + 1, i, hi, hp, j => by
    obtain ⟨a1, a2, a3, a4, a5, a6, a7, a8, a9⟩ := climbP_steps I hi hp
    show rsum (fun k => chainD (_ :: _ :: climbP s n _) j k) nn = _
    rw [chainD_row_cons, chainD_row_cons, hopD_row a4, hopD_row (by rw [a7]; exact a4), climbP_row I a9 hp.2 j, a2, a3, a8, sg_t, sg_f]
    show _ = (if rootP s n (s.b1.getD (s.b0.getD i hop0).k hop0).i = j then 1 else 0) - _
    split <;> split <;> split <;> omega
theorem climbP_col (I : RInv np nn C X F q0 q1 s) : ∀ {n i : Nat}, i < np → PD s n i → ∀ j, rsum (fun i' => chainD (climbP s n i) i' j) np = 0
  | 0, i, _, _, j => rsum_zero np
  | n + 1, i, hi, hp, j => by
    obtain ⟨a1, a2, a3, a4, a5, a6, a7, a8, a9⟩ := climbP_steps I hi hp
    show rsum (fun i' => chainD (_ :: _ :: climbP s n _) i' j) np = _
    rw [chainD_col_cons, chainD_col_cons, hopD_col (by rw [a2]; exact hi), hopD_col a9, climbP_col I a9 hp.2 j, a7, a3, a8, sg_t, sg_f]
    split <;> omega
/-- no pair is brought less twice -/
theorem climbP_back (I : RInv np nn C X F q0 q1 s) : ∀ {n i : Nat}, i < np → PD s n i → ∀ a b, 0 ≤ chainD (climbP s n i) a b ∨
    -1 ≤ chainD (climbP s n i) a b ∧ (∃ h ∈ climbP s n i, h.b = true ∧ h.i = a ∧ h.k = b) ∧ (s.b0.getD a hop0).k = b ∧ ∃ m, PD s (m + 1) a ∧ m + 1 ≤ n
  | 0, i, _, _, a, b => .inl (Int.le_refl _)
  | n + 1, i, hi, hp, a, b => by
    obtain ⟨a1, a2, a3, a4, a5, a6, a7, a8, a9⟩ := climbP_steps I hi hp
    have e : chainD (climbP s (n + 1) i) a b = (if i = a ∧ (s.b0.getD i hop0).k = b then -1 else 0) + ((if (s.b1.getD (s.b0.getD i hop0).k hop0).i = a ∧ (s.b0.getD i hop0).k = b then 1 else 0) + chainD (climbP s n (s.b1.getD (s.b0.getD i hop0).k hop0).i) a b) := by
      show hopD _ _ _ + (hopD _ _ _ + _) = _
      unfold hopD
      rw [a2, a3, a7, a8, sg_t, sg_f]
    rw [e]
    by_cases h0 : i = a ∧ (s.b0.getD i hop0).k = b
    · rw [if_pos h0]
      right
      have hD : 0 ≤ chainD (climbP s n (s.b1.getD (s.b0.getD i hop0).k hop0).i) a b := by
        rcases climbP_back I a9 hp.2 a b with h | ⟨_, _, _, m, h1, h2⟩
        · exact h
        · rw [← h0.1] at h1
          have := PD.unique hp h1
          omega
      refine ⟨by split <;> omega, ⟨_, List.mem_cons_self .., a3, by rw [a2]; exact h0.1, h0.2⟩, by rw [← h0.1]; exact h0.2, n, by rw [← h0.1]; exact hp, Nat.le_refl _⟩
    · rw [if_neg h0]
      rcases climbP_back I a9 hp.2 a b with h | ⟨h1, ⟨g, h2, h3⟩, h4, m, h5, h6⟩
      · left; split <;> omega
      · right
        exact ⟨by split <;> omega, ⟨g, List.mem_cons_of_mem _ (List.mem_cons_of_mem _ h2), h3⟩, h4, m, h5, by omega⟩
theorem chainD_pos : ∀ {l : List Hop} {a b : Nat}, 0 < chainD l a b → ∃ h ∈ l, h.b = false ∧ h.i = a ∧ h.k = b
  | [], _, _, h => absurd h (by unfold chainD; omega)
  | g :: l, a, b, h => by
    unfold chainD at h
    by_cases h1 : 0 < chainD l a b
    · obtain ⟨x, hx, h2⟩ := chainD_pos h1
      exact ⟨x, List.mem_cons_of_mem _ hx, h2⟩
    · have h2 : 0 < hopD g a b := by omega
      unfold hopD at h2
      by_cases h3 : g.i = a ∧ g.k = b
      · rw [if_pos h3] at h2
        cases hb : g.b with
        | false => exact ⟨g, List.mem_cons_self .., hb, h3⟩
        | true => rw [hb, sg_t] at h2; omega
      · rw [if_neg h3] at h2; omega
section
variable (I : RInv np nn C X F q0 q1 s) {k n : Nat} (hk : k < nn) (hf : s.d1.getD k 0 < farN) (hp : PD s n (s.b1.getD k hop0).i)
include I hk hf hp
theorem climb_hops : (∀ h ∈ climb s n k, isHop np nn C X h ∧ (h.b = false → s.d1.getD h.k 0 < farN ∧ h = s.b1.getD h.k hop0)) ∧ rootP s n (s.b1.getD k hop0).i < np ∧ (s.b0.getD (rootP s n (s.b1.getD k hop0).i) hop0).b = false := by
  obtain ⟨c1, c2, c3, c4⟩ := I.p1 k hk hf
  obtain ⟨b1, b2⟩ := climbP_hops I c1.1 hp
  refine ⟨fun h hh => ?_, b2⟩
  rcases List.mem_cons.1 hh with rfl | hh
  · exact ⟨c1, fun _ => by rw [c2]; exact ⟨hf, rfl⟩⟩
  · exact b1 h hh
theorem climb_row (j : Nat) : rsum (fun k' => chainD (climb s n k) j k') nn = if rootP s n (s.b1.getD k hop0).i = j then 1 else 0 := by
  obtain ⟨c1, c2, c3, c4⟩ := I.p1 k hk hf
  show rsum (fun k' => chainD (_ :: climbP s n _) j k') nn = _
  rw [chainD_row_cons, hopD_row c1.2.1, climbP_row I c1.1 hp, c3, sg_f]
  split <;> split <;> omega
theorem climb_col (j : Nat) : rsum (fun i' => chainD (climb s n k) i' j) np = if k = j then 1 else 0 := by
  obtain ⟨c1, c2, c3, c4⟩ := I.p1 k hk hf
  show rsum (fun i' => chainD (_ :: climbP s n _) i' j) np = _
  rw [chainD_col_cons, hopD_col c1.1, climbP_col I c1.1 hp, c3, c2, sg_f]
  split <;> omega
theorem climb_back (a b : Nat) : 0 ≤ chainD (climb s n k) a b ∨ -1 ≤ chainD (climb s n k) a b ∧ ∃ h ∈ climb s n k, h.b = true ∧ h.i = a ∧ h.k = b := by
  obtain ⟨c1, c2, c3, c4⟩ := I.p1 k hk hf
  have e : chainD (climb s n k) a b = hopD (s.b1.getD k hop0) a b + chainD (climbP s n (s.b1.getD k hop0).i) a b := rfl
  have h0 : 0 ≤ hopD (s.b1.getD k hop0) a b := by
    unfold hopD
    rw [c3, sg_f]
    split <;> omega
  rcases climbP_back I c1.1 hp a b with h | ⟨h1, ⟨g, h2, h3⟩, _⟩
  · left; omega
  · right; exact ⟨by omega, g, List.mem_cons_of_mem _ h2, h3⟩
end
/-- where nothing is left to relax -/
theorem Fixed.fwd (hX : Fixed np nn C X s) {i k : Nat} (hi : i < np) (hk : k < nn) (hd : s.d0.getD i 0 < farN) : s.d1.getD k 0 ≤ s.d0.getD i 0 + C i k := by
  have h := hX ⟨i, k, false, C i k⟩ ⟨hi, hk, .inl ⟨rfl, rfl⟩⟩
  unfold fires at h
  rw [if_neg (show ¬ (false = true) by decide)] at h
  simp only [Bool.and_eq_false_iff, decide_eq_false_iff_not] at h
  omega
theorem Fixed.bwd (hX : Fixed np nn C X s) {i k : Nat} (hi : i < np) (hk : k < nn) (hx : 0 < X i k) (hd : s.d1.getD k 0 < farN) : s.d0.getD i 0 ≤ s.d1.getD k 0 - C i k := by
  have h := hX ⟨i, k, true, -C i k⟩ ⟨hi, hk, .inr ⟨rfl, rfl, hx⟩⟩
  unfold fires at h
  rw [if_pos rfl] at h
  simp only [Bool.and_eq_false_iff, decide_eq_false_iff_not] at h
  omega
end

end Go.Proofs.Yteogibpmpppgmaa

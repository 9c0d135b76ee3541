/- the least number of days, and what a division proves, plain -/
import Derived.Test.YtchignmnnbepnaaGreatJ4
namespace Go.Proofs.YtchignmnnbepnaaGreat

section
variable {frames paces : List Int} {L : Int}
/-- the ends of a wall's frames -/
abbrev endsOf (frames : List Int) (L : Int) : List Int := frames ++ [L]
def RightF (frames : List Int) (L : Int) : Prop := 1 ≤ L ∧ L ≤ 100000 ∧ (0 :: (frames ++ [L])).Pairwise (· < ·)
def RightP (paces : List Int) : Prop := paces ≠ [] ∧ ∀ p ∈ paces, 1 ≤ p ∧ p ≤ 20000
/-- the least number of days -/
def daysOf (frames : List Int) (L : Int) (paces : List Int) : Nat := 1 + (List.range L.toNat).countP (fun n : Nat => !decide (reachOf (endsOf frames L) paces ((n : Int) + 1) = L))

theorem RightF.ends_le (h : RightF frames L) : ∀ e ∈ endsOf frames L, e ≤ L := fun e he => by
  rcases List.mem_append.1 he with h1 | h1
  · have := (List.pairwise_append.1 (List.pairwise_cons.1 h.2.2).2).2.2 e h1 L (List.mem_singleton.2 rfl)
    omega
  · rw [List.mem_singleton.1 h1]; exact Int.le_refl _
theorem RightF.frame (h : RightF frames L) : ∀ e ∈ frames, 0 < e ∧ e < L := fun e he =>
  ⟨(List.pairwise_cons.1 h.2.2).1 e (List.mem_append_left _ he), (List.pairwise_append.1 (List.pairwise_cons.1 h.2.2).2).2.2 e he L (List.mem_singleton.2 rfl)⟩
theorem RightF.asc (h : RightF frames L) : (endsOf frames L).Pairwise (· < ·) := (List.pairwise_cons.1 h.2.2).2
theorem RightF.reach_le (h : RightF frames L) (d : Int) : reachOf (endsOf frames L) paces d ≤ L := Go.Proofs.YtchignmnnbepnaaGreat.reach_le (by have := h.1; omega) h.ends_le _
theorem RightF.enough (h : RightF frames L) (hp : RightP paces) {d : Int} (hd : L ≤ d) : reachOf (endsOf frames L) paces d = L :=
  reach_enough (List.mem_append_right _ (List.mem_singleton.2 rfl)) h.ends_le (by have := h.1; omega) hp.1 (fun p hp' => (hp.2 p hp').1) hd
theorem RightP.nonneg (hp : RightP paces) : ∀ p ∈ paces, 0 ≤ p := fun p h => by have := (hp.2 p h).1; omega
theorem reach_up (h : RightF frames L) (hp : RightP paces) {d d' : Int} (hd : d ≤ d') (hr : reachOf (endsOf frames L) paces d = L) : reachOf (endsOf frames L) paces d' = L := by
  have := reach_mono (ends := endsOf frames L) hd hp.nonneg
  have := h.reach_le (paces := paces) d'
  omega
theorem countP_bound {p : Nat → Bool} (hm : ∀ a b, a ≤ b → p b = true → p a = true) : ∀ n, (∀ i, i < n → (p i = true ↔ i < (List.range n).countP p)) ∧ (List.range n).countP p ≤ n := by
  intro n
  induction n with
  | zero => exact ⟨fun i h => absurd h (Nat.not_lt_zero i), by simp⟩
  | succ n ih =>
    obtain ⟨h1, h2⟩ := ih
    rw [List.range_succ, List.countP_append]
    cases hp : p n with
    | true =>
      have hall : ∀ i, i < n → p i = true := fun i hi => hm i n (by omega) hp
      have hc : (List.range n).countP p = n := by
        have : (List.range n).countP p = (List.range n).length := List.countP_eq_length.2 fun i hi => hall i (List.mem_range.1 hi)
        simpa using this
      simp only [hc, List.countP_singleton, hp, if_true]
      refine ⟨fun i hi => ⟨fun _ => hi, fun _ => ?_⟩, Nat.le_refl _⟩
      rcases Nat.lt_or_ge i n with h | h
      · exact hall i h
      · rw [show i = n by omega]; exact hp
    | false =>
      simp only [List.countP_singleton, hp]
      simp only [Bool.false_eq_true, if_false, Nat.add_zero]
      refine ⟨fun i hi => ?_, by omega⟩
      rcases Nat.lt_or_ge i n with h | h
      · exact h1 i h
      · rw [show i = n by omega, hp]
        exact ⟨fun h => (by cases h), fun h => by omega⟩
theorem daysOf_spec (h : RightF frames L) (hp : RightP paces) : 1 ≤ daysOf frames L paces ∧ (daysOf frames L paces : Int) ≤ L ∧ reachOf (endsOf frames L) paces (daysOf frames L paces) = L ∧
    ∀ d : Int, d < daysOf frames L paces → reachOf (endsOf frames L) paces d ≠ L := by
  have hL := h.1
  obtain ⟨h1, h2⟩ := countP_bound (p := fun n : Nat => !decide (reachOf (endsOf frames L) paces ((n : Int) + 1) = L)) (fun a b hab hb => by
    simp only [Bool.not_eq_true', decide_eq_false_iff_not] at hb ⊢
    exact fun hr => hb (reach_up h hp (by omega) hr)) L.toNat
  unfold daysOf
  generalize hc : (List.range L.toNat).countP (fun n : Nat => !decide (reachOf (endsOf frames L) paces ((n : Int) + 1) = L)) = c at *
  have hlast : ¬ c = L.toNat := by
    intro e
    have := (h1 (L.toNat - 1) (by omega)).2 (by omega)
    simp only [Bool.not_eq_true', decide_eq_false_iff_not] at this
    exact this (h.enough hp (by omega))
  refine ⟨by omega, by omega, ?_, fun d hd hr => ?_⟩
  · have := mt (h1 c (by omega)).1 (by omega)
    simp only [Bool.not_eq_true', decide_eq_false_iff_not] at this
    have := Classical.not_not.1 this
    rw [show ((1 + c : Nat) : Int) = (c : Int) + 1 by omega]
    exact this
  · have hr1 := reach_up h hp (d' := (c : Int)) (by omega) hr
    rcases Nat.eq_zero_or_pos c with e | e
    · subst e
      -- no days, no way
      have : ∀ l : List Int, reachOf (endsOf frames L) l ((0 : Nat) : Int) = 0 := by
        refine rev_ind rfl fun l p ih => ?_
        rw [reach_snoc, ih]
        refine Int.le_antisymm (nextEnd_le.2 ⟨Int.le_refl _, fun e he hf => ?_⟩) (nextEnd_ge _ _ _)
        have h3 := (List.pairwise_cons.1 h.2.2).1 e he
        simp at hf
        omega
      rw [this] at hr1
      omega
    · have := (h1 (c - 1) (by omega)).2 (by omega)
      simp only [Bool.not_eq_true', decide_eq_false_iff_not] at this
      exact this (by rw [show (((c - 1 : Nat) : Int) + 1) = (c : Int) by omega]; exact hr1)
theorem daysOf_eq (h : RightF frames L) (hp : RightP paces) {d : Nat} (h1 : reachOf (endsOf frames L) paces d = L) (h2 : ∀ k : Int, 1 ≤ k → k < d → reachOf (endsOf frames L) paces k ≠ L) : d = daysOf frames L paces := by
  obtain ⟨h3, _, h4, h5⟩ := daysOf_spec h hp
  rcases Nat.lt_trichotomy d (daysOf frames L paces) with h6 | h6 | h6
  · exact absurd h1 (h5 d (by omega))
  · exact h6
  · exact absurd h4 (h2 _ (by omega) (by omega))

/-- a division that the program finds is one -/
theorem stints_snoc (ends l : List Int) (p days : Int) : stintsOf ends (l ++ [p]) days = if reachOf ends l days < nextEnd ends (reachOf ends l days) (reachOf ends l days + p * days) then stintsOf ends l days ++ [((l.length : Int), reachOf ends l days, nextEnd ends (reachOf ends l days) (reachOf ends l days + p * days))] else stintsOf ends l days := by
  unfold stintsOf reachOf
  rw [eagerS_snoc]
  unfold estep
  simp only [eagerS_len]
end

end Go.Proofs.YtchignmnnbepnaaGreat

/- insertion sort keeps equal ones in their order -/
import Derived.Test.YtchignmnnbepnaaGreatJ35
import Derived.Sort.LotA
namespace Go.Proofs.YtchignmnnbepnaaGreat
open Go.Sort

section
variable {α : Type} [Inhabited α]
theorem swp_at {d : Array α} {j : Nat} (hi : j + 1 < d.size) (hj : j < d.size) (k : Nat) : (swp d (j + 1) j)[k]! = if k = j then d[j + 1]! else if k = j + 1 then d[j]! else d[k]! := by
  by_cases h1 : k = j
  · rw [if_pos h1, h1, swp_right d (j + 1) j hj]
  · rw [if_neg h1]
    by_cases h2 : k = j + 1
    · rw [if_pos h2, h2, swp_left d (j + 1) j hi (by omega)]
    · rw [if_neg h2, swp_other d (j + 1) j k h2 h1]
theorem inner_stable (lt lt' : α → α → Bool) (idx : α → Nat) (h : ∀ x y, idx y < idx x → lt x y = lt' x y) (a : Nat) : ∀ (j : Nat) (d : Array α), j < d.size → (∀ p, a ≤ p → p < j → idx d[p]! < idx d[j]!) → insInner lt a j d = insInner lt' a j d
  | 0, d, _, _ => rfl
  | j + 1, d, hj, hd => by
    unfold insInner
    by_cases ha : j + 1 > a
    · rw [h d[j + 1]! d[j]! (hd j (by omega) (by omega))]
      split
      · refine inner_stable lt lt' idx h a j _ (by rw [swp_size]; omega) fun p hp hpj => ?_
        rw [swp_at hj (by omega), swp_at hj (by omega), if_neg (by omega), if_neg (by omega), if_pos rfl]
        exact hd p hp (by omega)
      · rfl
    · have e1 : (decide (j + 1 > a) && lt d[j + 1]! d[j]!) = false := by simp [ha]
      have e2 : (decide (j + 1 > a) && lt' d[j + 1]! d[j]!) = false := by simp [ha]
      rw [if_neg (by simp [ha]), if_neg (by simp [ha])]
theorem inner_vals (lt : α → α → Bool) (a i : Nat) : ∀ (j : Nat) (d : Array α), j ≤ i → i < d.size → a ≤ j → (insInner lt a j d).size = d.size ∧ (∀ p, a ≤ p → p ≤ i → ∃ q, a ≤ q ∧ q ≤ i ∧ (insInner lt a j d)[p]! = d[q]!) ∧ ∀ p, p < a ∨ i < p → (insInner lt a j d)[p]! = d[p]!
  | 0, d, _, _, _ => ⟨rfl, fun p hp hpi => ⟨p, hp, hpi, rfl⟩, fun p _ => rfl⟩
  | j + 1, d, hji, hi, haj => by
    unfold insInner
    split
    · rename_i hc
      simp only [Bool.and_eq_true, decide_eq_true_eq] at hc
      obtain ⟨h1, h2, h3⟩ := inner_vals lt a i j (swp d (j + 1) j) (by omega) (by rw [swp_size]; exact hi) (by omega)
      refine ⟨by rw [h1, swp_size], fun p hp hpi => ?_, fun p hp => ?_⟩
      · obtain ⟨q, hq1, hq2, hq3⟩ := h2 p hp hpi
        rw [swp_at (by omega) (by omega)] at hq3
        split at hq3
        · exact ⟨j + 1, by omega, by omega, hq3⟩
        · split at hq3
          · exact ⟨j, by omega, by omega, hq3⟩
          · exact ⟨q, hq1, hq2, hq3⟩
      · rw [h3 p hp, swp_at (by omega) (by omega), if_neg (by omega), if_neg (by omega)]
    · exact ⟨rfl, fun p hp hpi => ⟨p, hp, hpi, rfl⟩, fun p _ => rfl⟩
theorem outer_stable (lt lt' : α → α → Bool) (idx : α → Nat) (h : ∀ x y, idx y < idx x → lt x y = lt' x y) (a b : Nat) : ∀ (n i : Nat) (d : Array α), b - i = n → a < i → b ≤ d.size → (∀ p q, a ≤ p → p < q → i ≤ q → q < b → idx d[p]! < idx d[q]!) → insOuter lt a b i d = insOuter lt' a b i d
  | 0, i, d, hn, _, _, _ => by
    unfold insOuter
    rw [if_neg (by omega), if_neg (by omega)]
  | n + 1, i, d, hn, hai, hb, hd => by
    rw [insOuter, if_pos (by omega)]
    conv => rhs; rw [insOuter, if_pos (show i < b by omega)]
    have e := inner_stable lt lt' idx h a i d (by omega) (fun p hp hpi => hd p i hp hpi (Nat.le_refl _) (by omega))
    rw [← e]
    obtain ⟨h1, h2, h3⟩ := inner_vals lt a i i d (Nat.le_refl _) (by omega) (by omega)
    refine outer_stable lt lt' idx h a b n (i + 1) _ (by omega) (by omega) (by rw [h1]; exact hb) fun p q hp hpq hiq hqb => ?_
    rw [h3 q (.inr (by omega))]
    by_cases hpi : p ≤ i
    · obtain ⟨r, hr1, hr2, hr3⟩ := h2 p hp hpi
      rw [hr3]
      exact hd r q hr1 (by omega) (by omega) hqb
    · rw [h3 p (.inr (by omega))]
      exact hd p q hp hpq (by omega) hqb
theorem sort_stable (lt lt' : α → α → Bool) (idx : α → Nat) (h : ∀ x y, idx y < idx x → lt x y = lt' x y) {d : Array α} {a b : Nat} (hb : b ≤ d.size) (hd : ∀ p q, a ≤ p → p < q → q < b → idx d[p]! < idx d[q]!) : insertionSort lt d a b = insertionSort lt' d a b :=
  outer_stable lt lt' idx h a b _ (a + 1) d rfl (by omega) hb (fun p q hp hpq _ hqb => hd p q hp hpq hqb)
end
end Go.Proofs.YtchignmnnbepnaaGreat

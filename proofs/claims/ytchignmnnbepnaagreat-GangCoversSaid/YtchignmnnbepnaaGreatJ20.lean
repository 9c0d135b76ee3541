/- a name, byte by byte (plain) -/
import Derived.Test.YtchignmnnbepnaaGreatJ10
namespace Go.Proofs.YtchignmnnbepnaaGreat
open Go.RowKit

def okB (b : Nat) : Bool := (decide (97 ≤ b) && decide (b ≤ 122)) || (decide (48 ≤ b) && decide (b ≤ 57))
theorem odd_ok (b : Nat) : oddR b = !okB b := by
  unfold oddR okB
  cases decide (97 ≤ b) <;> cases decide (b ≤ 122) <;> cases decide (48 ≤ b) <;> cases decide (b ≤ 57) <;> rfl
theorem decode_low {s : ByteArray} {i : Nat} (h : (s.get! i).toNat < 128) : Utf8.decode s i = ((s.get! i).toNat, 1) := by
  unfold Utf8.decode
  simp only [Nat.add_zero]
  rw [if_pos h]
theorem decode_high {s : ByteArray} {i : Nat} (h : ¬ (s.get! i).toNat < 128) : 128 ≤ (Utf8.decode s i).1 := by
  unfold Utf8.decode Utf8.runeError
  simp only [Nat.add_zero]
  rw [if_neg h]
  split
  · split
    · simp only; omega
    · simp only; omega
  · split
    · split
      · rename_i h2
        have h3 := (Bool.and_eq_true _ _).mp h2
        have := of_decide_eq_true h3.1
        simp only; omega
      · simp only; omega
    · split
      · split
        · rename_i h2
          have h3 := (Bool.and_eq_true _ _).mp h2
          have := of_decide_eq_true h3.1
          simp only; omega
        · simp only; omega
      · simp only; omega
theorem odd_high {x : Nat} (h : 128 ≤ x) : oddR x = true := by
  rw [odd_ok]
  unfold okB
  rw [decide_eq_false (show ¬ x ≤ 122 by omega), decide_eq_false (show ¬ x ≤ 57 by omega), Bool.and_false, Bool.and_false]
  rfl
theorem idx_none (s : ByteArray) : ∀ (f pos : Nat), s.size ≤ pos + f → (Lib.idxFuncFrom oddR true s f pos = -1 ↔ ∀ i, pos ≤ i → i < s.size → okB (s.get! i).toNat = true)
  | 0, pos, h => ⟨fun _ i h1 h2 => by omega, fun _ => rfl⟩
  | f + 1, pos, h => by
    unfold Lib.idxFuncFrom
    by_cases hp : pos < s.size
    · rw [if_pos hp]
      by_cases hb : (s.get! pos).toNat < 128
      · rw [decode_low hb]
        cases ho : okB (s.get! pos).toNat
        · rw [odd_ok, ho, if_pos (by rfl)]
          exact ⟨fun h2 => by omega, fun h2 => by rw [h2 pos (Nat.le_refl _) hp] at ho; cases ho⟩
        · rw [odd_ok, ho, if_neg (by simp), idx_none s f (pos + 1) (by omega)]
          constructor
          · intro h2 i h3 h4
            rcases Nat.lt_or_ge pos i with h5 | h5
            · exact h2 i (by omega) h4
            · rw [show i = pos by omega]; exact ho
          · intro h2 i h3 h4
            exact h2 i (by omega) h4
      · have hd := decode_high hb
        rw [if_pos (odd_high hd)]
        refine ⟨fun h2 => by omega, fun h2 => ?_⟩
        have h3 := h2 pos (Nat.le_refl _) hp
        have h4 := odd_high (x := (s.get! pos).toNat) (by omega)
        rw [odd_ok, h3] at h4
        cases h4
    · rw [if_neg hp]
      exact ⟨fun _ i h1 h2 => by omega, fun _ => rfl⟩
theorem get_at {s : ByteArray} {i : Nat} (h : i < s.size) : s.get! i = s[i] := by
  show s.data[i]! = s.data[i]
  exact getElem!_pos s.data i h
theorem named_iff {s : ByteArray} : namedB s = true ↔ 1 ≤ s.size ∧ s.size ≤ 16 ∧ ∀ i (h : i < s.size), okB s[i].toNat = true := by
  have h0 := idx_none s s.size 0 (by omega)
  have hr := Lib.idxFunc_range oddR true s
  have he : s.toList.isEmpty = decide (s.size = 0) := by
    rw [Go.ByteArray.toList_eq]
    cases hl : s.data.toList with
    | nil => rw [decide_eq_true]; rfl; show s.data.size = 0; rw [← Array.length_toList, hl]; rfl
    | cons a b => rw [decide_eq_false]; rfl; show ¬ s.data.size = 0; rw [← Array.length_toList, hl]; simp
  unfold namedB
  rw [Bool.and_eq_true, Bool.and_eq_true, he, Bool.not_eq_true', Bool.not_eq_true', decide_eq_false_iff_not, decide_eq_true_eq, decide_eq_false_iff_not]
  have e : (¬ 0 ≤ Lib.idxFunc oddR true s) ↔ ∀ i (h : i < s.size), okB s[i].toNat = true := by
    constructor
    · intro h i hi
      have := h0.1 (by show Lib.idxFunc oddR true s = -1; omega) i (Nat.zero_le _) hi
      rwa [get_at hi] at this
    · intro h
      have : Lib.idxFunc oddR true s = -1 := h0.2 fun i _ hi => by rw [get_at hi]; exact h i hi
      omega
  rw [e]
  constructor
  · rintro ⟨⟨h1, h2⟩, h3⟩
    exact ⟨by omega, h2, h3⟩
  · rintro ⟨h1, h2, h3⟩
    exact ⟨⟨by omega, h2⟩, h3⟩
end Go.Proofs.YtchignmnnbepnaaGreat

/- the allotment of frames, plain -/
import Derived.Test.YtchignmnnbepnaaGreatJ4
namespace Go.Proofs.YtchignmnnbepnaaGreat

theorem all_in_len : ∀ (n : Nat) (S : List Nat), (∀ m, m < n → m ∈ S) → n ≤ S.length
  | 0, _, _ => Nat.zero_le _
  | n + 1, S, h => by
    have h1 := h n (by omega)
    have h2 := all_in_len n (S.erase n) fun m hm => (List.mem_erase_of_ne (by omega)).2 (h m (by omega))
    rw [List.length_erase_of_mem h1] at h2
    have := List.length_pos_of_mem h1
    omega
/-- a use: from, to -/
abbrev Us := Int × Int
def goodUse (u : Us) : Prop := 0 ≤ u.1 ∧ u.2 ≤ 100000 ∧ u.1 < u.2
def meetsB (u o : Us) : Bool := decide (u.1 < o.2) && decide (o.1 < u.2)
def hasDay (d : Int) (u : Us) : Bool := decide (u.1 ≤ d) && decide (d < u.2)
def onB (l : List Us) (d : Int) : Nat := l.countP (hasDay d)
abbrev at0 (l : List Us) (k : Nat) : Us := l.getD k (0, 0)
/-- is the number m taken by one that meets use i? -/
def takenB (l : List Us) (nums : List Int) (i m : Nat) : Bool := (List.range l.length).any fun k => decide (nums.getD k (-1) = (m : Int)) && meetsB (at0 l k) (at0 l i)
def numFor (l : List Us) (nums : List Int) (i : Nat) : Nat := ((List.range (l.length + 1)).find? fun m => !takenB l nums i m).getD 0
/-- one use more: numbers, how many pairs, the day -/
def allotStep (l : List Us) (s : List Int × Int × Int) (i : Nat) : List Int × Int × Int :=
  (s.1.set i (numFor l s.1 i : Int), if (numFor l s.1 i : Int) = s.2.1 then (s.2.1 + 1, (at0 l i).1) else s.2)
def allotRun (l : List Us) (order : List Nat) : List Int × Int × Int := order.foldl (allotStep l) (List.replicate l.length (-1), 0, 0)
def before (l : List Us) (i k : Nat) : Prop := (at0 l i).1 < (at0 l k).1 ∨ (at0 l i).1 = (at0 l k).1 ∧ i < k
def InOrder (l : List Us) (order : List Nat) : Prop := order.Perm (List.range l.length) ∧ order.Pairwise (before l)

section
variable {l : List Us}
theorem taken_iff {nums : List Int} {i m : Nat} : takenB l nums i m = true ↔ ∃ k, k < l.length ∧ nums.getD k (-1) = (m : Int) ∧ meetsB (at0 l k) (at0 l i) = true := by
  unfold takenB
  rw [List.any_eq_true]
  constructor
  · rintro ⟨k, hk, h⟩
    rw [Bool.and_eq_true, decide_eq_true_eq] at h
    exact ⟨k, List.mem_range.1 hk, h.1, h.2⟩
  · rintro ⟨k, hk, h1, h2⟩
    exact ⟨k, List.mem_range.2 hk, by rw [Bool.and_eq_true, decide_eq_true_eq]; exact ⟨h1, h2⟩⟩
theorem find_range {p : Nat → Bool} {n : Nat} (h : ∃ m, m < n ∧ p m = true) : ∃ m, (List.range n).find? p = some m ∧ p m = true ∧ m < n ∧ ∀ k, k < m → p k = false := by
  obtain ⟨m0, h1, h2⟩ := h
  cases hf : (List.range n).find? p with
  | none => exact absurd h2 (by simpa using List.find?_eq_none.1 hf m0 (List.mem_range.2 h1))
  | some m =>
    refine ⟨m, rfl, List.find?_some hf, List.mem_range.1 (List.mem_of_find?_eq_some hf), fun k hk => ?_⟩
    obtain ⟨_, as, bs, e, hno⟩ := List.find?_eq_some_iff_append.1 hf
    have hk2 : k ∈ as := by
      have hmn := List.mem_range.1 (List.mem_of_find?_eq_some hf)
      have hkn : k ∈ List.range n := List.mem_range.2 (by omega)
      rw [e] at hkn
      rcases List.mem_append.1 hkn with h3 | h3
      · exact h3
      · exfalso
        have hs : (as ++ m :: bs).Pairwise (· < ·) := e ▸ List.pairwise_lt_range
        rcases List.mem_cons.1 h3 with h4 | h4
        · omega
        · have := (List.pairwise_cons.1 (List.pairwise_append.1 hs).2.1).1 k h4
          omega
    simpa using hno k hk2
/-- the number: none lesser is free, it is free -/
theorem numFor_spec (nums : List Int) (i : Nat) : (∀ m, m < numFor l nums i → takenB l nums i m = true) ∧ takenB l nums i (numFor l nums i) = false ∧ numFor l nums i ≤ l.length := by
  have hex : ∃ m, m < l.length + 1 ∧ (!takenB l nums i m) = true := by
    apply Classical.byContradiction
    intro hno
    have hall : ∀ m, m < l.length + 1 → m ∈ (List.range l.length).map fun k => (nums.getD k (-1)).toNat := by
      intro m hm
      have h1 : takenB l nums i m = true := by
        cases h : takenB l nums i m with
        | true => rfl
        | false => exact absurd ⟨m, hm, by rw [h]; rfl⟩ hno
      obtain ⟨k, hk, e, _⟩ := taken_iff.1 h1
      exact List.mem_map.2 ⟨k, List.mem_range.2 hk, by rw [e]; exact Int.toNat_natCast m⟩
    have := all_in_len _ _ hall
    rw [List.length_map, List.length_range] at this
    omega
  obtain ⟨m, h1, h2, h3, h4⟩ := find_range hex
  unfold numFor
  rw [h1]
  exact ⟨fun k hk => by simpa using h4 k hk, by simpa using h2, by show m ≤ _; omega⟩
theorem allot_snoc (order : List Nat) (i : Nat) : allotRun l (order ++ [i]) = allotStep l (allotRun l order) i := by unfold allotRun; rw [List.foldl_append]; rfl
theorem allot_len (order : List Nat) : (allotRun l order).1.length = l.length := by
  suffices ∀ (o : List Nat) (s : List Int × Int × Int), (o.foldl (allotStep l) s).1.length = s.1.length from (this order (List.replicate l.length (-1), 0, 0)).trans List.length_replicate
  intro o
  induction o with
  | nil => intro s; rfl
  | cons i o ih => intro s; rw [List.foldl_cons, ih]; exact List.length_set
theorem getD_set' {α : Type} {l : List α} {i j : Nat} {x d : α} (hi : i < l.length) : (l.set i x).getD j d = if i = j then x else l.getD j d := by
  rw [List.getD_eq_getElem?_getD, List.getElem?_set]
  by_cases e : i = j
  · rw [if_pos e, if_pos e, if_pos hi]; rfl
  · rw [if_neg e, if_neg e, List.getD_eq_getElem?_getD]
/-- what holds between two uses: P have got their numbers -/
structure AllotI (l : List Us) (P : List Nat) (s : List Int × Int × Int) : Prop where
  un : ∀ k, k ∉ P → s.1.getD k (-1) = -1
  as : ∀ k, k ∈ P → ∃ m : Nat, s.1.getD k (-1) = (m : Int) ∧ (m : Int) < s.2.1
  ok : ∀ i k, i ∈ P → k ∈ P → i ≠ k → meetsB (at0 l i) (at0 l k) = true → s.1.getD i (-1) ≠ s.1.getD k (-1)
  n0 : 0 ≤ s.2.1
  z : P = [] → s.2 = (0, 0)
  /-- the use that wanted the last pair, its day, and that none before it did -/
  d : P ≠ [] → ∃ j, ∃ h : j < P.length, 0 < s.2.1 ∧ s.1.getD P[j] (-1) = s.2.1 - 1 ∧ s.2.2 = (at0 l P[j]).1 ∧ (∀ t (ht : t < j), s.1.getD (P[t]'(by omega)) (-1) < s.2.1 - 1) ∧ s.2.1 ≤ onB l (at0 l P[j]).1
end

end Go.Proofs.YtchignmnnbepnaaGreat

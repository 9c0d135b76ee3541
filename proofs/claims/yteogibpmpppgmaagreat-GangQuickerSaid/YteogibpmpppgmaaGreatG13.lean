/- marking the places that can be reached, pair by pair (plain) -/
import Derived.Test.YteogibpmpppgmaaGreatG2
import Derived.Test.YteogibpmpppgmaaGreatG4
namespace Go.Proofs.YteogibpmpppgmaaGreat

/-- pairs (a', b) with a' < a, or a' = a and b < b0, are done -/
def markPart (E : List Int) (r : List Bool) (far : Int) (a b0 : Nat) : List Bool := (List.range E.length).map fun b => r.getD b false || (List.range b).any fun a' => (decide (a' < a) || (decide (a' = a) && decide (b < b0))) && (r.getD a' false && decide (E.getD b 0 - E.getD a' 0 ≤ far))
theorem mp_len (E : List Int) (r : List Bool) (far : Int) (a b0 : Nat) : (markPart E r far a b0).length = E.length := by simp [markPart]
theorem mp_at {E : List Int} {r : List Bool} {far : Int} {a b0 b : Nat} (hb : b < E.length) : (markPart E r far a b0)[b]? = some (r.getD b false || (List.range b).any fun a' => (decide (a' < a) || (decide (a' = a) && decide (b < b0))) && (r.getD a' false && decide (E.getD b 0 - E.getD a' 0 ≤ far))) := by
  unfold markPart
  rw [List.getElem?_map, List.getElem?_range hb]
  rfl
theorem any_eq {n : Nat} {p q : Nat → Bool} (h : ∀ i, i < n → p i = q i) : (List.range n).any p = (List.range n).any q := by
  rw [Bool.eq_iff_iff, List.any_eq_true, List.any_eq_true]
  constructor
  · rintro ⟨x, hx, hp⟩; exact ⟨x, hx, by rw [← h x (List.mem_range.1 hx)]; exact hp⟩
  · rintro ⟨x, hx, hp⟩; exact ⟨x, hx, by rw [h x (List.mem_range.1 hx)]; exact hp⟩
theorem list_ext {l l' : List Bool} {n : Nat} (h1 : l.length = n) (h2 : l'.length = n) (h : ∀ i, i < n → l[i]? = l'[i]?) : l = l' := by
  refine List.ext_getElem? fun i => ?_
  rcases Nat.lt_or_ge i n with hi | hi
  · exact h i hi
  · rw [List.getElem?_eq_none (by omega), List.getElem?_eq_none (by omega)]
theorem mp_start {E : List Int} {r : List Bool} {far : Int} (hr : r.length = E.length) : markPart E r far 0 0 = r := by
  refine list_ext (mp_len _ _ _ _ _) hr fun i hi => ?_
  rw [mp_at hi, List.getElem?_eq_getElem (by omega), List.getD_eq_getElem?_getD, List.getElem?_eq_getElem (by omega)]
  have : ((List.range i).any fun a' => (decide (a' < 0) || (decide (a' = 0) && decide (i < 0))) && (r.getD a' false && decide (E.getD i 0 - E.getD a' 0 ≤ far))) = false := by
    rw [List.any_eq_false]
    intro x _
    simp
  rw [this, Bool.or_false]
  rfl
theorem mp_inner {E : List Int} {r : List Bool} {far : Int} {a : Nat} : markPart E r far a (a + 1) = markPart E r far a 0 := by
  refine list_ext (mp_len _ _ _ _ _) (mp_len _ _ _ _ _) fun i hi => ?_
  rw [mp_at hi, mp_at hi]
  congr 2
  refine any_eq fun x hx => ?_
  congr 1
  by_cases h : x = a
  · subst h
    simp
    omega
  · simp [h]
theorem mp_next {E : List Int} {r : List Bool} {far : Int} {a b : Nat} (h : E.length ≤ b) : markPart E r far a b = markPart E r far (a + 1) 0 := by
  refine list_ext (mp_len _ _ _ _ _) (mp_len _ _ _ _ _) fun i hi => ?_
  rw [mp_at hi, mp_at hi]
  congr 2
  refine any_eq fun x hx => ?_
  congr 1
  rw [Bool.eq_iff_iff]
  simp
  omega
theorem mp_all {E : List Int} {r : List Bool} {far : Int} {a : Nat} (h : E.length ≤ a) : markPart E r far a 0 = markRow E r far := by
  refine list_ext (mp_len _ _ _ _ _) (markRow_len _ _ _) fun i hi => ?_
  rw [mp_at hi]
  unfold markRow
  rw [List.getElem?_map, List.getElem?_range hi]
  simp only [Option.map_some]
  congr 2
  refine any_eq fun x hx => ?_
  rw [show decide (x < a) = true from decide_eq_true (by omega)]
  rfl
theorem mp_no {E : List Int} {r : List Bool} {far : Int} {a b : Nat} (hc : (r.getD a false && decide (E.getD b 0 - E.getD a 0 ≤ far)) = false) : markPart E r far a (b + 1) = markPart E r far a b := by
  refine list_ext (mp_len _ _ _ _ _) (mp_len _ _ _ _ _) fun i hi => ?_
  rw [mp_at hi, mp_at hi]
  congr 2
  refine any_eq fun x hx => ?_
  by_cases hib : i = b
  · subst hib
    by_cases hxa : x = a
    · subst hxa
      rw [hc, Bool.and_false, Bool.and_false]
    · simp [hxa]
  · congr 1
    rw [Bool.eq_iff_iff]
    simp
    omega
theorem mp_yes {E : List Int} {r : List Bool} {far : Int} {a b : Nat} (hab : a < b) (hc : (r.getD a false && decide (E.getD b 0 - E.getD a 0 ≤ far)) = true) : markPart E r far a (b + 1) = (markPart E r far a b).set b true := by
  refine list_ext (mp_len _ _ _ _ _) (by rw [List.length_set]; exact mp_len _ _ _ _ _) fun i hi => ?_
  by_cases hib : i = b
  · subst hib
    rw [mp_at hi, List.getElem?_set_self (by rw [mp_len]; exact hi)]
    have : ((List.range i).any fun a' => (decide (a' < a) || (decide (a' = a) && decide (i < i + 1))) && (r.getD a' false && decide (E.getD i 0 - E.getD a' 0 ≤ far))) = true := by
      rw [List.any_eq_true]
      exact ⟨a, List.mem_range.2 hab, by rw [hc]; simp⟩
    rw [this, Bool.or_true]
  · rw [List.getElem?_set_ne (by omega), mp_at hi, mp_at hi]
    congr 2
    refine any_eq fun x hx => ?_
    congr 1
    rw [Bool.eq_iff_iff]
    simp
    omega
theorem marks_take {E paces : List Int} {d : Int} {k : Nat} (h : k < paces.length) : marks E (paces.take (k + 1)) d = markRow E (marks E (paces.take k) d) (paces[k] * d) := by
  rw [take_snoc h, marks_snoc]
end Go.Proofs.YteogibpmpppgmaaGreat

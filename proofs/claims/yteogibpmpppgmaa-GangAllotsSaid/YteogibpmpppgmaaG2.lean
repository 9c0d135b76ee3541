/- the reference's marks against the eager division, plain -/
import Derived.Test.YteogibpmpppgmaaG1
namespace Go.Proofs.Yteogibpmpppgmaa

/-- one waller more: which ends can be reached -/
def markRow (E : List Int) (r : List Bool) (far : Int) : List Bool := (List.range E.length).map fun b => r.getD b false || (List.range b).any fun a => r.getD a false && decide (E.getD b 0 - E.getD a 0 ≤ far)
def marks0 (E : List Int) : List Bool := (List.range E.length).map fun b => decide (b = 0)
def marks (E : List Int) (paces : List Int) (days : Int) : List Bool := paces.foldl (fun r p => markRow E r (p * days)) (marks0 E)
def possible (E : List Int) (paces : List Int) (days : Int) : Bool := (marks E paces days).getD (E.length - 1) false

theorem marks_nil (E : List Int) (days : Int) : marks E [] days = marks0 E := rfl
theorem marks_snoc (E l : List Int) (p days : Int) : marks E (l ++ [p]) days = markRow E (marks E l days) (p * days) := by
  unfold marks; rw [List.foldl_append]; rfl
theorem markRow_len (E : List Int) (r : List Bool) (far : Int) : (markRow E r far).length = E.length := by simp [markRow]
theorem marks0_len (E : List Int) : (marks0 E).length = E.length := by simp [marks0]
theorem marks_len (E : List Int) (days : Int) : ∀ paces, (marks E paces days).length = E.length := by
  refine rev_ind (marks0_len E) fun l p _ => ?_
  rw [marks_snoc, markRow_len]
theorem markRow_at {E : List Int} {r : List Bool} {far : Int} {b : Nat} (hb : b < E.length) : (markRow E r far).getD b false = (r.getD b false || (List.range b).any fun a => r.getD a false && decide (E.getD b 0 - E.getD a 0 ≤ far)) := by
  unfold markRow
  rw [List.getD_eq_getElem?_getD, List.getElem?_map, List.getElem?_range hb]
  rfl
theorem getD_at {l : List Int} {i : Nat} (h : i < l.length) : l.getD i 0 = l[i] := by
  rw [List.getD_eq_getElem?_getD, List.getElem?_eq_getElem h]; rfl

theorem marks_reach {frames : List Int} {L days : Int} (hs : (0 :: (frames ++ [L])).Pairwise (· < ·)) (hd : 0 ≤ days) : ∀ paces : List Int, (∀ p ∈ paces, 0 ≤ p) →
    (∀ j, j < (0 :: (frames ++ [L])).length → (marks (0 :: (frames ++ [L])) paces days).getD j false = true → (0 :: (frames ++ [L])).getD j 0 ≤ reachOf (frames ++ [L]) paces days) ∧
    (∃ j, j < (0 :: (frames ++ [L])).length ∧ (marks (0 :: (frames ++ [L])) paces days).getD j false = true ∧ (0 :: (frames ++ [L])).getD j 0 = reachOf (frames ++ [L]) paces days) := by
  generalize hE : (0 :: (frames ++ [L])) = E at hs
  have hmem : ∀ e, e ∈ frames ++ [L] → e ∈ E := fun e he => by rw [← hE]; exact List.mem_cons_of_mem _ he
  have h0 : 0 < E.length := by rw [← hE]; simp
  have hE0 : E.getD 0 0 = 0 := by rw [← hE]; rfl
  refine rev_ind (motive := fun paces => (∀ p ∈ paces, 0 ≤ p) → _ ∧ _) (fun _ => ⟨fun j hj h => ?_, ⟨0, h0, ?_, ?_⟩⟩) fun l p ih hp => ?_
  · rw [marks_nil, marks0, List.getD_eq_getElem?_getD, List.getElem?_map, List.getElem?_range hj] at h
    simp at h
    subst h
    rw [hE0]; exact Int.le_refl _
  · rw [marks_nil, marks0, List.getD_eq_getElem?_getD, List.getElem?_map, List.getElem?_range h0]; rfl
  · rw [hE0]; rfl
  · obtain ⟨h1, h2⟩ := ih fun q hq => hp q (List.mem_append_left _ hq)
    have hp0 := hp p (List.mem_append_right _ (List.mem_singleton.2 rfl))
    have hpd : 0 ≤ p * days := Int.mul_nonneg hp0 hd
    rw [marks_snoc, reach_snoc]
    generalize marks E l days = m at *
    generalize hm : reachOf (frames ++ [L]) l days = at0 at *
    constructor
    · intro j hj h
      rw [markRow_at hj, Bool.or_eq_true] at h
      rcases h with h | h
      · exact Int.le_trans (h1 j hj h) (nextEnd_ge _ _ _)
      · rw [List.any_eq_true] at h
        obtain ⟨a, ha, hc⟩ := h
        rw [List.mem_range] at ha
        rw [Bool.and_eq_true, decide_eq_true_eq] at hc
        have h3 := h1 a (by omega) hc.1
        have hj0 : j ≠ 0 := by omega
        have hin : E.getD j 0 ∈ frames ++ [L] := by
          obtain ⟨i, rfl⟩ : ∃ i, j = i + 1 := ⟨j - 1, by omega⟩
          rw [← hE] at hj ⊢
          rw [List.getD_cons_succ, getD_at (by simpa using hj)]
          exact List.getElem_mem _
        exact ((nextEnd_le (far := at0 + p * days)).1 (Int.le_refl _)).2 _ hin (by omega)
    · rcases nextEnd_mem (l := frames ++ [L]) (m := at0) (far := at0 + p * days) with h | ⟨h3, h4, h5⟩
      · obtain ⟨j, hj, hj1, hj2⟩ := h2
        exact ⟨j, hj, by rw [markRow_at hj, hj1]; rfl, by rw [h]; exact hj2⟩
      · obtain ⟨j, hj, hj1, hj2⟩ := h2
        obtain ⟨b, hb, hb2⟩ := List.getElem_of_mem (hmem _ h3)
        refine ⟨b, hb, ?_, by rw [getD_at hb]; exact hb2⟩
        rw [markRow_at hb, Bool.or_eq_true]
        refine .inr (List.any_eq_true.2 ⟨j, List.mem_range.2 ?_, ?_⟩)
        · rcases Nat.lt_or_ge j b with h | h
          · exact h
          · exfalso
            have : E[b] ≤ E[j] := by
              rcases Nat.lt_or_ge b j with h' | h'
              · exact Int.le_of_lt (List.pairwise_iff_getElem.1 hs b j hb hj h')
              · have : b = j := by omega
                subst this; exact Int.le_refl _
            rw [getD_at hj] at hj2
            omega
        · rw [hj1, Bool.true_and, decide_eq_true_eq, getD_at hb, hb2, hj2]
          omega
theorem possible_iff {frames : List Int} {L days : Int} (hs : (0 :: (frames ++ [L])).Pairwise (· < ·)) (hd : 0 ≤ days) {paces : List Int} (hp : ∀ p ∈ paces, 0 ≤ p) : possible (0 :: (frames ++ [L])) paces days = true ↔ reachOf (frames ++ [L]) paces days = L := by
  obtain ⟨h1, h2⟩ := marks_reach hs hd paces hp
  have hl : (0 :: (frames ++ [L])).length - 1 = frames.length + 1 := by simp
  have hlast : (0 :: (frames ++ [L])).getD (frames.length + 1) 0 = L := by
    rw [List.getD_cons_succ, getD_at (by simp)]
    simp
  have hall : ∀ e ∈ frames ++ [L], e ≤ L := fun e he => by
    rcases List.mem_append.1 he with h | h
    · have := (List.pairwise_append.1 (List.pairwise_cons.1 hs).2).2.2 e h L (List.mem_singleton.2 rfl)
      omega
    · rw [List.mem_singleton.1 h]; exact Int.le_refl _
  have hL0 : 0 ≤ L := Int.le_of_lt ((List.pairwise_cons.1 hs).1 L (List.mem_append_right _ (List.mem_singleton.2 rfl)))
  have hle := reach_le (days := days) hL0 hall paces
  unfold possible
  rw [hl]
  constructor
  · intro h
    have := h1 _ (by simp) h
    rw [hlast] at this
    omega
  · intro h
    obtain ⟨j, hj, hj1, hj2⟩ := h2
    have : j = frames.length + 1 := by
      rw [h, getD_at hj] at hj2
      rcases Nat.lt_or_ge j (frames.length + 1) with h' | h'
      · exfalso
        have h3 := List.pairwise_iff_getElem.1 hs j (frames.length + 1) hj (by simp) h'
        have h4 := getD_at (l := 0 :: (frames ++ [L])) (i := frames.length + 1) (by simp)
        rw [hlast] at h4
        omega
      · simp at hj; omega
    rw [← this]; exact hj1

end Go.Proofs.Yteogibpmpppgmaa

/- the eager division, plain: how far it reaches; the least number of days -/
import Derived.Lib.Hide
namespace Go.Proofs.YtchignmnnbepnaaGreat

/-- the greatest end up to far, if it lies beyond m -/
def nextEnd (ends : List Int) (m far : Int) : Int := ends.foldl (fun m e => if m < e ∧ e ≤ far then e else m) m
/-- one waller more: (how many wallers, their stints, how far) -/
def estep (ends : List Int) (days : Int) (s : Nat × List (Int × Int × Int) × Int) (pace : Int) : Nat × List (Int × Int × Int) × Int :=
  (s.1 + 1, if s.2.2 < nextEnd ends s.2.2 (s.2.2 + pace * days) then s.2.1 ++ [((s.1 : Int), s.2.2, nextEnd ends s.2.2 (s.2.2 + pace * days))] else s.2.1, nextEnd ends s.2.2 (s.2.2 + pace * days))
def eagerS (ends : List Int) (paces : List Int) (days : Int) : Nat × List (Int × Int × Int) × Int := paces.foldl (estep ends days) (0, [], 0)
def stintsOf (ends paces : List Int) (days : Int) : List (Int × Int × Int) := (eagerS ends paces days).2.1
def reachOf (ends paces : List Int) (days : Int) : Int := (eagerS ends paces days).2.2

theorem nextEnd_nil (m far : Int) : nextEnd [] m far = m := rfl
theorem nextEnd_cons (e : Int) (l : List Int) (m far : Int) : nextEnd (e :: l) m far = nextEnd l (if m < e ∧ e ≤ far then e else m) far := rfl
theorem nextEnd_le {far X : Int} : ∀ {l : List Int} {m : Int}, nextEnd l m far ≤ X ↔ m ≤ X ∧ ∀ e ∈ l, e ≤ far → e ≤ X := by
  intro l
  induction l with
  | nil => intro m; simp [nextEnd_nil]
  | cons a l ih =>
    intro m
    rw [nextEnd_cons, ih]
    constructor
    · rintro ⟨h1, h2⟩
      refine ⟨?_, fun e he hf => ?_⟩
      · split at h1 <;> omega
      · rcases List.mem_cons.1 he with rfl | he
        · split at h1 <;> omega
        · exact h2 e he hf
    · rintro ⟨h1, h2⟩
      refine ⟨?_, fun e he hf => h2 e (List.mem_cons_of_mem _ he) hf⟩
      split
      · rename_i hc
        exact h2 a (List.mem_cons_self ..) hc.2
      · exact h1
theorem nextEnd_ge (l : List Int) (m far : Int) : m ≤ nextEnd l m far := (nextEnd_le.1 (Int.le_refl _)).1
theorem nextEnd_mono {l : List Int} {m m' far far' : Int} (h1 : m ≤ m') (h2 : far ≤ far') : nextEnd l m far ≤ nextEnd l m' far' := by
  obtain ⟨h3, h4⟩ := (nextEnd_le (l := l) (m := m') (far := far') (X := nextEnd l m' far')).1 (Int.le_refl _)
  exact nextEnd_le.2 ⟨by omega, fun e he hf => h4 e he (by omega)⟩
/-- as the program finds it: of ascending ends the last one up to far -/
theorem nextEnd_last {l : List Int} (hs : l.Pairwise (· < ·)) {m far : Int} {k : Nat} (hk : k ≤ l.length) (h1 : ∀ i (h : i < l.length), i < k → l[i] ≤ far) (h2 : ∀ i (h : i < l.length), k ≤ i → far < l[i]) :
    nextEnd l m far = if h : 0 < k then (if m < l[k - 1]'(by omega) then l[k - 1]'(by omega) else m) else m := by
  have key : ∀ X : Int, nextEnd l m far ≤ X ↔ (if h : 0 < k then (if m < l[k - 1]'(by omega) then l[k - 1]'(by omega) else m) else m) ≤ X := by
    intro X
    rw [nextEnd_le]
    constructor
    · rintro ⟨h3, h4⟩
      split
      · rename_i h0
        split
        · exact h4 _ (List.getElem_mem _) (h1 _ _ (by omega))
        · exact h3
      · exact h3
    · intro h3
      have hm : m ≤ X := by
        split at h3
        · split at h3 <;> omega
        · exact h3
      refine ⟨hm, fun e he hf => ?_⟩
      obtain ⟨i, hi, rfl⟩ := List.getElem_of_mem he
      have hik : i < k := by
        rcases Nat.lt_or_ge i k with h | h
        · exact h
        · have := h2 i hi h; omega
      rw [dif_pos (by omega)] at h3
      have h5 : l[i] ≤ l[k - 1]'(by omega) := by
        rcases Nat.lt_or_ge i (k - 1) with h | h
        · exact Int.le_of_lt (List.pairwise_iff_getElem.1 hs i (k - 1) hi (by omega) h)
        · have : i = k - 1 := by omega
          subst this
          exact Int.le_refl _
      split at h3 <;> omega
  exact Int.le_antisymm ((key _).2 (Int.le_refl _)) ((key _).1 (Int.le_refl _))

theorem eagerS_snoc (ends l : List Int) (p days : Int) : eagerS ends (l ++ [p]) days = estep ends days (eagerS ends l days) p := by
  unfold eagerS; rw [List.foldl_append]; rfl
theorem eagerS_len (ends : List Int) (days : Int) (l : List Int) : (eagerS ends l days).1 = l.length := by
  suffices ∀ (l : List Int) (s : Nat × List (Int × Int × Int) × Int), (l.foldl (estep ends days) s).1 = s.1 + l.length from by simpa [eagerS] using this l (0, [], 0)
  intro l
  induction l with
  | nil => intro s; rfl
  | cons p l ih => intro s; rw [List.foldl_cons, ih, List.length_cons]; show s.1 + 1 + _ = _; omega
theorem reach_snoc (ends l : List Int) (p days : Int) : reachOf ends (l ++ [p]) days = nextEnd ends (reachOf ends l days) (reachOf ends l days + p * days) := by
  unfold reachOf; rw [eagerS_snoc]; rfl
/-- by the wallers from behind -/
theorem rev_ind {motive : List Int → Prop} (h0 : motive []) (h1 : ∀ l p, motive l → motive (l ++ [p])) : ∀ l, motive l := by
  intro l
  have : ∀ r : List Int, motive r.reverse := by
    intro r
    induction r with
    | nil => exact h0
    | cons a r ih => rw [List.reverse_cons]; exact h1 _ _ ih
  have := this l.reverse
  rwa [List.reverse_reverse] at this
theorem reach_le {ends : List Int} {X days : Int} (h0 : 0 ≤ X) (h : ∀ e ∈ ends, e ≤ X) : ∀ paces, reachOf ends paces days ≤ X := by
  refine rev_ind h0 fun l p ih => ?_
  rw [reach_snoc]
  exact nextEnd_le.2 ⟨ih, fun e he _ => h e he⟩
theorem reach_ge (ends paces : List Int) (days : Int) : 0 ≤ reachOf ends paces days := by
  revert paces
  refine rev_ind (Int.le_refl _) fun l p ih => ?_
  rw [reach_snoc]
  exact Int.le_trans ih (nextEnd_ge _ _ _)
theorem reach_mono {ends : List Int} {d d' : Int} (hd : d ≤ d') : ∀ {paces : List Int}, (∀ p ∈ paces, 0 ≤ p) → reachOf ends paces d ≤ reachOf ends paces d' := by
  intro paces
  refine rev_ind (motive := fun paces => (∀ p ∈ paces, 0 ≤ p) → reachOf ends paces d ≤ reachOf ends paces d') (fun _ => Int.le_refl _) (fun l p ih h => ?_) paces
  have h1 := ih fun q hq => h q (List.mem_append_left _ hq)
  have h2 := h p (List.mem_append_right _ (List.mem_singleton.2 rfl))
  rw [reach_snoc, reach_snoc]
  have h3 : p * d ≤ p * d' := Int.mul_le_mul_of_nonneg_left hd h2
  exact nextEnd_mono h1 (by omega)
theorem reach_take_le (ends l : List Int) (days : Int) : ∀ r : List Int, reachOf ends l days ≤ reachOf ends (l ++ r) days := by
  refine rev_ind (by rw [List.append_nil]; exact Int.le_refl _) fun r p ih => ?_
  rw [← List.append_assoc, reach_snoc]
  exact Int.le_trans ih (nextEnd_ge _ _ _)
/-- so many days as millimetres are enough -/
theorem reach_enough {ends paces : List Int} {L d : Int} (hL : L ∈ ends) (hall : ∀ e ∈ ends, e ≤ L) (h0 : 0 ≤ L) (hp : paces ≠ []) (h1 : ∀ p ∈ paces, 1 ≤ p) (hd : L ≤ d) : reachOf ends paces d = L := by
  refine Int.le_antisymm (reach_le h0 hall _) ?_
  obtain ⟨p, r, rfl⟩ := List.exists_cons_of_ne_nil hp
  have h2 := reach_take_le ends [p] d r
  have hp1 := h1 p (List.mem_cons_self ..)
  have h3 : reachOf ends [p] d = nextEnd ends 0 (0 + p * d) := reach_snoc ends [] p d
  have h4 : L ≤ nextEnd ends 0 (0 + p * d) := ((nextEnd_le (far := 0 + p * d)).1 (Int.le_refl _)).2 L hL (by
    have : 1 * d ≤ p * d := Int.mul_le_mul_of_nonneg_right hp1 (by omega)
    omega)
  rw [h3] at h2
  exact Int.le_trans h4 h2

end Go.Proofs.YtchignmnnbepnaaGreat

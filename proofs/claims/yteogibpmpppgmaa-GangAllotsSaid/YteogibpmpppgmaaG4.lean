/- the least number of days, and what a division proves, plain -/
import Derived.Test.YteogibpmpppgmaaG2
namespace Go.Proofs.Yteogibpmpppgmaa

section
variable {frames paces : List Int} {L : Int}
/-- the ends of a wall's frames -/
abbrev endsOf (frames : List Int) (L : Int) : List Int := frames ++ [L]
def RightF (frames : List Int) (L : Int) : Prop := 1 ≤ L ∧ L ≤ 100000 ∧ (0 :: (frames ++ [L])).Pairwise (· < ·)
def RightP (paces : List Int) : Prop := paces ≠ [] ∧ ∀ p ∈ paces, 1 ≤ p ∧ p ≤ 20000
/-- the least number of days -/
def daysOf (frames : List Int) (L : Int) (paces : List Int) : Nat := 1 + (List.range L.toNat).countP (fun n : Nat => !decide (reachOf (endsOf frames L) paces ((n : Int) + 1) = L))

theorem RightF.ends_le (h : RightF frames L) : ∀ e ∈ endsOf frames L, e ≤ L := fun e he => by
  rcases List.mem_append.1 he with h1 | h1
  · have := (List.pairwise_append.1 (List.pairwise_cons.1 h.2.2).2).2.2 e h1 L (List.mem_singleton.2 rfl)
    omega
  · rw [List.mem_singleton.1 h1]; exact Int.le_refl _
theorem RightF.frame (h : RightF frames L) : ∀ e ∈ frames, 0 < e ∧ e < L := fun e he =>
  ⟨(List.pairwise_cons.1 h.2.2).1 e (List.mem_append_left _ he), (List.pairwise_append.1 (List.pairwise_cons.1 h.2.2).2).2.2 e he L (List.mem_singleton.2 rfl)⟩
theorem RightF.asc (h : RightF frames L) : (endsOf frames L).Pairwise (· < ·) := (List.pairwise_cons.1 h.2.2).2
theorem RightF.reach_le (h : RightF frames L) (d : Int) : reachOf (endsOf frames L) paces d ≤ L := Go.Proofs.Yteogibpmpppgmaa.reach_le (by have := h.1; omega) h.ends_le _
theorem RightF.enough (h : RightF frames L) (hp : RightP paces) {d : Int} (hd : L ≤ d) : reachOf (endsOf frames L) paces d = L :=
  reach_enough (List.mem_append_right _ (List.mem_singleton.2 rfl)) h.ends_le (by have := h.1; omega) hp.1 (fun p hp' => (hp.2 p hp').1) hd
theorem RightP.nonneg (hp : RightP paces) : ∀ p ∈ paces, 0 ≤ p := fun p h => by have := (hp.2 p h).1; omega
theorem reach_up (h : RightF frames L) (hp : RightP paces) {d d' : Int} (hd : d ≤ d') (hr : reachOf (endsOf frames L) paces d = L) : reachOf (endsOf frames L) paces d' = L := by
  have := reach_mono (ends := endsOf frames L) hd hp.nonneg
  have := h.reach_le (paces := paces) d'
  omega
theorem countP_bound {p : Nat → Bool} (hm : ∀ a b, a ≤ b → p b = true → p a = true) : ∀ n, (∀ i, i < n → (p i = true ↔ i < (List.range n).countP p)) ∧ (List.range n).countP p ≤ n := by
  intro n
  induction n with
  | zero => exact ⟨fun i h => absurd h (Nat.not_lt_zero i), by simp⟩
  | succ n ih =>
    obtain ⟨h1, h2⟩ := ih
    rw [List.range_succ, List.countP_append]
    cases hp : p n with
    | true =>
      have hall : ∀ i, i < n → p i = true := fun i hi => hm i n (by omega) hp
      have hc : (List.range n).countP p = n := by
        have : (List.range n).countP p = (List.range n).length := List.countP_eq_length.2 fun i hi => hall i (List.mem_range.1 hi)
        simpa using this
      simp only [hc, List.countP_singleton, hp, if_true]
      refine ⟨fun i hi => ⟨fun _ => hi, fun _ => ?_⟩, Nat.le_refl _⟩
      rcases Nat.lt_or_ge i n with h | h
      · exact hall i h
      · rw [show i = n by omega]; exact hp
    | false =>
      simp only [List.countP_singleton, hp]
      simp only [Bool.false_eq_true, if_false, Nat.add_zero]
      refine ⟨fun i hi => ?_, by omega⟩
      rcases Nat.lt_or_ge i n with h | h
      · exact h1 i h
      · rw [show i = n by omega, hp]
        exact ⟨fun h => (by cases h), fun h => by omega⟩
theorem daysOf_spec (h : RightF frames L) (hp : RightP paces) : 1 ≤ daysOf frames L paces ∧ (daysOf frames L paces : Int) ≤ L ∧ reachOf (endsOf frames L) paces (daysOf frames L paces) = L ∧
    ∀ d : Int, d < daysOf frames L paces → reachOf (endsOf frames L) paces d ≠ L := by
  have hL := h.1
  obtain ⟨h1, h2⟩ := countP_bound (p := fun n : Nat => !decide (reachOf (endsOf frames L) paces ((n : Int) + 1) = L)) (fun a b hab hb => by
    simp only [Bool.not_eq_true', decide_eq_false_iff_not] at hb ⊢
    exact fun hr => hb (reach_up h hp (by omega) hr)) L.toNat
  unfold daysOf
  generalize hc : (List.range L.toNat).countP (fun n : Nat => !decide (reachOf (endsOf frames L) paces ((n : Int) + 1) = L)) = c at *
  have hlast : ¬ c = L.toNat := by
    intro e
    have := (h1 (L.toNat - 1) (by omega)).2 (by omega)
    simp only [Bool.not_eq_true', decide_eq_false_iff_not] at this
    exact this (h.enough hp (by omega))
  refine ⟨by omega, by omega, ?_, fun d hd hr => ?_⟩
  · have := mt (h1 c (by omega)).1 (by omega)
    simp only [Bool.not_eq_true', decide_eq_false_iff_not] at this
    have := Classical.not_not.1 this
    rw [show ((1 + c : Nat) : Int) = (c : Int) + 1 by omega]
    exact this
  · have hr1 := reach_up h hp (d' := (c : Int)) (by omega) hr
    rcases Nat.eq_zero_or_pos c with e | e
    · subst e
      -- no days, no way
      have : ∀ l : List Int, reachOf (endsOf frames L) l ((0 : Nat) : Int) = 0 := by
        refine rev_ind rfl fun l p ih => ?_
        rw [reach_snoc, ih]
        refine Int.le_antisymm (nextEnd_le.2 ⟨Int.le_refl _, fun e he hf => ?_⟩) (nextEnd_ge _ _ _)
        have h3 := (List.pairwise_cons.1 h.2.2).1 e he
        simp at hf
        omega
      rw [this] at hr1
      omega
    · have := (h1 (c - 1) (by omega)).2 (by omega)
      simp only [Bool.not_eq_true', decide_eq_false_iff_not] at this
      exact this (by rw [show (((c - 1 : Nat) : Int) + 1) = (c : Int) by omega]; exact hr1)
theorem daysOf_eq (h : RightF frames L) (hp : RightP paces) {d : Nat} (h1 : reachOf (endsOf frames L) paces d = L) (h2 : ∀ k : Int, 1 ≤ k → k < d → reachOf (endsOf frames L) paces k ≠ L) : d = daysOf frames L paces := by
  obtain ⟨h3, _, h4, h5⟩ := daysOf_spec h hp
  rcases Nat.lt_trichotomy d (daysOf frames L paces) with h6 | h6 | h6
  · exact absurd h1 (h5 d (by omega))
  · exact h6
  · exact absurd h4 (h2 _ (by omega) (by omega))

/-- a division, as the document checks it: (waller, from, to) -/
def divOk (frames : List Int) (L : Int) (paces : List Int) (days : Int) : Int → Int → List (Int × Int × Int) → Bool
  | at_, _, [] => decide (at_ = L)
  | at_, before, s :: r => decide (s.2.1 = at_) && decide (at_ < s.2.2) && (decide (s.2.2 = L) || frames.any fun f => decide (f = s.2.2)) && decide (before < s.1) && decide (s.1 < paces.length) && decide (s.2.2 - s.2.1 ≤ paces.getD s.1.toNat 0 * days) && divOk frames L paces days s.2.2 s.1 r
theorem divOk_cons (days at_ before : Int) (s : Int × Int × Int) (r : List (Int × Int × Int)) : divOk frames L paces days at_ before (s :: r) = true ↔
    s.2.1 = at_ ∧ at_ < s.2.2 ∧ s.2.2 ∈ endsOf frames L ∧ before < s.1 ∧ s.1 < paces.length ∧ s.2.2 - s.2.1 ≤ paces.getD s.1.toNat 0 * days ∧ divOk frames L paces days s.2.2 s.1 r = true := by
  have he : ((decide (s.2.2 = L) || frames.any fun f => decide (f = s.2.2)) = true) ↔ s.2.2 ∈ endsOf frames L := by
    rw [Bool.or_eq_true, decide_eq_true_eq, List.any_eq_true, List.mem_append, List.mem_singleton]
    constructor
    · rintro (h | ⟨f, hf, h⟩)
      · exact .inr h
      · rw [decide_eq_true_eq] at h; exact .inl (by rw [← h]; exact hf)
    · rintro (h | h)
      · exact .inr ⟨_, h, by simp⟩
      · exact .inl h
  rw [divOk]
  simp only [Bool.and_eq_true, decide_eq_true_eq, he]
  constructor
  · rintro ⟨⟨⟨⟨⟨⟨a, b⟩, c⟩, d⟩, e⟩, f⟩, g⟩; exact ⟨a, b, c, d, e, f, g⟩
  · rintro ⟨a, b, c, d, e, f, g⟩; exact ⟨⟨⟨⟨⟨⟨a, b⟩, c⟩, d⟩, e⟩, f⟩, g⟩
theorem getD_take_reach {ends : List Int} {days : Int} {k : Nat} (hk : k < paces.length) : reachOf ends (paces.take (k + 1)) days = nextEnd ends (reachOf ends (paces.take k) days) (reachOf ends (paces.take k) days + paces.getD k 0 * days) := by
  rw [take_snoc hk, reach_snoc, getD_at hk]
theorem take_mono_reach {ends : List Int} {days : Int} {k m : Nat} (h : k ≤ m) : reachOf ends (paces.take k) days ≤ reachOf ends (paces.take m) days := by
  have : paces.take m = paces.take k ++ (paces.take m).drop k := by
    have e := List.take_append_drop k (paces.take m)
    rw [List.take_take, Nat.min_eq_left h] at e
    exact e.symm
  rw [this]
  exact reach_take_le _ _ _ _
theorem div_reach (hR : RightF frames L) {days : Int} : ∀ (l : List (Int × Int × Int)) (at_ before : Int), -1 ≤ before → at_ ≤ reachOf (endsOf frames L) (paces.take (before + 1).toNat) days →
    divOk frames L paces days at_ before l = true → reachOf (endsOf frames L) paces days = L := by
  intro l
  induction l with
  | nil =>
    intro at_ before _ h1 h2
    unfold divOk at h2
    rw [decide_eq_true_eq] at h2
    have h3 := take_mono_reach (paces := paces) (ends := endsOf frames L) (days := days) (k := (before + 1).toNat) (m := paces.length + (before + 1).toNat) (by omega)
    have e : paces.take (paces.length + (before + 1).toNat) = paces := List.take_of_length_le (by omega)
    rw [e] at h3
    have := hR.reach_le (paces := paces) days
    omega
  | cons s r ih =>
    intro at_ before hb h1 h2
    rw [divOk_cons] at h2
    obtain ⟨e1, e2, e3, e4, e5, e6, e7⟩ := h2
    refine ih _ _ (by omega) ?_ e7
    rw [show (s.1 + 1).toNat = s.1.toNat + 1 by omega, getD_take_reach (by omega)]
    have h3 := take_mono_reach (paces := paces) (ends := endsOf frames L) (days := days) (k := (before + 1).toNat) (m := s.1.toNat) (by omega)
    exact ((nextEnd_le (far := reachOf (endsOf frames L) (paces.take s.1.toNat) days + paces.getD s.1.toNat 0 * days)).1 (Int.le_refl _)).2 _ e3 (by omega)
/-- more days than millimetres are enough -/
theorem div_days (hR : RightF frames L) (hp : RightP paces) {d d' : Int} (h2 : L ≤ d') : ∀ (l : List (Int × Int × Int)) (at_ before : Int), 0 ≤ at_ → -1 ≤ before → divOk frames L paces d at_ before l = true → divOk frames L paces d' at_ before l = true := by
  intro l
  induction l with
  | nil => intro _ _ _ _ h; exact h
  | cons s r ih =>
    intro at_ before h0 hb h
    rw [divOk_cons] at h ⊢
    obtain ⟨e1, e2, e3, e4, e5, e6, e7⟩ := h
    refine ⟨e1, e2, e3, e4, e5, ?_, ih _ _ (by omega) (by omega) e7⟩
    have hpc := hp.2 (paces.getD s.1.toNat 0) (by rw [getD_at (by omega)]; exact List.getElem_mem _)
    have h3 := hR.ends_le _ e3
    have h4 : 1 * d' ≤ paces.getD s.1.toNat 0 * d' := Int.mul_le_mul_of_nonneg_right hpc.1 (by have := hR.1; omega)
    omega
/-- what proves a division: the document's way, the program's way -/
def provesR (frames : List Int) (L : Int) (paces : List Int) (days : Int) (l : List (Int × Int × Int)) : Bool :=
  decide (1 ≤ days) && divOk frames L paces (min days 400000) 0 (-1) l && decide (reachOf (endsOf frames L) paces (min days 400000 - 1) < L)
def provesG (frames : List Int) (L : Int) (paces : List Int) (days : Int) (l : List (Int × Int × Int)) : Bool :=
  decide (1 ≤ days) && divOk frames L paces (min days (2 * L)) 0 (-1) l && decide (reachOf (endsOf frames L) paces (min days (2 * L) - 1) < L)
theorem proves_eq (hR : RightF frames L) (hp : RightP paces) (days : Int) (l : List (Int × Int × Int)) : provesG frames L paces days l = provesR frames L paces days l := by
  have h1 := hR.1
  have h2 := hR.2.1
  by_cases hd : days ≤ 2 * L
  · unfold provesG provesR
    rw [Int.min_eq_left hd, Int.min_eq_left (by omega)]
  · have hmL : L ≤ min days (2 * L) := by omega
    have hm4 : L ≤ min days 400000 := by omega
    unfold provesG provesR
    have e1 : reachOf (endsOf frames L) paces (min days (2 * L) - 1) = L := hR.enough hp (by omega)
    have e2 : reachOf (endsOf frames L) paces (min days 400000 - 1) = L := hR.enough hp (by omega)
    rw [e1, e2]
    simp
/-- a division that the program finds is one -/
theorem stints_snoc (ends l : List Int) (p days : Int) : stintsOf ends (l ++ [p]) days = if reachOf ends l days < nextEnd ends (reachOf ends l days) (reachOf ends l days + p * days) then stintsOf ends l days ++ [((l.length : Int), reachOf ends l days, nextEnd ends (reachOf ends l days) (reachOf ends l days + p * days))] else stintsOf ends l days := by
  unfold stintsOf reachOf
  rw [eagerS_snoc]
  unfold estep
  simp only [eagerS_len]
theorem divOk_less {days : Int} {l : List (Int × Int × Int)} {a b b' : Int} (hb : b' ≤ b) (h : divOk frames L paces days a b l = true) : divOk frames L paces days a b' l = true := by
  cases l with
  | nil => exact h
  | cons s r =>
    rw [divOk_cons] at h ⊢
    obtain ⟨e1, e2, e3, e4, e5⟩ := h
    exact ⟨e1, e2, e3, by omega, e5⟩
theorem stints_div {days : Int} : ∀ l : List Int, (∃ r, paces = l ++ r) → ∀ r, divOk frames L paces days (reachOf (endsOf frames L) l days) (l.length - 1) r = true → divOk frames L paces days 0 (-1) (stintsOf (endsOf frames L) l days ++ r) = true := by
  refine rev_ind (fun _ r h => h) fun l p ih => ?_
  rintro ⟨q, hq⟩ r h
  have hq' : paces = l ++ (p :: q) := by rw [hq, List.append_assoc]; rfl
  have hp : paces.getD l.length 0 = p := by rw [hq', List.getD_eq_getElem?_getD, List.getElem?_append_right (Nat.le_refl _)]; simp
  have hlen : l.length < paces.length := by rw [hq']; simp
  rw [List.length_append, List.length_singleton] at h
  rw [stints_snoc]
  rw [reach_snoc] at h
  split
  · rename_i hlt
    rw [List.append_assoc]
    refine ih ⟨_, hq'⟩ _ ((divOk_cons _ _ _ _ _).2 ⟨rfl, hlt, ?_, by show ((l.length : Int) - 1) < (l.length : Int); omega, by show (l.length : Int) < paces.length; omega, ?_, divOk_less (by show (l.length : Int) ≤ _; omega) h⟩)
    · rcases nextEnd_mem (l := endsOf frames L) (m := reachOf (endsOf frames L) l days) (far := reachOf (endsOf frames L) l days + p * days) with h1 | h1
      · omega
      · exact h1.1
    · show _ - _ ≤ paces.getD (l.length : Int).toNat 0 * days
      rw [Int.toNat_natCast, hp]
      show nextEnd _ _ _ - reachOf _ _ _ ≤ _
      rcases nextEnd_mem (l := endsOf frames L) (m := reachOf (endsOf frames L) l days) (far := reachOf (endsOf frames L) l days + p * days) with h1 | h1
      · omega
      · have := h1.2.2; omega
  · rename_i hlt
    have hge := nextEnd_ge (endsOf frames L) (reachOf (endsOf frames L) l days) (reachOf (endsOf frames L) l days + p * days)
    refine ih ⟨_, hq'⟩ r (divOk_less (b := ((l.length + 1 : Nat) : Int) - 1) (by omega) ?_)
    · have e : nextEnd (endsOf frames L) (reachOf (endsOf frames L) l days) (reachOf (endsOf frames L) l days + p * days) = reachOf (endsOf frames L) l days := by omega
      rw [e] at h; exact h
theorem stints_nonempty {days : Int} (h : 1 ≤ L) (hr : reachOf (endsOf frames L) paces days = L) : stintsOf (endsOf frames L) paces days ≠ [] := by
  suffices ∀ l : List Int, stintsOf (endsOf frames L) l days = [] → reachOf (endsOf frames L) l days = 0 from fun e => by
    have := this paces e
    omega
  refine rev_ind (fun _ => rfl) fun l p ih he => ?_
  rw [stints_snoc] at he
  split at he
  · simp at he
  · rename_i hlt
    have hge := nextEnd_ge (endsOf frames L) (reachOf (endsOf frames L) l days) (reachOf (endsOf frames L) l days + p * days)
    rw [reach_snoc]
    have := ih he
    omega
theorem days_proved (hR : RightF frames L) (hp : RightP paces) : provesR frames L paces (daysOf frames L paces) (stintsOf (endsOf frames L) paces (daysOf frames L paces)) = true := by
  obtain ⟨h1, h2, h3, h4⟩ := daysOf_spec hR hp
  have hL := hR.2.1
  unfold provesR
  rw [Int.min_eq_left (by omega), Bool.and_eq_true, Bool.and_eq_true, decide_eq_true_eq, decide_eq_true_eq]
  refine ⟨⟨by omega, ?_⟩, ?_⟩
  · have := stints_div (frames := frames) (L := L) (paces := paces) (days := (daysOf frames L paces : Int)) paces ⟨[], by simp⟩ [] (by unfold divOk; rw [decide_eq_true_eq]; exact h3)
    rwa [List.append_nil] at this
  · have := h4 ((daysOf frames L paces : Int) - 1) (by omega)
    have := hR.reach_le (paces := paces) ((daysOf frames L paces : Int) - 1)
    omega
theorem div_not_less (hR : RightF frames L) (hp : RightP paces) {d : Int} (hd : d < daysOf frames L paces) (l : List (Int × Int × Int)) : divOk frames L paces d 0 (-1) l = false := by
  cases h : divOk frames L paces d 0 (-1) l with
  | false => rfl
  | true =>
    exact absurd (div_reach hR l 0 (-1) (Int.le_refl _) (reach_ge _ _ _) h) ((daysOf_spec hR hp).2.2.2 d hd)
theorem reach_faster {ends l' : List Int} {d : Int} (hd : 0 ≤ d) (hl : paces.length = l'.length) (h : ∀ i, i < paces.length → paces.getD i 0 ≤ l'.getD i 0) : ∀ m, m ≤ paces.length → reachOf ends (paces.take m) d ≤ reachOf ends (l'.take m) d := by
  intro m
  induction m with
  | zero => intro _; simp [reach_nil]
  | succ m ih =>
    intro hm
    have h1 := ih (by omega)
    rw [getD_take_reach (by omega), getD_take_reach (by omega)]
    refine nextEnd_mono h1 ?_
    have h2 := h m (by omega)
    have h3 : paces.getD m 0 * d ≤ l'.getD m 0 * d := Int.mul_le_mul_of_nonneg_right h2 hd
    omega
theorem days_faster {l' : List Int} (hR : RightF frames L) (hp : RightP paces) (hp' : RightP l') (hl : paces.length = l'.length) (h : ∀ i, i < paces.length → paces.getD i 0 ≤ l'.getD i 0) : daysOf frames L l' ≤ daysOf frames L paces := by
  obtain ⟨h1, h2, h3, h4⟩ := daysOf_spec hR hp
  rcases Nat.lt_or_ge (daysOf frames L paces) (daysOf frames L l') with h5 | h5
  · exfalso
    refine (daysOf_spec hR hp').2.2.2 (daysOf frames L paces) (by omega) ?_
    have h6 := reach_faster (ends := endsOf frames L) (d := (daysOf frames L paces : Int)) (by omega) hl h paces.length (Nat.le_refl _)
    rw [List.take_length, hl, List.take_length, h3] at h6
    have := hR.reach_le (paces := l') (daysOf frames L paces)
    omega
  · exact h5
theorem days_more {r : List Int} (hR : RightF frames L) (hp : RightP paces) (hp' : RightP (paces ++ r)) : daysOf frames L (paces ++ r) ≤ daysOf frames L paces := by
  obtain ⟨h1, h2, h3, h4⟩ := daysOf_spec hR hp
  rcases Nat.lt_or_ge (daysOf frames L paces) (daysOf frames L (paces ++ r)) with h5 | h5
  · exfalso
    refine (daysOf_spec hR hp').2.2.2 (daysOf frames L paces) (by omega) ?_
    have h6 := reach_take_le (endsOf frames L) paces (daysOf frames L paces : Int) r
    rw [h3] at h6
    have := hR.reach_le (paces := paces ++ r) (daysOf frames L paces)
    omega
  · exact h5
end

end Go.Proofs.Yteogibpmpppgmaa

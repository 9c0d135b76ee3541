/- symmetric merging (plain): rotations by swapped ranges; where a binary search cuts, the halves are apart -/
import Derived.Test.YteogibpmpppgmaaG5
namespace Go.Proofs.Yteogibpmpppgmaa

/-- two ranges that do not meet are exchanged -/
def swpF (f : Nat → Nat) (s t n : Nat) : Nat → Nat := fun x => if s ≤ x ∧ x < s + n then f (t + (x - s)) else if t ≤ x ∧ x < t + n then f (s + (x - t)) else f x
/-- the blocks from a to m and from m to b change places -/
def rotF (f : Nat → Nat) (a m b : Nat) : Nat → Nat := fun x => if x < a then f x else if x < a + (b - m) then f (m + (x - a)) else if x < b then f (a + (x - (a + (b - m)))) else f x
theorem rot_cases (f : Nat → Nat) {s m e : Nat} (i : Nat) :
    (i < s ∧ rotF f s m e i = f i) ∨ (s ≤ i ∧ i < s + (e - m) ∧ rotF f s m e i = f (m + (i - s))) ∨ (s + (e - m) ≤ i ∧ i < e ∧ rotF f s m e i = f (s + (i - (s + (e - m))))) ∨ (e ≤ i ∧ rotF f s m e i = f i) := by
  unfold rotF
  by_cases c1 : i < s
  · exact .inl ⟨c1, by rw [if_pos c1]⟩
  · by_cases c2 : i < s + (e - m)
    · exact .inr (.inl ⟨by omega, c2, by rw [if_neg c1, if_pos c2]⟩)
    · by_cases c3 : i < e
      · exact .inr (.inr (.inl ⟨by omega, c3, by rw [if_neg c1, if_neg c2, if_pos c3]⟩))
      · exact .inr (.inr (.inr ⟨by omega, by rw [if_neg c1, if_neg c2, if_neg c3]⟩))
theorem swp_cases (f : Nat → Nat) {s t n : Nat} (i : Nat) :
    (s ≤ i ∧ i < s + n ∧ swpF f s t n i = f (t + (i - s))) ∨ (t ≤ i ∧ i < t + n ∧ swpF f s t n i = f (s + (i - t))) ∨ (¬ (s ≤ i ∧ i < s + n) ∧ ¬ (t ≤ i ∧ i < t + n) ∧ swpF f s t n i = f i) := by
  unfold swpF
  by_cases c1 : s ≤ i ∧ i < s + n
  · exact .inl ⟨c1.1, c1.2, by rw [if_pos c1]⟩
  · by_cases c2 : t ≤ i ∧ i < t + n
    · exact .inr (.inl ⟨c2.1, c2.2, by rw [if_neg c1, if_pos c2]⟩)
    · exact .inr (.inr ⟨c1, c2, by rw [if_neg c1, if_neg c2]⟩)
theorem rot_gt (f : Nat → Nat) {i j m : Nat} (hi : i ≤ m) (h : j < i) : rotF (swpF f (m - i) m j) (m - (i - j)) m (m + j) = rotF f (m - i) m (m + j) := by
  funext x
  unfold rotF swpF
  repeat' split
  all_goals first
    | rfl
    | (exfalso; omega)
    | (congr 1; omega)
theorem rot_lt (f : Nat → Nat) {i j m : Nat} (hi : i ≤ m) (h : i < j) : rotF (swpF f (m - i) (m + j - i) i) (m - i) m (m + (j - i)) = rotF f (m - i) m (m + j) := by
  funext x
  unfold rotF swpF
  repeat' split
  all_goals first
    | rfl
    | (exfalso; omega)
    | (congr 1; omega)
theorem rot_eq (f : Nat → Nat) {i m : Nat} (hi : i ≤ m) : swpF f (m - i) m i = rotF f (m - i) m (m + i) := by
  funext x
  unfold rotF swpF
  repeat' split
  all_goals first
    | rfl
    | (exfalso; omega)
    | (congr 1; omega)
theorem rot_none1 (f : Nat → Nat) (m b : Nat) : rotF f m m b = f := by
  funext x
  unfold rotF
  repeat' split
  all_goals first
    | rfl
    | (exfalso; omega)
    | (congr 1; omega)
theorem rot_none2 (f : Nat → Nat) (a m : Nat) : rotF f a m m = f := by
  funext x
  unfold rotF
  repeat' split
  all_goals first
    | rfl
    | (exfalso; omega)
    | (congr 1; omega)
def SrtOn (R : Nat → Nat → Prop) (f : Nat → Nat) (a b : Nat) : Prop := ∀ i j, a ≤ i → i < j → j < b → R (f i) (f j)
def HalfOn (R : Nat → Nat → Prop) (f : Nat → Nat) (a m b : Nat) : Prop := ∀ i j, a ≤ i → i < m → m ≤ j → j < b → R (f i) (f j)
/-- how the keys of left ones and right ones stand to the order -/
def CrossOn (R : Nat → Nat → Prop) (key : Nat → Int) (f : Nat → Nat) (a m b : Nat) : Prop := ∀ i j, a ≤ i → i < m → m ≤ j → j < b → (key (f j) < key (f i) → R (f j) (f i)) ∧ (¬ key (f j) < key (f i) → R (f i) (f j))
/-- outside of the block nothing has turned; inside, what stands there stood there -/
def MoveOn (f g : Nat → Nat) (a b : Nat) : Prop := (∀ i, i < a ∨ b ≤ i → g i = f i) ∧ ∀ i, a ≤ i → i < b → ∃ j, a ≤ j ∧ j < b ∧ g i = f j
theorem MoveOn.refl (f : Nat → Nat) (a b : Nat) : MoveOn f f a b := ⟨fun _ _ => rfl, fun i h1 h2 => ⟨i, h1, h2, rfl⟩⟩
theorem MoveOn.trans {f g h : Nat → Nat} {a b : Nat} (h1 : MoveOn f g a b) (h2 : MoveOn g h a b) : MoveOn f h a b :=
  ⟨fun i hi => (h2.1 i hi).trans (h1.1 i hi), fun i hi1 hi2 => by
    obtain ⟨j, j1, j2, e⟩ := h2.2 i hi1 hi2
    obtain ⟨k, k1, k2, e'⟩ := h1.2 j j1 j2
    exact ⟨k, k1, k2, e.trans e'⟩⟩
theorem MoveOn.wide {f g : Nat → Nat} {a b a' b' : Nat} (h : MoveOn f g a b) (ha : a' ≤ a) (hb : b ≤ b') : MoveOn f g a' b' :=
  ⟨fun i hi => h.1 i (by omega), fun i h1 h2 => by
    by_cases hc : a ≤ i ∧ i < b
    · obtain ⟨j, j1, j2, e⟩ := h.2 i hc.1 hc.2
      exact ⟨j, by omega, by omega, e⟩
    · exact ⟨i, h1, h2, h.1 i (by omega)⟩⟩
theorem MoveOn.rot (f : Nat → Nat) {a m b : Nat} (h1 : a ≤ m) (h2 : m ≤ b) : MoveOn f (rotF f a m b) a b := by
  constructor
  · intro i hi
    rcases rot_cases f (s := a) (m := m) (e := b) i with ⟨c1, c2⟩ | ⟨c1, c2, c3⟩ | ⟨c1, c2, c3⟩ | ⟨c1, c2⟩
    · exact c2
    · omega
    · omega
    · exact c2
  · intro i hi1 hi2
    rcases rot_cases f (s := a) (m := m) (e := b) i with ⟨c1, c2⟩ | ⟨c1, c2, c3⟩ | ⟨c1, c2, c3⟩ | ⟨c1, c2⟩
    · omega
    · exact ⟨_, by omega, by omega, c3⟩
    · exact ⟨_, by omega, by omega, c3⟩
    · omega
section
variable {R : Nat → Nat → Prop} {key : Nat → Int} {f g : Nat → Nat} {a m b s e mid : Nat}
/-- the cut -/
structure Cut (R : Nat → Nat → Prop) (f : Nat → Nat) (a s m e b : Nat) : Prop where
  as : a ≤ s
  sm : s ≤ m
  me : m ≤ e
  eb : e ≤ b
  low : ∀ i j, a ≤ i → i < s → e ≤ j → j < b → R (f i) (f j)
  high : ∀ i j, s ≤ i → i < m → m ≤ j → j < e → R (f j) (f i)
/-- the four parts behind the rotation -/
theorem cut_parts (h : Cut R f a s m e b) (h1 : SrtOn R f a m) (h2 : SrtOn R f m b) :
    SrtOn R (rotF f s m e) a s ∧ SrtOn R (rotF f s m e) s (s + (e - m)) ∧ SrtOn R (rotF f s m e) (s + (e - m)) e ∧ SrtOn R (rotF f s m e) e b ∧ HalfOn R (rotF f s m e) a (s + (e - m)) b := by
  obtain ⟨as, sm, me, eb, low, high⟩ := h
  refine ⟨fun i j hi hij hj => ?_, fun i j hi hij hj => ?_, fun i j hi hij hj => ?_, fun i j hi hij hj => ?_, fun i j hi him hmj hj => ?_⟩
  all_goals
    rcases rot_cases f (s := s) (m := m) (e := e) i with ⟨b1, b2⟩ | ⟨b1, b2, b3⟩ | ⟨b1, b2, b3⟩ | ⟨b1, b2⟩ <;>
    rcases rot_cases f (s := s) (m := m) (e := e) j with ⟨c1, c2⟩ | ⟨c1, c2, c3⟩ | ⟨c1, c2, c3⟩ | ⟨c1, c2⟩
  all_goals first
    | (exfalso; omega)
    | skip
  all_goals
    first | rw [b3] | rw [b2]
    first | rw [c3] | rw [c2]
    first
      | exact h1 _ _ (by omega) (by omega) (by omega)
      | exact h2 _ _ (by omega) (by omega) (by omega)
      | exact low _ _ (by omega) (by omega) (by omega) (by omega)
      | exact high _ _ (by omega) (by omega) (by omega) (by omega)
theorem cut_cross (h : Cut R f a s m e b) (hC : CrossOn R key f a m b) : CrossOn R key (rotF f s m e) a s (s + (e - m)) ∧ CrossOn R key (rotF f s m e) (s + (e - m)) e b := by
  obtain ⟨as, sm, me, eb, low, high⟩ := h
  refine ⟨fun i j hi him hmj hj => ?_, fun i j hi him hmj hj => ?_⟩
  all_goals
    rcases rot_cases f (s := s) (m := m) (e := e) i with ⟨b1, b2⟩ | ⟨b1, b2, b3⟩ | ⟨b1, b2, b3⟩ | ⟨b1, b2⟩ <;>
    rcases rot_cases f (s := s) (m := m) (e := e) j with ⟨c1, c2⟩ | ⟨c1, c2, c3⟩ | ⟨c1, c2, c3⟩ | ⟨c1, c2⟩
  all_goals first
    | (exfalso; omega)
    | skip
  all_goals
    first | rw [b3] | rw [b2]
    first | rw [c3] | rw [c2]
    exact hC _ _ (by omega) (by omega) (by omega) (by omega)
/-- the cut that the binary search finds -/
theorem sym_cut (ht : ∀ x y z, R x y → R y z → R x z) (hC : CrossOn R key f a m b) (h1 : SrtOn R f a m) (h2 : SrtOn R f m b) (_ham : a < m) (hmb : m < b) (hmid : mid = (a + b) / 2) {lo r : Nat} (hlo : lo = if mid < m then mid + m - b else a) (hr : r = if mid < m then mid else m)
    (hs1 : lo ≤ s) (hs2 : s ≤ r) (p1 : s = lo ∨ ¬ key (f (mid + m - 1 - (s - 1))) < key (f (s - 1))) (p2 : s = r ∨ key (f (mid + m - 1 - s)) < key (f s)) :
    Cut R f a s m (mid + m - s) b ∧ s ≤ mid ∧ s + (mid + m - s - m) = mid := by
  have hsm : s ≤ m := by split at hr <;> omega
  have hsmid : s ≤ mid := by split at hr <;> omega
  have has : a ≤ s := by split at hlo <;> omega
  have hme : m ≤ mid + m - s := by omega
  have heb : mid + m - s ≤ b := by split at hlo <;> omega
  refine ⟨⟨has, hsm, hme, heb, fun i j hi his hj hjb => ?_, fun i j hi him hj hje => ?_⟩, hsmid, by omega⟩
  · -- low
    have hlt : lo < s := by split at hlo <;> omega
    have q := p1.resolve_left (by omega)
    have e1 : mid + m - 1 - (s - 1) = mid + m - s := by omega
    rw [e1] at q
    have q2 := (hC (s - 1) (mid + m - s) (by omega) (by omega) hme (by omega)).2 q
    have x1 : i = s - 1 ∨ R (f i) (f (s - 1)) := by
      rcases Nat.lt_or_ge i (s - 1) with h | h
      · exact .inr (h1 _ _ hi h (by omega))
      · exact .inl (by omega)
    have x2 : j = mid + m - s ∨ R (f (mid + m - s)) (f j) := by
      rcases Nat.lt_or_ge (mid + m - s) j with h | h
      · exact .inr (h2 _ _ hme h hjb)
      · exact .inl (by omega)
    have y1 : R (f i) (f (mid + m - s)) := by
      rcases x1 with rfl | x1
      · exact q2
      · exact ht _ _ _ x1 q2
    rcases x2 with rfl | x2
    · exact y1
    · exact ht _ _ _ y1 x2
  · -- high
    have hlt : s < r := by split at hr <;> omega
    have q := p2.resolve_left (by omega)
    have q2 := (hC s (mid + m - 1 - s) has (by omega) (by omega) (by omega)).1 q
    have x1 : j = mid + m - 1 - s ∨ R (f j) (f (mid + m - 1 - s)) := by
      rcases Nat.lt_or_ge j (mid + m - 1 - s) with h | h
      · exact .inr (h2 _ _ hj h (by omega))
      · exact .inl (by omega)
    have x2 : i = s ∨ R (f s) (f i) := by
      rcases Nat.lt_or_ge s i with h | h
      · exact .inr (h1 _ _ has h him)
      · exact .inl (by omega)
    have y1 : R (f j) (f s) := by
      rcases x1 with rfl | x1
      · exact q2
      · exact ht _ _ _ x1 q2
    rcases x2 with rfl | x2
    · exact y1
    · exact ht _ _ _ y1 x2
/-- one on the left -/
theorem one_left (ht : ∀ x y z, R x y → R y z → R x z) (hC : CrossOn R key f a m b) (h2 : SrtOn R f m b) (hm : m = a + 1) {i : Nat} (hi1 : m ≤ i) (hi2 : i ≤ b) (p1 : i = m ∨ key (f (i - 1)) < key (f a)) (p2 : i = b ∨ ¬ key (f i) < key (f a)) :
    SrtOn R (rotF f a m i) a b := by
  subst hm
  have hlow : ∀ j, a + 1 ≤ j → j < i → R (f j) (f a) := fun j hj hji => by
    have q := p1.resolve_left (by omega)
    have q2 := (hC a (i - 1) (Nat.le_refl _) (by omega) (by omega) (by omega)).1 q
    rcases Nat.lt_or_ge j (i - 1) with h | h
    · exact ht _ _ _ (h2 _ _ hj h (by omega)) q2
    · rw [show j = i - 1 by omega]; exact q2
  have hhigh : ∀ j, i ≤ j → j < b → R (f a) (f j) := fun j hj hjb => by
    have q := p2.resolve_left (by omega)
    have q2 := (hC a i (Nat.le_refl _) (by omega) hi1 (by omega)).2 q
    rcases Nat.lt_or_ge i j with h | h
    · exact ht _ _ _ q2 (h2 _ _ hi1 h hjb)
    · rw [show j = i by omega]; exact q2
  intro x y hx hxy hy
  rcases rot_cases f (s := a) (m := a + 1) (e := i) x with ⟨b1, b2⟩ | ⟨b1, b2, b3⟩ | ⟨b1, b2, b3⟩ | ⟨b1, b2⟩ <;>
  rcases rot_cases f (s := a) (m := a + 1) (e := i) y with ⟨c1, c2⟩ | ⟨c1, c2, c3⟩ | ⟨c1, c2, c3⟩ | ⟨c1, c2⟩
  all_goals first
    | (exfalso; omega)
    | skip
  all_goals
    first | rw [b3] | rw [b2]
    first | rw [c3] | rw [c2]
    first
      | exact h2 _ _ (by omega) (by omega) (by omega)
      | (rw [show a + (y - (a + (i - (a + 1)))) = a by omega]; exact hlow _ (by omega) (by omega))
      | (rw [show a + (x - (a + (i - (a + 1)))) = a by omega]; exact hhigh _ (by omega) (by omega))
/-- one on the right -/
theorem one_right (ht : ∀ x y z, R x y → R y z → R x z) (hC : CrossOn R key f a m b) (h1 : SrtOn R f a m) (hb : b = m + 1) {i : Nat} (hi1 : a ≤ i) (hi2 : i ≤ m) (p1 : i = a ∨ ¬ key (f m) < key (f (i - 1))) (p2 : i = m ∨ key (f m) < key (f i)) :
    SrtOn R (rotF f i m b) a b := by
  subst hb
  have hlow : ∀ j, a ≤ j → j < i → R (f j) (f m) := fun j hj hji => by
    have q := p1.resolve_left (by omega)
    have q2 := (hC (i - 1) m (by omega) (by omega) (Nat.le_refl _) (by omega)).2 q
    rcases Nat.lt_or_ge j (i - 1) with h | h
    · exact ht _ _ _ (h1 _ _ hj h (by omega)) q2
    · rw [show j = i - 1 by omega]; exact q2
  have hhigh : ∀ j, i ≤ j → j < m → R (f m) (f j) := fun j hj hjb => by
    have q := p2.resolve_left (by omega)
    have q2 := (hC i m hi1 (by omega) (Nat.le_refl _) (by omega)).1 q
    rcases Nat.lt_or_ge i j with h | h
    · exact ht _ _ _ q2 (h1 _ _ hi1 h hjb)
    · rw [show j = i by omega]; exact q2
  intro x y hx hxy hy
  rcases rot_cases f (s := i) (m := m) (e := m + 1) x with ⟨b1, b2⟩ | ⟨b1, b2, b3⟩ | ⟨b1, b2, b3⟩ | ⟨b1, b2⟩ <;>
  rcases rot_cases f (s := i) (m := m) (e := m + 1) y with ⟨c1, c2⟩ | ⟨c1, c2, c3⟩ | ⟨c1, c2, c3⟩ | ⟨c1, c2⟩
  all_goals first
    | (exfalso; omega)
    | skip
  all_goals
    first | rw [b3] | rw [b2]
    first | rw [c3] | rw [c2]
    first
      | exact h1 _ _ (by omega) (by omega) (by omega)
      | (rw [show m + (y - i) = m by omega]; exact hlow _ (by omega) (by omega))
      | (rw [show m + (x - i) = m by omega]; exact hhigh _ (by omega) (by omega))
theorem srt_join (h1 : SrtOn R f a mid) (h2 : SrtOn R f mid b) (h : HalfOn R f a mid b) : SrtOn R f a b := fun i j hi hij hj => by
  by_cases c1 : j < mid
  · exact h1 i j hi hij c1
  · by_cases c2 : mid ≤ i
    · exact h2 i j c2 hij hj
    · exact h i j hi (by omega) (by omega) hj
/-- where a half is not merged, it is sorted -/
theorem srt_skip (h1 : SrtOn R f a s) (h2 : SrtOn R f s b) (h : ¬ (a < s ∧ s < b)) (ha : a ≤ s) (hb : s ≤ b) : SrtOn R f a b := fun i j hi hij hj => by
  by_cases c1 : a < s
  · exact h1 i j hi hij (by omega)
  · exact h2 i j (by omega) hij hj
theorem half_move {g g2 : Nat → Nat} (h : HalfOn R f a m b) (h1 : MoveOn f g a m) (h2 : MoveOn g g2 m b) : HalfOn R g2 a m b := fun i j hi him hmj hj => by
  rw [h2.1 i (.inl him)]
  obtain ⟨i', i1, i2, e1⟩ := h1.2 i hi him
  obtain ⟨j', j1, j2, e2⟩ := h2.2 j hmj hj
  rw [e1, e2, h1.1 j' (.inr j1)]
  exact h i' j' i1 i2 j1 j2
theorem srt_same {g : Nat → Nat} (h : SrtOn R f a b) (he : ∀ i, a ≤ i → i < b → g i = f i) : SrtOn R g a b := fun i j hi hij hj => by
  rw [he i hi (by omega), he j (by omega) hj]
  exact h i j hi hij hj
end
end Go.Proofs.Yteogibpmpppgmaa

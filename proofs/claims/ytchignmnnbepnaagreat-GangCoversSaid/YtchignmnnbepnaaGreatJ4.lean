/- the reference's marks against the eager division, plain -/
/- shares, plain: penny by penny is the same as by the order of what is left over -/
import Derived.Test.YtchignmnnbepnaaGreatJ3
namespace Go.Proofs.YtchignmnnbepnaaGreat

/-- one waller more: which ends can be reached -/
def markRow (E : List Int) (r : List Bool) (far : Int) : List Bool := (List.range E.length).map fun b => r.getD b false || (List.range b).any fun a => r.getD a false && decide (E.getD b 0 - E.getD a 0 ≤ far)
def marks0 (E : List Int) : List Bool := (List.range E.length).map fun b => decide (b = 0)
def marks (E : List Int) (paces : List Int) (days : Int) : List Bool := paces.foldl (fun r p => markRow E r (p * days)) (marks0 E)
theorem getD_at {l : List Int} {i : Nat} (h : i < l.length) : l.getD i 0 = l[i] := by
  rw [List.getD_eq_getElem?_getD, List.getElem?_eq_getElem h]; rfl

end Go.Proofs.YtchignmnnbepnaaGreat
namespace Go.Proofs.YtchignmnnbepnaaGreat

/-- how the reference finds the greatest rest -/
def bestAt (r : List Int) : Nat := (List.range r.length).foldl (fun b i => if r.getD b 0 < r.getD i 0 then i else b) 0
def pennyStep (s : List Int × List Int) : List Int × List Int := (s.1.set (bestAt s.2) (s.1.getD (bestAt s.2) 0 + 1), s.2.set (bestAt s.2) (-1))
def pennies : Nat → List Int × List Int → List Int × List Int
  | 0, s => s
  | m + 1, s => pennyStep (pennies m s)
def bump (o : List Int) (is : List Nat) : List Int := is.foldl (fun o i => o.set i (o.getD i 0 + 1)) o
def gone (r : List Int) (is : List Nat) : List Int := is.foldl (fun r i => r.set i (-1)) r

theorem bump_snoc (o : List Int) (is : List Nat) (i : Nat) : bump o (is ++ [i]) = (bump o is).set i ((bump o is).getD i 0 + 1) := by unfold bump; rw [List.foldl_append]; rfl
theorem gone_snoc (r : List Int) (is : List Nat) (i : Nat) : gone r (is ++ [i]) = (gone r is).set i (-1) := by unfold gone; rw [List.foldl_append]; rfl
theorem bump_len : ∀ (is : List Nat) (o : List Int), (bump o is).length = o.length
  | [], _ => rfl
  | i :: is, o => by show (bump (o.set i _) is).length = _; rw [bump_len is, List.length_set]
theorem gone_len : ∀ (is : List Nat) (o : List Int), (gone o is).length = o.length
  | [], _ => rfl
  | i :: is, o => by show (gone (o.set i _) is).length = _; rw [gone_len is, List.length_set]
theorem getD_set {l : List Int} {i j : Nat} {x : Int} (hi : i < l.length) : (l.set i x).getD j 0 = if i = j then x else l.getD j 0 := by
  rw [List.getD_eq_getElem?_getD, List.getElem?_set]
  by_cases e : i = j
  · rw [if_pos e, if_pos e, if_pos hi]; rfl
  · rw [if_neg e, if_neg e, List.getD_eq_getElem?_getD]
theorem gone_at : ∀ (is : List Nat) (r : List Int) (j : Nat), (∀ i ∈ is, i < r.length) → (gone r is).getD j 0 = if j ∈ is then -1 else r.getD j 0
  | [], r, j, _ => by simp [gone]
  | i :: is, r, j, h => by
    show (gone (r.set i (-1)) is).getD j 0 = _
    rw [gone_at is _ j (fun k hk => by rw [List.length_set]; exact h k (List.mem_cons_of_mem _ hk)), getD_set (h i (List.mem_cons_self ..))]
    by_cases e : j ∈ is
    · rw [if_pos e, if_pos (List.mem_cons_of_mem _ e)]
    · rw [if_neg e]
      by_cases e2 : i = j
      · rw [if_pos e2, if_pos (by rw [e2]; exact List.mem_cons_self ..)]
      · rw [if_neg e2, if_neg (fun hm => by
          rcases List.mem_cons.1 hm with h1 | h1
          · exact e2 h1.symm
          · exact e h1)]
theorem bump_at : ∀ (is : List Nat) (o : List Int) (j : Nat), (∀ i ∈ is, i < o.length) → is.Nodup → (bump o is).getD j 0 = o.getD j 0 + if j ∈ is then 1 else 0
  | [], o, j, _, _ => by simp [bump]
  | i :: is, o, j, h, hn => by
    show (bump (o.set i (o.getD i 0 + 1)) is).getD j 0 = _
    obtain ⟨h1, h2⟩ := List.nodup_cons.1 hn
    rw [bump_at is _ j (fun k hk => by rw [List.length_set]; exact h k (List.mem_cons_of_mem _ hk)) h2, getD_set (h i (List.mem_cons_self ..))]
    by_cases e : i = j
    · subst e
      rw [if_pos rfl, if_neg h1, if_pos (List.mem_cons_self ..)]; omega
    · rw [if_neg e]
      by_cases e2 : j ∈ is
      · rw [if_pos e2, if_pos (List.mem_cons_of_mem _ e2)]
      · rw [if_neg e2, if_neg (fun hm => by
          rcases List.mem_cons.1 hm with h3 | h3
          · exact e h3.symm
          · exact e2 h3)]

theorem bestUp (r : List Int) : ∀ n, ∃ b, (List.range n).foldl (fun b i => if r.getD b 0 < r.getD i 0 then i else b) 0 = b ∧ (b < n ∨ n = 0 ∧ b = 0) ∧ (∀ i, i < n → r.getD i 0 ≤ r.getD b 0) ∧ (∀ i, i < b → r.getD i 0 < r.getD b 0) := by
  intro n
  induction n with
  | zero => exact ⟨0, rfl, .inr ⟨rfl, rfl⟩, fun i h => absurd h (Nat.not_lt_zero i), fun i h => absurd h (Nat.not_lt_zero i)⟩
  | succ n ih =>
    obtain ⟨b, h1, h2, h3, h4⟩ := ih
    rw [List.range_succ, List.foldl_append, h1]
    show ∃ c, (if r.getD b 0 < r.getD n 0 then n else b) = c ∧ _
    by_cases hc : r.getD b 0 < r.getD n 0
    · rw [if_pos hc]
      refine ⟨n, rfl, .inl (by omega), fun i hi => ?_, fun i hi => ?_⟩
      · rcases Nat.lt_or_ge i n with h | h
        · exact Int.le_of_lt (Int.lt_of_le_of_lt (h3 i h) hc)
        · rw [show i = n by omega]; exact Int.le_refl _
      · exact Int.lt_of_le_of_lt (h3 i hi) hc
    · rw [if_neg hc]
      refine ⟨b, rfl, .inl (by omega), fun i hi => ?_, h4⟩
      rcases Nat.lt_or_ge i n with h | h
      · exact h3 i h
      · rw [show i = n by omega]; omega
theorem bestAt_eq {r : List Int} {b : Nat} (hb : b < r.length) (h1 : ∀ i, i < r.length → r.getD i 0 ≤ r.getD b 0) (h2 : ∀ i, i < b → r.getD i 0 < r.getD b 0) : bestAt r = b := by
  obtain ⟨c, e, hc, h3, h4⟩ := bestUp r r.length
  unfold bestAt
  rw [e]
  have hcl : c < r.length := by omega
  rcases Nat.lt_trichotomy c b with h | h | h
  · have := h2 c h
    have := h3 b hb
    omega
  · exact h
  · have := h4 b h
    have := h1 c hcl
    omega

/-- which of two rests comes first -/
def ahead (r : List Int) (i k : Nat) : Prop := r.getD k 0 < r.getD i 0 ∨ r.getD i 0 = r.getD k 0 ∧ i < k
theorem pennies_eq {o r : List Int} {order : List Nat} (hr : ∀ i, i < r.length → 0 ≤ r.getD i 0) (hp : order.Perm (List.range r.length)) (hs : order.Pairwise (ahead r)) : ∀ m, m ≤ r.length → pennies m (o, r) = (bump o (order.take m), gone r (order.take m)) := by
  intro m
  have hlen : order.length = r.length := by rw [hp.length_eq, List.length_range]
  have hnd : order.Nodup := hp.nodup_iff.2 List.nodup_range
  have hmem : ∀ i, i ∈ order ↔ i < r.length := fun i => by rw [hp.mem_iff, List.mem_range]
  induction m with
  | zero => intro _; rfl
  | succ m ih =>
    intro hm
    have hml : m < order.length := by omega
    have htk : ∀ i ∈ order.take m, i < r.length := fun i hi => (hmem i).1 (List.mem_of_mem_take hi)
    show pennyStep (pennies m (o, r)) = _
    rw [ih (by omega)]
    have hlast : order[m] < r.length := (hmem _).1 (List.getElem_mem hml)
    have hnot : order[m] ∉ order.take m := by
      intro h
      obtain ⟨j, hj, e⟩ := List.getElem_of_mem h
      rw [List.length_take] at hj
      rw [List.getElem_take] at e
      exact absurd ((List.getElem_inj hnd).1 e) (by omega)
    have hbest : bestAt (gone r (order.take m)) = order[m] := by
      have hat : ∀ j, (gone r (order.take m)).getD j 0 = if j ∈ order.take m then -1 else r.getD j 0 := fun j => gone_at _ _ _ htk
      have key : ∀ i, i < r.length → i ≠ order[m] → i ∉ order.take m → ahead r order[m] i := by
        intro i hi hne hni
        obtain ⟨j, hj, e⟩ := List.getElem_of_mem ((hmem i).2 hi)
        have hjm : m < j := by
          rcases Nat.lt_trichotomy j m with h | h | h
          · exact absurd (by rw [← e]; exact List.mem_take_iff_getElem.2 ⟨j, by omega, rfl⟩) hni
          · subst h; exact absurd e.symm hne
          · exact h
        rw [← e]
        exact List.pairwise_iff_getElem.1 hs m j hml hj hjm
      refine bestAt_eq (by rw [gone_len]; exact hlast) (fun i hi => ?_) (fun i hi => ?_)
      · rw [gone_len] at hi
        rw [hat, hat, if_neg hnot]
        have h0 := hr _ hlast
        by_cases e : i ∈ order.take m
        · rw [if_pos e]; omega
        · rw [if_neg e]
          by_cases e2 : i = order[m]
          · rw [e2]; exact Int.le_refl _
          · rcases key i hi e2 e with h | ⟨h, _⟩ <;> omega
      · have hil : i < r.length := Nat.lt_trans hi hlast
        rw [hat, hat, if_neg hnot]
        have h0 := hr _ hlast
        by_cases e : i ∈ order.take m
        · rw [if_pos e]; omega
        · rw [if_neg e]
          rcases key i hil (Nat.ne_of_lt hi) e with h | ⟨_, h⟩
          · exact h
          · omega
    unfold pennyStep
    simp only [hbest]
    rw [List.take_succ_eq_append_getElem hml, bump_snoc, gone_snoc]

/-- sums of what is shared out -/
def lsum (l : List Int) : Int := l.foldl (· + ·) 0
theorem foldl_add (l : List Int) : ∀ a : Int, l.foldl (· + ·) a = a + lsum l := by
  induction l with
  | nil => intro a; simp [lsum]
  | cons x l ih => intro a; show l.foldl _ (a + x) = a + l.foldl _ (0 + x); rw [ih, ih]; omega
theorem lsum_cons (x : Int) (l : List Int) : lsum (x :: l) = x + lsum l := by show l.foldl _ (0 + x) = _; rw [foldl_add]; omega
theorem lsum_snoc (l : List Int) (x : Int) : lsum (l ++ [x]) = lsum l + x := by unfold lsum; rw [List.foldl_append]; rfl
theorem lsum_nil : lsum [] = 0 := rfl
theorem lsum_ge {B : Int} : ∀ {l : List Int}, (∀ x ∈ l, B ≤ x) → l.length * B ≤ lsum l
  | [], _ => by simp [lsum]
  | x :: l, h => by
    have h1 := h x (List.mem_cons_self ..)
    have h2 := lsum_ge (l := l) fun y hy => h y (List.mem_cons_of_mem _ hy)
    rw [lsum_cons, List.length_cons, Int.natCast_succ, Int.add_mul]; omega
theorem lsum_le {B : Int} : ∀ {l : List Int}, (∀ x ∈ l, x ≤ B) → lsum l ≤ l.length * B
  | [], _ => by simp [lsum]
  | x :: l, h => by
    have h1 := h x (List.mem_cons_self ..)
    have h2 := lsum_le (l := l) fun y hy => h y (List.mem_cons_of_mem _ hy)
    rw [lsum_cons, List.length_cons, Int.natCast_succ, Int.add_mul]; omega
theorem lsum_nonneg {l : List Int} (h : ∀ x ∈ l, 0 ≤ x) : 0 ≤ lsum l := by have := lsum_ge (B := 0) h; omega
def floors (s all : Int) (parts : List Int) : List Int := parts.map fun n => s * n / all
def rests (s all : Int) (parts : List Int) : List Int := parts.map fun n => s * n % all
theorem floors_rests (s A : Int) : ∀ l : List Int, s * lsum l = A * lsum (floors s A l) + lsum (rests s A l)
  | [] => by simp [floors, rests, lsum]
  | x :: l => by
    have ih := floors_rests s A l
    simp only [floors, rests, List.map_cons, lsum_cons] at ih ⊢
    have := Int.mul_ediv_add_emod (s * x) A
    rw [Int.mul_add, Int.mul_add]; omega
theorem floors_at {s A : Int} {l : List Int} {i : Nat} (h : i < l.length) : (floors s A l).getD i 0 = s * l.getD i 0 / A := by
  unfold floors
  rw [List.getD_eq_getElem?_getD, List.getElem?_map, List.getElem?_eq_getElem h, List.getD_eq_getElem?_getD, List.getElem?_eq_getElem h]; rfl
theorem rests_at {s A : Int} {l : List Int} {i : Nat} (h : i < l.length) : (rests s A l).getD i 0 = s * l.getD i 0 % A := by
  unfold rests
  rw [List.getD_eq_getElem?_getD, List.getElem?_map, List.getElem?_eq_getElem h, List.getD_eq_getElem?_getD, List.getElem?_eq_getElem h]; rfl
/-- what is missing -/
def lack (s : Int) (parts : List Int) : Int := s - lsum (floors s (lsum parts) parts)
theorem lack_bd {s : Int} {parts : List Int} (hA : 0 < lsum parts) : 0 ≤ lack s parts ∧ lack s parts < parts.length := by
  have h1 := floors_rests s (lsum parts) parts
  generalize hA' : lsum parts = A at *
  have hr0 : ∀ x ∈ rests s A parts, 0 ≤ x := fun x hx => by
    unfold rests at hx
    obtain ⟨n, _, rfl⟩ := List.mem_map.1 hx
    exact Int.emod_nonneg _ (by omega)
  have hr1 : ∀ x ∈ rests s A parts, x ≤ A - 1 := fun x hx => by
    unfold rests at hx
    obtain ⟨n, _, rfl⟩ := List.mem_map.1 hx
    have := Int.emod_lt_of_pos (s * n) hA
    omega
  have h2 := lsum_nonneg hr0
  have h3 := lsum_le hr1
  have hl : (rests s A parts).length = parts.length := by simp [rests]
  rw [hl] at h3
  have h4 : A * lack s parts = lsum (rests s A parts) := by
    unfold lack
    rw [hA', Int.mul_sub, Int.mul_comm A s]; omega
  have hn : parts ≠ [] := by
    rintro rfl
    rw [lsum_nil] at hA'; omega
  have hn0 : 0 < parts.length := List.length_pos_iff.2 hn
  constructor
  · rcases Int.lt_or_le (lack s parts) 0 with h | h
    · have : A * lack s parts < 0 := Int.mul_neg_of_pos_of_neg hA h
      omega
    · exact h
  · rcases Int.lt_or_le (lack s parts) parts.length with h | h
    · exact h
    · have h5 : A * (parts.length : Int) ≤ A * lack s parts := Int.mul_le_mul_of_nonneg_left h (Int.le_of_lt hA)
      rw [Int.mul_sub, Int.mul_comm (parts.length : Int) A, Int.mul_one] at h3
      omega
/-- an order in which pennies are given -/
def Ordered (s : Int) (parts : List Int) (order : List Nat) : Prop := order.Perm (List.range parts.length) ∧ order.Pairwise (ahead (rests s (lsum parts) parts))
/-- the shares -/
def shared (s : Int) (parts : List Int) (order : List Nat) : List Int := bump (floors s (lsum parts) parts) (order.take (lack s parts).toNat)
section
variable {s : Int} {parts : List Int} {order : List Nat}
theorem shared_pennies (hA : 0 < lsum parts) (ho : Ordered s parts order) : (pennies (lack s parts).toNat (floors s (lsum parts) parts, rests s (lsum parts) parts)).1 = shared s parts order := by
  have hl : (rests s (lsum parts) parts).length = parts.length := by simp [rests]
  have hb := lack_bd (s := s) hA
  rw [pennies_eq (order := order) (fun i hi => by rw [hl] at hi; rw [rests_at hi]; exact Int.emod_nonneg _ (by omega)) (by rw [hl]; exact ho.1) ho.2 _ (by rw [hl]; omega)]
  rfl
theorem ordered_mem (ho : Ordered s parts order) (i : Nat) : i ∈ order ↔ i < parts.length := by rw [ho.1.mem_iff, List.mem_range]
theorem ordered_nodup (ho : Ordered s parts order) : order.Nodup := ho.1.nodup_iff.2 List.nodup_range
end

end Go.Proofs.YtchignmnnbepnaaGreat

/- Digits of natural numbers in any base, the lowest first; plain lists. -/
namespace Go.Proofs.YtnimnoodpnhodaaDoor.Dig

def vl (b : Int) : List Int → Int
  | [] => 0
  | x :: r => x + b * vl b r

def dg (b n : Nat) : List Int :=
  if _h : n = 0 ∨ b < 2 then [] else ((n % b : Nat) : Int) :: dg b (n / b)
termination_by n
decreasing_by
  rw [not_or] at _h
  exact Nat.div_lt_self (by omega) (by omega)

theorem dg_zero (b : Nat) : dg b 0 = [] := by rw [dg]; simp
theorem dg_pos {b n : Nat} (hb : 2 ≤ b) (hn : 0 < n) : dg b n = ((n % b : Nat) : Int) :: dg b (n / b) := by
  rw [dg, dif_neg (by omega)]

theorem vl_nil (b : Int) : vl b [] = 0 := rfl
theorem vl_cons (b x : Int) (l : List Int) : vl b (x :: l) = x + b * vl b l := rfl

theorem vl_append (b : Int) (l r : List Int) : vl b (l ++ r) = vl b l + b ^ l.length * vl b r := by
  induction l with
  | nil => simp [vl]
  | cons x l ih =>
    simp only [List.cons_append, vl, ih, List.length_cons, Int.pow_succ]
    grind

theorem vl_dg {b : Nat} (hb : 2 ≤ b) (n : Nat) : vl b (dg b n) = n := by
  induction n using Nat.strongRecOn with
  | _ n ih =>
    by_cases hn : n = 0
    · subst hn; rw [dg_zero]; rfl
    · rw [dg_pos hb (by omega), vl, ih (n / b) (Nat.div_lt_self (by omega) (by omega))]
      have := Nat.mod_add_div n b
      exact_mod_cast this

theorem dg_mem {b : Nat} (hb : 2 ≤ b) (n : Nat) : ∀ x ∈ dg b n, 0 ≤ x ∧ x < b := by
  induction n using Nat.strongRecOn with
  | _ n ih =>
    by_cases hn : n = 0
    · subst hn; rw [dg_zero]; simp
    · rw [dg_pos hb (by omega)]
      intro x hx
      rcases List.mem_cons.1 hx with rfl | hx
      · have := Nat.mod_lt n (show 0 < b by omega); omega
      · exact ih (n / b) (Nat.div_lt_self (by omega) (by omega)) x hx

/-- digits in range, no zero at the end -/
def Norm (b : Nat) (l : List Int) : Prop := (∀ x ∈ l, 0 ≤ x ∧ x < b) ∧ ∀ m : List Int, l ≠ m ++ [0]

theorem vl_nonneg {b : Nat} : ∀ {l : List Int}, (∀ x ∈ l, 0 ≤ x) → 0 ≤ vl b l
  | [], _ => Int.le_refl _
  | x :: l, h => by
    have h1 := h x (by simp)
    have h2 := vl_nonneg (b := b) (l := l) (fun y hy => h y (by simp [hy]))
    have := Int.mul_nonneg (show (0 : Int) ≤ b by omega) h2
    simp only [vl]; omega

theorem vl_lt {b : Nat} (hb : 1 ≤ b) : ∀ {l : List Int}, (∀ x ∈ l, 0 ≤ x ∧ x < b) → vl b l < (b : Int) ^ l.length
  | [], _ => by simp [vl]
  | x :: l, h => by
    have h1 := h x (by simp)
    have h2 := vl_lt hb (l := l) (fun y hy => h y (by simp [hy]))
    simp only [vl, List.length_cons, Int.pow_succ]
    have h3 : (b : Int) * vl b l ≤ b * (b ^ l.length - 1) := Int.mul_le_mul_of_nonneg_left (by omega) (by omega)
    have h4 : (b : Int) * (b ^ l.length - 1) = b ^ l.length * b - b := by grind
    omega

theorem norm_tail {b : Nat} {x : Int} {l : List Int} (h : Norm b (x :: l)) : Norm b l :=
  ⟨fun y hy => h.1 y (by simp [hy]), fun m hm => h.2 (x :: m) (by simp [hm])⟩

theorem norm_pos {b : Nat} (hb : 2 ≤ b) : ∀ {l : List Int}, Norm b l → l ≠ [] → 0 < vl b l
  | [], _, h => absurd rfl h
  | [x], h, _ => by
    have h1 := h.1 x (by simp)
    have h2 : x ≠ 0 := fun e => h.2 [] (by simp [e])
    simp [vl]; omega
  | x :: y :: l, h, _ => by
    have h1 := h.1 x (by simp)
    have h2 := norm_pos hb (norm_tail h) (by simp)
    have := Int.mul_pos (show (0 : Int) < b by omega) h2
    rw [vl]; omega

theorem dg_of_norm {b : Nat} (hb : 2 ≤ b) : ∀ {l : List Int}, Norm b l → dg b (vl b l).toNat = l
  | [], _ => by simp [vl, dg_zero]
  | x :: l, h => by
    have hp := norm_pos hb h (by simp)
    have h1 := h.1 x (by simp)
    have h2 := vl_nonneg (b := b) (l := l) (fun y hy => (h.1 y (by simp [hy])).1)
    have ih := dg_of_norm hb (norm_tail h)
    obtain ⟨n, hn⟩ := Int.eq_ofNat_of_zero_le h2
    obtain ⟨m, hm⟩ := Int.eq_ofNat_of_zero_le h1.1
    have he : (vl b (x :: l)).toNat = m + b * n := by
      rw [vl, hn, hm]
      have : (m : Int) + (b : Int) * (n : Int) = ((m + b * n : Nat) : Int) := by simp
      rw [this]; exact Int.toNat_natCast _
    rw [he, dg_pos hb (by rw [vl, hn, hm] at hp; have : (m : Int) + (b : Int) * (n : Int) = ((m + b * n : Nat) : Int) := by simp
                          rw [this] at hp; omega)]
    have hmb : m < b := by omega
    have e1 : (m + b * n) % b = m := by rw [Nat.add_mul_mod_self_left]; exact Nat.mod_eq_of_lt hmb
    have e2 : (m + b * n) / b = n := by rw [Nat.add_mul_div_left _ _ (by omega), Nat.div_eq_of_lt hmb]; omega
    rw [e1, e2, ← hm]
    rw [hn] at ih
    simp at ih
    rw [ih]

theorem dg_norm {b : Nat} (hb : 2 ≤ b) (n : Nat) : Norm b (dg b n) := by
  refine ⟨dg_mem hb n, ?_⟩
  induction n using Nat.strongRecOn with
  | _ n ih =>
    intro m hm
    by_cases hn : n = 0
    · subst hn; rw [dg_zero] at hm; simp at hm
    · rw [dg_pos hb (by omega)] at hm
      cases m with
      | nil =>
        simp only [List.nil_append, List.cons.injEq] at hm
        have hd : n / b = 0 := by
          by_cases h0 : n / b = 0
          · exact h0
          · rw [dg_pos hb (Nat.pos_of_ne_zero h0)] at hm; simp at hm
        have : n < b := by
          rcases Nat.lt_or_ge n b with h | h
          · exact h
          · have := Nat.div_pos h (show 0 < b by omega); omega
        rw [Nat.mod_eq_of_lt this] at hm; omega
      | cons y m =>
        simp only [List.cons_append, List.cons.injEq] at hm
        exact ih (n / b) (Nat.div_lt_self (by omega) (by omega)) m hm.2

theorem dg_inj {b : Nat} (hb : 2 ≤ b) {m n : Nat} (h : dg b m = dg b n) : m = n := by
  have h1 := vl_dg hb m
  have h2 := vl_dg hb n
  rw [h] at h1; omega

theorem dg_len_lt {b : Nat} (hb : 2 ≤ b) (n : Nat) : n < b ^ (dg b n).length := by
  have := vl_lt (b := b) (by omega) (dg_mem hb n)
  rw [vl_dg hb] at this
  exact_mod_cast this

theorem dg_len_le {b : Nat} (hb : 2 ≤ b) {k : Nat} : ∀ {n : Nat}, n < b ^ k → (dg b n).length ≤ k := by
  induction k with
  | zero => intro n h; have : n = 0 := by simpa using h
            subst this; rw [dg_zero]; simp
  | succ k ih =>
    intro n h
    by_cases hn : n = 0
    · subst hn; rw [dg_zero]; simp
    · rw [dg_pos hb (by omega), List.length_cons]
      have : n / b < b ^ k := by rw [Nat.div_lt_iff_lt_mul (by omega)]; rwa [Nat.pow_succ] at h
      have := ih this; omega

theorem dg_nil_iff {b : Nat} (hb : 2 ≤ b) {n : Nat} : dg b n = [] ↔ n = 0 := by
  constructor
  · intro h; have := vl_dg hb n; rw [h] at this; simp [vl] at this; omega
  · rintro rfl; exact dg_zero b

theorem dg_len_ge {b : Nat} (hb : 2 ≤ b) : ∀ (n : Nat), 0 < n → b ^ ((dg b n).length - 1) ≤ n := by
  intro n
  induction n using Nat.strongRecOn with
  | _ n ih =>
    intro hn
    rw [dg_pos hb hn, List.length_cons, Nat.add_sub_cancel]
    by_cases h0 : n / b = 0
    · rw [h0, dg_zero]; simp; omega
    · have h1 := ih (n / b) (Nat.div_lt_self (by omega) (by omega)) (Nat.pos_of_ne_zero h0)
      rw [dg_pos hb (Nat.pos_of_ne_zero h0), List.length_cons, Nat.add_sub_cancel] at h1
      rw [dg_pos hb (Nat.pos_of_ne_zero h0), List.length_cons, Nat.pow_succ]
      have h2 := Nat.div_mul_le_self n b
      have h3 : b ^ (dg b (n / b / b)).length * b ≤ n / b * b := Nat.mul_le_mul_right _ h1
      omega

theorem dg_len_mono {b : Nat} (hb : 2 ≤ b) {m n : Nat} (h : m ≤ n) : (dg b m).length ≤ (dg b n).length :=
  dg_len_le hb (Nat.lt_of_le_of_lt h (dg_len_lt hb n))

/-- A shorter number is less. -/
theorem lt_of_len_lt {b : Nat} (hb : 2 ≤ b) {m n : Nat} (h : (dg b m).length < (dg b n).length) : m < n := by
  rcases Nat.lt_or_ge m n with h' | h'
  · exact h'
  · have := dg_len_mono hb h'; omega

/-- the carrying pass -/
def cr (b : Int) : Int → List Int → List Int × Int
  | c, [] => ([], c)
  | c, x :: r => ((x + c) % b :: (cr b ((x + c) / b) r).1, (cr b ((x + c) / b) r).2)

theorem cr_len (b : Int) : ∀ (c : Int) (l : List Int), (cr b c l).1.length = l.length
  | _, [] => rfl
  | c, x :: r => by simp [cr, cr_len b _ r]

theorem cr_snoc (b : Int) : ∀ (c : Int) (l : List Int) (x : Int),
    cr b c (l ++ [x]) = ((cr b c l).1 ++ [(x + (cr b c l).2) % b], (x + (cr b c l).2) / b)
  | c, [], x => by simp [cr]
  | c, y :: r, x => by simp [cr, cr_snoc b _ r x]

theorem cr_vl (b : Int) : ∀ (c : Int) (l : List Int), vl b (cr b c l).1 + b ^ l.length * (cr b c l).2 = vl b l + c
  | c, [] => by simp [cr, vl]
  | c, x :: r => by
    have ih := cr_vl b ((x + c) / b) r
    have hd := Int.mul_ediv_add_emod (x + c) b
    simp only [cr, vl, List.length_cons, Int.pow_succ]
    grind

theorem cr_mem {b : Nat} (hb : 1 ≤ b) : ∀ (c : Int) (l : List Int), ∀ x ∈ (cr b c l).1, 0 ≤ x ∧ x < b
  | _, [] => by simp [cr]
  | c, y :: r => by
    intro x hx
    simp only [cr, List.mem_cons] at hx
    rcases hx with rfl | hx
    · exact ⟨Int.emod_nonneg _ (by omega), Int.emod_lt_of_pos _ (by omega)⟩
    · exact cr_mem hb _ r x hx

theorem cr_carry_nonneg {b : Nat} (hb : 1 ≤ b) (l : List Int) (h : 0 ≤ vl b l) : 0 ≤ (cr b 0 l).2 := by
  have h1 := cr_vl b 0 l
  have h2 := vl_lt hb (cr_mem hb 0 l)
  rw [cr_len] at h2
  have hp : (0 : Int) < (b : Int) ^ l.length := Int.pow_pos (by omega)
  rcases Int.lt_or_le (cr b 0 l).2 0 with h' | h'
  · have : (b : Int) ^ l.length * (cr b 0 l).2 ≤ (b : Int) ^ l.length * (-1) := Int.mul_le_mul_of_nonneg_left (by omega) (by omega)
    omega
  · exact h'

theorem vl_take_succ (b : Int) {L : List Int} {k : Nat} (h : k < L.length) : vl b (L.take (k + 1)) = vl b (L.take k) + b ^ k * L[k] := by
  rw [List.take_succ_eq_append_getElem h, vl_append]
  simp [vl, Nat.min_eq_left (Nat.le_of_lt h)]

theorem vl_replicate (b : Int) (n : Nat) : vl b (List.replicate n 0) = 0 := by
  induction n with
  | zero => rfl
  | succ n ih => simp [List.replicate_succ, vl, ih]

theorem vl_zeros (b : Int) : ∀ {l : List Int}, (∀ x ∈ l, x = 0) → vl b l = 0
  | [], _ => rfl
  | x :: l, h => by
    have h1 := h x (by simp)
    have h2 := vl_zeros b (l := l) (fun y hy => h y (by simp [hy]))
    simp [vl, h1, h2]

theorem vl_set (b : Int) : ∀ {l : List Int} {k : Nat} (y : Int) (h : k < l.length), vl b (l.set k y) = vl b l + b ^ k * (y - l[k])
  | x :: l, 0, y, _ => by simp [vl]; omega
  | x :: l, k + 1, y, h => by
    have ih := vl_set b (l := l) (k := k) y (by simpa using h)
    simp only [List.set_cons_succ, vl, ih, List.getElem_cons_succ, Int.pow_succ]
    grind

/-- what is left when the zeros at the end are gone -/
theorem dg_of_take {b : Nat} (hb : 2 ≤ b) {L : List Int} {m N : Nat} (hm : m ≤ L.length) (hr : ∀ x ∈ L, 0 ≤ x ∧ x < b) (hv : vl b (L.take m) = N)
    (hz : 0 < m → L[m - 1]?.getD 0 ≠ 0) : L.take m = dg b N := by
  have hn : Norm b (L.take m) := by
    refine ⟨fun x hx => hr x (List.mem_of_mem_take hx), fun p hp => ?_⟩
    have hl := congrArg List.length hp
    rw [List.length_take, Nat.min_eq_left hm, List.length_append, List.length_singleton] at hl
    apply hz (by omega)
    have h1 : (L.take m)[m - 1]? = L[m - 1]? := by rw [List.getElem?_take, if_pos (by omega)]
    rw [← h1, hp, show m - 1 = p.length by omega]
    simp
  have := dg_of_norm hb hn
  rw [hv] at this
  exact this.symm

theorem vl_take_zero (b : Int) {L : List Int} {m : Nat} (hm : m + 1 ≤ L.length) (hz : L[m] = 0) : vl b (L.take (m + 1)) = vl b (L.take m) := by
  rw [vl_take_succ b hm, hz]; simp

/-- compared from the top: the first digit that differs decides -/
theorem vl_lt_of_top {b : Nat} (hb : 1 ≤ b) {k : Nat} : ∀ {l r : List Int}, l.length = r.length → (∀ x ∈ l, 0 ≤ x ∧ x < b) → (∀ x ∈ r, 0 ≤ x ∧ x < b) →
    l.drop (k + 1) = r.drop (k + 1) → (hl : k < l.length) → (hr : k < r.length) → l[k] < r[k] → vl b l < vl b r := by
  intro l r hlen h1 h2 hd hl hr hlt
  have e1 : l = l.take k ++ l[k] :: l.drop (k + 1) := by rw [List.getElem_cons_drop, List.take_append_drop]
  have e2 : r = r.take k ++ r[k] :: r.drop (k + 1) := by rw [List.getElem_cons_drop, List.take_append_drop]
  rw [e1, e2, vl_append, vl_append, vl, vl, hd]
  have t1 := vl_lt hb (l := l.take k) (fun x hx => h1 x (List.mem_of_mem_take hx))
  have t2 := vl_nonneg (b := b) (l := r.take k) (fun x hx => (h2 x (List.mem_of_mem_take hx)).1)
  have n1 : (l.take k).length = k := by simp; omega
  have n2 : (r.take k).length = k := by simp; omega
  rw [n1] at t1 ⊢
  rw [n2]
  have hp : (0 : Int) < (b : Int) ^ k := Int.pow_pos (by omega)
  have : (b : Int) ^ k * (l[k] + 1) ≤ (b : Int) ^ k * r[k] := Int.mul_le_mul_of_nonneg_left (by omega) (by omega)
  have e3 : (b : Int) ^ k * (l[k] + 1) = (b : Int) ^ k * l[k] + b ^ k := by grind
  have e4 : (b : Int) ^ k * (l[k] + b * vl b (r.drop (k + 1))) = (b : Int) ^ k * l[k] + b ^ k * (b * vl b (r.drop (k + 1))) := by grind
  have e5 : (b : Int) ^ k * (r[k] + b * vl b (r.drop (k + 1))) = (b : Int) ^ k * r[k] + b ^ k * (b * vl b (r.drop (k + 1))) := by grind
  omega

end Go.Proofs.YtnimnoodpnhodaaDoor.Dig

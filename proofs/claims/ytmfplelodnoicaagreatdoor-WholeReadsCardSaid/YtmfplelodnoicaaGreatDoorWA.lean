/- Digits of natural numbers in any base, the lowest first; plain lists. -/
/- append, make and copy over rows of one's own, with what the walk wants to know of the new block; for any program. -/
/- how large integers and ratios are; ratios by numerator and denominator; plain. -/
/- Decimal texts of numbers; plain lists of bytes. -/
/- bounds on sums, products and quotients of floats that are not below 0; plain -/
import Derived.WalkKit
import Ieee.Arith
namespace Go.Proofs.YtmfplelodnoicaaGreatDoor.Dig

def vl (b : Int) : List Int → Int
  | [] => 0
  | x :: r => x + b * vl b r

def dg (b n : Nat) : List Int :=
  if _h : n = 0 ∨ b < 2 then [] else ((n % b : Nat) : Int) :: dg b (n / b)
termination_by n
decreasing_by
  rw [not_or] at _h
  exact Nat.div_lt_self (by omega) (by omega)

theorem dg_zero (b : Nat) : dg b 0 = [] := by rw [dg]; simp
theorem dg_pos {b n : Nat} (hb : 2 ≤ b) (hn : 0 < n) : dg b n = ((n % b : Nat) : Int) :: dg b (n / b) := by
  rw [dg, dif_neg (by omega)]

theorem vl_nil (b : Int) : vl b [] = 0 := rfl
theorem vl_cons (b x : Int) (l : List Int) : vl b (x :: l) = x + b * vl b l := rfl

theorem vl_append (b : Int) (l r : List Int) : vl b (l ++ r) = vl b l + b ^ l.length * vl b r := by
  induction l with
  | nil => simp [vl]
  | cons x l ih =>
    simp only [List.cons_append, vl, ih, List.length_cons, Int.pow_succ]
    grind

theorem vl_dg {b : Nat} (hb : 2 ≤ b) (n : Nat) : vl b (dg b n) = n := by
  induction n using Nat.strongRecOn with
  | _ n ih =>
    by_cases hn : n = 0
    · subst hn; rw [dg_zero]; rfl
    · rw [dg_pos hb (by omega), vl, ih (n / b) (Nat.div_lt_self (by omega) (by omega))]
      have := Nat.mod_add_div n b
      exact_mod_cast this

theorem dg_mem {b : Nat} (hb : 2 ≤ b) (n : Nat) : ∀ x ∈ dg b n, 0 ≤ x ∧ x < b := by
  induction n using Nat.strongRecOn with
  | _ n ih =>
    by_cases hn : n = 0
    · subst hn; rw [dg_zero]; simp
    · rw [dg_pos hb (by omega)]
      intro x hx
      rcases List.mem_cons.1 hx with rfl | hx
      · have := Nat.mod_lt n (show 0 < b by omega); omega
      · exact ih (n / b) (Nat.div_lt_self (by omega) (by omega)) x hx

/-- digits in range, no zero at the end -/
def Norm (b : Nat) (l : List Int) : Prop := (∀ x ∈ l, 0 ≤ x ∧ x < b) ∧ ∀ m : List Int, l ≠ m ++ [0]

theorem vl_nonneg {b : Nat} : ∀ {l : List Int}, (∀ x ∈ l, 0 ≤ x) → 0 ≤ vl b l
  | [], _ => Int.le_refl _
  | x :: l, h => by
    have h1 := h x (by simp)
    have h2 := vl_nonneg (b := b) (l := l) (fun y hy => h y (by simp [hy]))
    have := Int.mul_nonneg (show (0 : Int) ≤ b by omega) h2
    simp only [vl]; omega

theorem vl_lt {b : Nat} (hb : 1 ≤ b) : ∀ {l : List Int}, (∀ x ∈ l, 0 ≤ x ∧ x < b) → vl b l < (b : Int) ^ l.length
  | [], _ => by simp [vl]
  | x :: l, h => by
    have h1 := h x (by simp)
    have h2 := vl_lt hb (l := l) (fun y hy => h y (by simp [hy]))
    simp only [vl, List.length_cons, Int.pow_succ]
    have h3 : (b : Int) * vl b l ≤ b * (b ^ l.length - 1) := Int.mul_le_mul_of_nonneg_left (by omega) (by omega)
    have h4 : (b : Int) * (b ^ l.length - 1) = b ^ l.length * b - b := by grind
    omega

theorem norm_tail {b : Nat} {x : Int} {l : List Int} (h : Norm b (x :: l)) : Norm b l :=
  ⟨fun y hy => h.1 y (by simp [hy]), fun m hm => h.2 (x :: m) (by simp [hm])⟩

theorem norm_pos {b : Nat} (hb : 2 ≤ b) : ∀ {l : List Int}, Norm b l → l ≠ [] → 0 < vl b l
  | [], _, h => absurd rfl h
  | [x], h, _ => by
    have h1 := h.1 x (by simp)
    have h2 : x ≠ 0 := fun e => h.2 [] (by simp [e])
    simp [vl]; omega
  | x :: y :: l, h, _ => by
    have h1 := h.1 x (by simp)
    have h2 := norm_pos hb (norm_tail h) (by simp)
    have := Int.mul_pos (show (0 : Int) < b by omega) h2
    rw [vl]; omega

theorem dg_of_norm {b : Nat} (hb : 2 ≤ b) : ∀ {l : List Int}, Norm b l → dg b (vl b l).toNat = l
  | [], _ => by simp [vl, dg_zero]
  | x :: l, h => by
    have hp := norm_pos hb h (by simp)
    have h1 := h.1 x (by simp)
    have h2 := vl_nonneg (b := b) (l := l) (fun y hy => (h.1 y (by simp [hy])).1)
    have ih := dg_of_norm hb (norm_tail h)
    obtain ⟨n, hn⟩ := Int.eq_ofNat_of_zero_le h2
    obtain ⟨m, hm⟩ := Int.eq_ofNat_of_zero_le h1.1
    have he : (vl b (x :: l)).toNat = m + b * n := by
      rw [vl, hn, hm]
      have : (m : Int) + (b : Int) * (n : Int) = ((m + b * n : Nat) : Int) := by simp
      rw [this]; exact Int.toNat_natCast _
    rw [he, dg_pos hb (by rw [vl, hn, hm] at hp; have : (m : Int) + (b : Int) * (n : Int) = ((m + b * n : Nat) : Int) := by simp
                          rw [this] at hp; omega)]
    have hmb : m < b := by omega
    have e1 : (m + b * n) % b = m := by rw [Nat.add_mul_mod_self_left]; exact Nat.mod_eq_of_lt hmb
    have e2 : (m + b * n) / b = n := by rw [Nat.add_mul_div_left _ _ (by omega), Nat.div_eq_of_lt hmb]; omega
    rw [e1, e2, ← hm]
    rw [hn] at ih
    simp at ih
    rw [ih]

theorem dg_norm {b : Nat} (hb : 2 ≤ b) (n : Nat) : Norm b (dg b n) := by
  refine ⟨dg_mem hb n, ?_⟩
  induction n using Nat.strongRecOn with
  | _ n ih =>
    intro m hm
    by_cases hn : n = 0
    · subst hn; rw [dg_zero] at hm; simp at hm
    · rw [dg_pos hb (by omega)] at hm
      cases m with
      | nil =>
        simp only [List.nil_append, List.cons.injEq] at hm
        have hd : n / b = 0 := by
          by_cases h0 : n / b = 0
          · exact h0
          · rw [dg_pos hb (Nat.pos_of_ne_zero h0)] at hm; simp at hm
        have : n < b := by
          rcases Nat.lt_or_ge n b with h | h
          · exact h
          · have := Nat.div_pos h (show 0 < b by omega); omega
        rw [Nat.mod_eq_of_lt this] at hm; omega
      | cons y m =>
        simp only [List.cons_append, List.cons.injEq] at hm
        exact ih (n / b) (Nat.div_lt_self (by omega) (by omega)) m hm.2

theorem dg_inj {b : Nat} (hb : 2 ≤ b) {m n : Nat} (h : dg b m = dg b n) : m = n := by
  have h1 := vl_dg hb m
  have h2 := vl_dg hb n
  rw [h] at h1; omega

theorem dg_len_lt {b : Nat} (hb : 2 ≤ b) (n : Nat) : n < b ^ (dg b n).length := by
  have := vl_lt (b := b) (by omega) (dg_mem hb n)
  rw [vl_dg hb] at this
  exact_mod_cast this

theorem dg_len_le {b : Nat} (hb : 2 ≤ b) {k : Nat} : ∀ {n : Nat}, n < b ^ k → (dg b n).length ≤ k := by
  induction k with
  | zero => intro n h; have : n = 0 := by simpa using h
            subst this; rw [dg_zero]; simp
  | succ k ih =>
    intro n h
    by_cases hn : n = 0
    · subst hn; rw [dg_zero]; simp
    · rw [dg_pos hb (by omega), List.length_cons]
      have : n / b < b ^ k := by rw [Nat.div_lt_iff_lt_mul (by omega)]; rwa [Nat.pow_succ] at h
      have := ih this; omega

theorem dg_nil_iff {b : Nat} (hb : 2 ≤ b) {n : Nat} : dg b n = [] ↔ n = 0 := by
  constructor
  · intro h; have := vl_dg hb n; rw [h] at this; simp [vl] at this; omega
  · rintro rfl; exact dg_zero b

theorem dg_len_ge {b : Nat} (hb : 2 ≤ b) : ∀ (n : Nat), 0 < n → b ^ ((dg b n).length - 1) ≤ n := by
  intro n
  induction n using Nat.strongRecOn with
  | _ n ih =>
    intro hn
    rw [dg_pos hb hn, List.length_cons, Nat.add_sub_cancel]
    by_cases h0 : n / b = 0
    · rw [h0, dg_zero]; simp; omega
    · have h1 := ih (n / b) (Nat.div_lt_self (by omega) (by omega)) (Nat.pos_of_ne_zero h0)
      rw [dg_pos hb (Nat.pos_of_ne_zero h0), List.length_cons, Nat.add_sub_cancel] at h1
      rw [dg_pos hb (Nat.pos_of_ne_zero h0), List.length_cons, Nat.pow_succ]
      have h2 := Nat.div_mul_le_self n b
      have h3 : b ^ (dg b (n / b / b)).length * b ≤ n / b * b := Nat.mul_le_mul_right _ h1
      omega

theorem dg_len_mono {b : Nat} (hb : 2 ≤ b) {m n : Nat} (h : m ≤ n) : (dg b m).length ≤ (dg b n).length :=
  dg_len_le hb (Nat.lt_of_le_of_lt h (dg_len_lt hb n))

/-- A shorter number is less. -/
theorem lt_of_len_lt {b : Nat} (hb : 2 ≤ b) {m n : Nat} (h : (dg b m).length < (dg b n).length) : m < n := by
  rcases Nat.lt_or_ge m n with h' | h'
  · exact h'
  · have := dg_len_mono hb h'; omega

/-- the carrying pass -/
def cr (b : Int) : Int → List Int → List Int × Int
  | c, [] => ([], c)
  | c, x :: r => ((x + c) % b :: (cr b ((x + c) / b) r).1, (cr b ((x + c) / b) r).2)

theorem cr_len (b : Int) : ∀ (c : Int) (l : List Int), (cr b c l).1.length = l.length
  | _, [] => rfl
  | c, x :: r => by simp [cr, cr_len b _ r]

theorem cr_snoc (b : Int) : ∀ (c : Int) (l : List Int) (x : Int),
    cr b c (l ++ [x]) = ((cr b c l).1 ++ [(x + (cr b c l).2) % b], (x + (cr b c l).2) / b)
  | c, [], x => by simp [cr]
  | c, y :: r, x => by simp [cr, cr_snoc b _ r x]

theorem cr_vl (b : Int) : ∀ (c : Int) (l : List Int), vl b (cr b c l).1 + b ^ l.length * (cr b c l).2 = vl b l + c
  | c, [] => by simp [cr, vl]
  | c, x :: r => by
    have ih := cr_vl b ((x + c) / b) r
    have hd := Int.mul_ediv_add_emod (x + c) b
    simp only [cr, vl, List.length_cons, Int.pow_succ]
    grind

theorem cr_mem {b : Nat} (hb : 1 ≤ b) : ∀ (c : Int) (l : List Int), ∀ x ∈ (cr b c l).1, 0 ≤ x ∧ x < b
  | _, [] => by simp [cr]
  | c, y :: r => by
    intro x hx
    simp only [cr, List.mem_cons] at hx
    rcases hx with rfl | hx
    · exact ⟨Int.emod_nonneg _ (by omega), Int.emod_lt_of_pos _ (by omega)⟩
    · exact cr_mem hb _ r x hx

theorem cr_carry_nonneg {b : Nat} (hb : 1 ≤ b) (l : List Int) (h : 0 ≤ vl b l) : 0 ≤ (cr b 0 l).2 := by
  have h1 := cr_vl b 0 l
  have h2 := vl_lt hb (cr_mem hb 0 l)
  rw [cr_len] at h2
  have hp : (0 : Int) < (b : Int) ^ l.length := Int.pow_pos (by omega)
  rcases Int.lt_or_le (cr b 0 l).2 0 with h' | h'
  · have : (b : Int) ^ l.length * (cr b 0 l).2 ≤ (b : Int) ^ l.length * (-1) := Int.mul_le_mul_of_nonneg_left (by omega) (by omega)
    omega
  · exact h'

theorem vl_take_succ (b : Int) {L : List Int} {k : Nat} (h : k < L.length) : vl b (L.take (k + 1)) = vl b (L.take k) + b ^ k * L[k] := by
  rw [List.take_succ_eq_append_getElem h, vl_append]
  simp [vl, Nat.min_eq_left (Nat.le_of_lt h)]

theorem vl_replicate (b : Int) (n : Nat) : vl b (List.replicate n 0) = 0 := by
  induction n with
  | zero => rfl
  | succ n ih => simp [List.replicate_succ, vl, ih]

theorem vl_zeros (b : Int) : ∀ {l : List Int}, (∀ x ∈ l, x = 0) → vl b l = 0
  | [], _ => rfl
  | x :: l, h => by
    have h1 := h x (by simp)
    have h2 := vl_zeros b (l := l) (fun y hy => h y (by simp [hy]))
    simp [vl, h1, h2]

theorem vl_set (b : Int) : ∀ {l : List Int} {k : Nat} (y : Int) (h : k < l.length), vl b (l.set k y) = vl b l + b ^ k * (y - l[k])
  | x :: l, 0, y, _ => by simp [vl]; omega
  | x :: l, k + 1, y, h => by
    have ih := vl_set b (l := l) (k := k) y (by simpa using h)
    simp only [List.set_cons_succ, vl, ih, List.getElem_cons_succ, Int.pow_succ]
    grind

/-- what is left when the zeros at the end are gone -/
theorem dg_of_take {b : Nat} (hb : 2 ≤ b) {L : List Int} {m N : Nat} (hm : m ≤ L.length) (hr : ∀ x ∈ L, 0 ≤ x ∧ x < b) (hv : vl b (L.take m) = N)
    (hz : 0 < m → L[m - 1]?.getD 0 ≠ 0) : L.take m = dg b N := by
  have hn : Norm b (L.take m) := by
    refine ⟨fun x hx => hr x (List.mem_of_mem_take hx), fun p hp => ?_⟩
    have hl := congrArg List.length hp
    rw [List.length_take, Nat.min_eq_left hm, List.length_append, List.length_singleton] at hl
    apply hz (by omega)
    have h1 : (L.take m)[m - 1]? = L[m - 1]? := by rw [List.getElem?_take, if_pos (by omega)]
    rw [← h1, hp, show m - 1 = p.length by omega]
    simp
  have := dg_of_norm hb hn
  rw [hv] at this
  exact this.symm

theorem vl_take_zero (b : Int) {L : List Int} {m : Nat} (hm : m + 1 ≤ L.length) (hz : L[m] = 0) : vl b (L.take (m + 1)) = vl b (L.take m) := by
  rw [vl_take_succ b hm, hz]; simp

/-- compared from the top: the first digit that differs decides -/
theorem vl_lt_of_top {b : Nat} (hb : 1 ≤ b) {k : Nat} : ∀ {l r : List Int}, l.length = r.length → (∀ x ∈ l, 0 ≤ x ∧ x < b) → (∀ x ∈ r, 0 ≤ x ∧ x < b) →
    l.drop (k + 1) = r.drop (k + 1) → (hl : k < l.length) → (hr : k < r.length) → l[k] < r[k] → vl b l < vl b r := by
  intro l r hlen h1 h2 hd hl hr hlt
  have e1 : l = l.take k ++ l[k] :: l.drop (k + 1) := by rw [List.getElem_cons_drop, List.take_append_drop]
  have e2 : r = r.take k ++ r[k] :: r.drop (k + 1) := by rw [List.getElem_cons_drop, List.take_append_drop]
  rw [e1, e2, vl_append, vl_append, vl, vl, hd]
  have t1 := vl_lt hb (l := l.take k) (fun x hx => h1 x (List.mem_of_mem_take hx))
  have t2 := vl_nonneg (b := b) (l := r.take k) (fun x hx => (h2 x (List.mem_of_mem_take hx)).1)
  have n1 : (l.take k).length = k := by simp; omega
  have n2 : (r.take k).length = k := by simp; omega
  rw [n1] at t1 ⊢
  rw [n2]
  have hp : (0 : Int) < (b : Int) ^ k := Int.pow_pos (by omega)
  have : (b : Int) ^ k * (l[k] + 1) ≤ (b : Int) ^ k * r[k] := Int.mul_le_mul_of_nonneg_left (by omega) (by omega)
  have e3 : (b : Int) ^ k * (l[k] + 1) = (b : Int) ^ k * l[k] + b ^ k := by grind
  have e4 : (b : Int) ^ k * (l[k] + b * vl b (r.drop (k + 1))) = (b : Int) ^ k * l[k] + b ^ k * (b * vl b (r.drop (k + 1))) := by grind
  have e5 : (b : Int) ^ k * (r[k] + b * vl b (r.drop (k + 1))) = (b : Int) ^ k * r[k] + b ^ k * (b * vl b (r.drop (k + 1))) := by grind
  omega

end Go.Proofs.YtmfplelodnoicaaGreatDoor.Dig
namespace Go.Proofs.YtmfplelodnoicaaGreatDoor
open Go.RowKit

/-- the block of v' is the block of v, or one from B on -/
def Since (B : Nat) (v v' : Value) : Prop := ∀ k, v'.ownBlock = some k → v.ownBlock = some k ∨ B ≤ k

theorem Since.refl (B : Nat) (v : Value) : Since B v v := fun _ h => .inl h
theorem Since.trans {B : Nat} {u v x : Value} (h : Since B u v) (k : Since B v x) : Since B u x := fun j hj => by
  rcases k j hj with h1 | h1
  · exact h j h1
  · exact .inr h1
theorem Since.mono {B B' : Nat} {u v : Value} (h : Since B u v) (hb : B' ≤ B) : Since B' u v := fun j hj => (h j hj).imp id (Nat.le_trans hb)

section
variable {P : Program} (w : World)

theorem run_append_row (t ty e : TypeId) (i : TypeInfo) (z : Value) (size bytes : Nat) (ht : P.underlying t = some (.slice e)) (hi : P.info? e = some i) (hz : i.zero = some z)
    (hsize : i.size = size) (hby : i.bytes = bytes) (hzs : z.cells.size = size) (hsz : 0 < size)
    (v : Value) (n : Nat) (xs : List Value) (hown : w.ownsRow 0 e size v n xs)
    (s : Value) (m : Nat) (news : List Value) (hsrc : w.ownsRow 0 e size s m news) (h1 : ∀ u ∈ news, u.oneCell' = true)
    (h63 : n + m ≤ 1000000000) (hbytes : bytes ≤ 100000) :
    ∃ a' c' w', (Builtin.append_ #[t, t] ty #[v, s]).run P w = .ok (.slice a' (n + m) c') w' ∧ w'.ownsRow 0 e size (.slice a' (n + m) c') (n + m) (xs ++ news) ∧ w.grownBy w' v.ownBlock ∧ Since w.heap.size v (.slice a' (n + m) c') := by
  have hmax : n + m ≤ maxLen := by simp only [maxLen]; omega
  have hb47 : (n + m) * bytes ≤ 140737488355328 := Nat.le_trans (Nat.mul_le_mul h63 hbytes) (by omega)
  rcases hsrc.2 with ⟨rfl, rfl⟩ | ⟨gs, cs, curs, rfl, _, hgs, _⟩
  · -- nothing to append
    have hn : news = [] := List.eq_nil_of_length_eq_zero (by simpa using hsrc.1)
    subst hn
    have hr := run_append_owned_none (P := P) w 0 t ty e i size ht hi v n xs hown
    rcases hown.2 with ⟨rfl, rfl⟩ | ⟨g, cap, cur, rfl, _⟩
    · exact ⟨none, 0, w, by simpa using hr, by simpa using hown, ⟨rfl, rfl, rfl, Nat.le_refl _, fun _ _ _ => rfl⟩, Since.refl _ _⟩
    · exact ⟨some ⟨g, 0, none⟩, cap, w, by simpa using hr, by simpa using hown, ⟨rfl, rfl, rfl, Nat.le_refl _, fun _ _ _ => rfl⟩, Since.refl _ _⟩
  · have hcells : ∀ j u, news[j]? = some u → w.cell? ((⟨gs, 0, none⟩ : Addr).add j) = some u := hsrc.cells (g := gs) rfl
    obtain ⟨v', w', hr, h2, h3, _⟩ := run_append_own (P := P) w 0 t ty e i z size bytes ht hi hz hsize hby hzs hsz v n xs hown ⟨gs, 0, none⟩ m cs news hsrc.1 hcells h1 hmax hb47 (Nat.zero_le _)
    -- which block?
    have hfr : Since w.heap.size v v' := by
      intro k hk
      subst hsize
      rcases hown.2 with ⟨rfl, rfl⟩ | ⟨g, cap, cur, rfl, hbg, hg, hnc, hcm, hcs, htake⟩
      · by_cases hm : m = 0
        · subst hm
          have hx : xs = [] := List.eq_nil_of_length_eq_zero (by simpa using hown.1)
          rcases h2.2 with ⟨rfl, _⟩ | ⟨g', cap', cur', rfl, _, hg', hnc', _⟩
          · simp [Value.ownBlock] at hk
          · have hr' : (Builtin.append_ #[t, t] ty #[.slice none 0 0, .slice (some ⟨gs, 0, none⟩) 0 cs]).run P w = .ok (.slice none 0 0) w := by
              simp [Builtin.append_, run_underlying ht, sizeOf, typeInfo, hi, Builtin.lenOf, Builtin.firstCells, loadCells, loadCellsFrom]
            rw [hr'] at hr
            simp at hr
        · rw [run_append_nil (P := P) w t ty e i z ht hi hz ⟨gs, 0, none⟩ m cs news hsrc.1 hcells (by omega) (by omega) (by rw [hby]; have := hb47; simp only [Nat.zero_add] at this; omega)] at hr
          simp only [Result.ok.injEq] at hr
          rw [← hr.1] at hk
          simp only [Value.ownBlock, Option.some.injEq] at hk
          exact .inr (by omega)
      · by_cases hroom : n + m ≤ cap
        · have hfit : n * i.size + news.length ≤ cur.size := by rw [hsrc.1, hcs, ← Nat.add_mul]; exact Nat.mul_le_mul_right _ hroom
          rw [run_append_room (P := P) w t ty e i ht hi g n cap cur hg ⟨gs, 0, none⟩ m cs news hsrc.1 hcells h1 hroom hfit] at hr
          simp only [Result.ok.injEq] at hr
          rw [← hr.1] at hk
          exact .inl hk
        · have holds : ∀ j u, xs[j]? = some u → w.cell? ((⟨g, 0, none⟩ : Addr).add j) = some u := hown.cells (g := g) rfl
          rw [run_append_grow (P := P) w t ty e i z ht hi hz ⟨g, 0, none⟩ n cap xs hown.1 holds ⟨gs, 0, none⟩ m cs news hsrc.1 hcells (by omega) (by omega) (by rw [hby]; exact growslice_fits (by omega) hb47)] at hr
          simp only [Result.ok.injEq] at hr
          rw [← hr.1] at hk
          simp only [Value.ownBlock, Option.some.injEq] at hk
          exact .inr (by omega)
    rcases h2.2 with ⟨rfl, h0⟩ | ⟨g', cap', cur', rfl, _⟩
    · have : n + m = 0 := h0
      rw [this] at h2 ⊢
      exact ⟨none, 0, w', hr, h2, h3, hfr⟩
    · exact ⟨some ⟨g', 0, none⟩, cap', w', hr, h2, h3, hfr⟩

/-- append as a step of the walk -/
theorem wpList_append_row {ops : Array Oper} {rest : List Oper} {o : Oper} {a : Act} {Q : Exit → Act → World → Prop} (hgd : o.guard = none) (s x : Operand) (t : TypeId)
    (ho : o.op = .call { callee := .builtin .append, args := #[s, x], argTypes := #[t, t] })
    (e : TypeId) (i : TypeInfo) (z : Value) (size bytes : Nat) (ht : P.underlying t = some (.slice e)) (hi : P.info? e = some i) (hz : i.zero = some z)
    (hsize : i.size = size) (hby : i.bytes = bytes) (hzs : z.cells.size = size) (hsz : 0 < size)
    (v : Value) (n : Nat) (xs : List Value) (hs : a.eval s = v) (hown : w.ownsRow 0 e size v n xs)
    (sv : Value) (m : Nat) (news : List Value) (hx : a.eval x = sv) (hsrc : w.ownsRow 0 e size sv m news) (h1 : ∀ u ∈ news, u.oneCell' = true)
    (h63 : n + m ≤ 1000000000) (hbytes : bytes ≤ 100000)
    (h : ∀ a' c' w', w'.ownsRow 0 e size (.slice a' (n + m) c') (n + m) (xs ++ news) → w.grownBy w' v.ownBlock → Since w.heap.size v (.slice a' (n + m) c') → wpList P ops Q rest (a.put o.dst (.slice a' (n + m) c')) w') : wpList P ops Q (o :: rest) a w := by
  refine wpList_plain hgd fun _ hK => ?_
  obtain ⟨a', c', w', hr, h2, h3, h4⟩ := run_append_row (P := P) w t o.type e i z size bytes ht hi hz hsize hby hzs hsz v n xs hown sv m news hsrc h1 h63 hbytes
  unfold Oper.wp execOp
  simp only [ho, resolve, invoke, builtin, Sem.run_bind, Sem.run_pure, Result.andThen_ok, List.map_toArray, List.map_cons, List.map_nil, hs, hx, hr]
  exact hK _ _ (h a' c' w' h2 h3 h4)
end

/-- a row that is an array just laid -/
theorem ownsRow_new (w : World) (cs : Array Value) (e : TypeId) (size n : Nat) (hm : n ≤ 1000000000) (hs : cs.size = n * size) :
    (w.alloc (.cells cs e)).ownsRow 0 e size (.slice (some ⟨w.heap.size, 0, none⟩) n n) n cs.toList :=
  World.ownsRow_lit (base := 0) w cs n (Nat.zero_le _) (by simp only [maxLen]; omega) hs

end Go.Proofs.YtmfplelodnoicaaGreatDoor
namespace Go.Proofs.YtmfplelodnoicaaGreatDoor
open Dig

/-- below 2^n in absolute value -/
def Bd (n : Nat) (z : Int) : Prop := z.natAbs < 2 ^ n

theorem Bd.mono {n m : Nat} {z : Int} (h : Bd n z) (hn : n ≤ m) : Bd m z := Nat.lt_of_lt_of_le h (Nat.pow_le_pow_right (by omega) hn)
theorem Bd.len_le {n k : Nat} {z : Int} (h : Bd n z) (hn : n ≤ 24 * k) : (dg 16777216 z.natAbs).length ≤ k := by
  refine dg_len_le (by omega) ?_
  refine Nat.lt_of_lt_of_le (h.mono hn) ?_
  rw [show (16777216 : Nat) = 2 ^ 24 from rfl, ← Nat.pow_mul]
  exact Nat.le_refl _
theorem Bd.len {n : Nat} {z : Int} (h : Bd n z) (hn : n ≤ 1000000) : (dg 16777216 z.natAbs).length ≤ 50000 := h.len_le (by omega)
theorem Bd.mul {n m : Nat} {x y : Int} (h : Bd n x) (k : Bd m y) : Bd (n + m) (x * y) := by
  unfold Bd at *
  rw [Int.natAbs_mul, Nat.pow_add]
  exact Nat.mul_lt_mul'' h k
theorem Bd.add {n m : Nat} {x y : Int} (h : Bd n x) (k : Bd m y) : Bd (n + m + 1) (x + y) := by
  have h1 : x.natAbs < 2 ^ (n + m) := h.mono (by omega)
  have h2 : y.natAbs < 2 ^ (n + m) := k.mono (by omega)
  unfold Bd
  rw [Nat.pow_succ]
  have := Int.natAbs_add_le x y
  omega
theorem Bd.neg {n : Nat} {x : Int} (h : Bd n x) : Bd n (-x) := by unfold Bd at *; rw [Int.natAbs_neg]; exact h
theorem Bd.abs {n : Nat} {x : Int} (h : Bd n x) : Bd n (x.natAbs : Int) := by unfold Bd at *; rw [Int.natAbs_natCast]; exact h
theorem Bd.sub {n m : Nat} {x y : Int} (h : Bd n x) (k : Bd m y) : Bd (n + m + 1) (x - y) := by rw [Int.sub_eq_add_neg]; exact h.add k.neg
theorem Bd.zero {n : Nat} : Bd n 0 := by unfold Bd; rw [Int.natAbs_zero]; exact Nat.pow_pos (by omega)
theorem Bd.gcd {n m : Nat} {x y : Int} (h : Bd n x) (k : Bd m y) : Bd (n + m) (Int.gcd x y : Int) := by
  unfold Bd
  rw [Int.natAbs_natCast]
  by_cases hx : x = 0
  · subst hx; rw [Int.gcd_zero_left]; exact k.mono (by omega)
  · exact Nat.lt_of_le_of_lt (Nat.gcd_le_left _ (by omega)) (h.mono (by omega))
theorem Bd.div {n : Nat} {x : Int} (h : Bd n x) (y : Int) : Bd n (x / y) := Nat.lt_of_le_of_lt (Int.natAbs_ediv_le_natAbs x y) h
theorem Bd.mod {n m : Nat} {x y : Int} (h : Bd n x) (k : Bd m y) : Bd (n + m) (x % y) := by
  by_cases hy : y = 0
  · subst hy; rw [Int.emod_zero]; exact h.mono (by omega)
  · have h1 := Int.emod_nonneg x hy
    have h2 := Int.emod_lt x hy
    have : y.natAbs < 2 ^ (n + m) := k.mono (by omega)
    unfold Bd
    omega
theorem Bd.i64 {k : Int} (h : -9223372036854775808 ≤ k ∧ k < 9223372036854775808) : Bd 64 k := by
  unfold Bd
  have : (2 : Nat) ^ 64 = 18446744073709551616 := rfl
  omega

/-- numerator and denominator are below 2^n -/
structure Bq (n : Nat) (q : Rat) : Prop where
  num : Bd n q.num
  den : Bd n (q.den : Int)

theorem Bq.mono {n m : Nat} {q : Rat} (h : Bq n q) (hn : n ≤ m) : Bq m q := ⟨h.num.mono hn, h.den.mono hn⟩
theorem Bd.of_le {n : Nat} {x y : Int} (h : Bd n x) (hl : y.natAbs ≤ x.natAbs) : Bd n y := Nat.lt_of_le_of_lt hl h

theorem divInt_num_le (x y : Int) : (Rat.divInt x y).num.natAbs ≤ x.natAbs := by
  rw [Rat.num_divInt]
  refine Nat.le_trans (Int.natAbs_ediv_le_natAbs _ _) ?_
  rw [Int.natAbs_mul]
  have : y.sign.natAbs ≤ 1 := by
    rcases Int.lt_trichotomy y 0 with h | h | h
    · rw [Int.sign_eq_neg_one_of_neg h]; decide
    · subst h; decide
    · rw [Int.sign_eq_one_of_pos h]; decide
  have := Nat.mul_le_mul_right x.natAbs this
  omega
theorem divInt_den_le (x : Int) {y : Int} (hy : y ≠ 0) : (Rat.divInt x y).den ≤ y.natAbs := by
  rw [Rat.den_divInt, if_neg hy]
  exact Nat.div_le_self _ _
theorem Bq.ofInt {n m k : Nat} {x y : Int} (h : Bd n x) (g : Bd m y) (hy : y ≠ 0) (h1 : n ≤ k) (h2 : m ≤ k) : Bq k (Rat.divInt x y) :=
  ⟨(h.of_le (divInt_num_le x y)).mono h1, (g.of_le (by rw [Int.natAbs_natCast]; exact divInt_den_le x hy)).mono h2⟩

theorem den_ne (q : Rat) : (q.den : Int) ≠ 0 := by have := q.den_nz; omega
theorem add_eq (a b : Rat) : a + b = Rat.divInt (a.num * b.den + b.num * a.den) (a.den * b.den) := by
  conv => lhs; rw [← Rat.num_divInt_den a, ← Rat.num_divInt_den b]
  rw [Rat.divInt_add_divInt _ _ (den_ne a) (den_ne b)]
theorem mul_eq (a b : Rat) : a * b = Rat.divInt (a.num * b.num) (a.den * b.den) := by
  conv => lhs; rw [← Rat.num_divInt_den a, ← Rat.num_divInt_den b]
  rw [Rat.divInt_mul_divInt]
theorem div_eq (a b : Rat) : a / b = Rat.divInt (a.num * b.den) (a.den * b.num) := by
  rw [Rat.div_def]
  conv => lhs; rw [← Rat.num_divInt_den a, ← Rat.num_divInt_den b]
  rw [Rat.inv_divInt, Rat.divInt_mul_divInt]
theorem Bq.add {n m : Nat} {a b : Rat} (h : Bq n a) (k : Bq m b) : Bq (2 * n + 2 * m + 1) (a + b) := by
  rw [add_eq]
  exact Bq.ofInt ((h.num.mul k.den).add (k.num.mul h.den)) (h.den.mul k.den) (Int.mul_ne_zero (den_ne a) (den_ne b)) (by omega) (by omega)
theorem Bq.mul {n m : Nat} {a b : Rat} (h : Bq n a) (k : Bq m b) : Bq (n + m) (a * b) := by
  rw [mul_eq]
  exact Bq.ofInt (h.num.mul k.num) (h.den.mul k.den) (Int.mul_ne_zero (den_ne a) (den_ne b)) (by omega) (by omega)
theorem Bq.neg {n : Nat} {a : Rat} (h : Bq n a) : Bq n (-a) := ⟨by rw [Rat.neg_num]; exact h.num.neg, by rw [Rat.neg_den]; exact h.den⟩
theorem Bq.sub {n m : Nat} {a b : Rat} (h : Bq n a) (k : Bq m b) : Bq (2 * n + 2 * m + 1) (a - b) := by rw [Rat.sub_eq_add_neg]; exact h.add k.neg
theorem Bq.div {n m : Nat} {a b : Rat} (h : Bq n a) (k : Bq m b) (hb : b ≠ 0) : Bq (n + m) (a / b) := by
  rw [div_eq]
  exact Bq.ofInt (h.num.mul k.den) (h.den.mul k.num) (Int.mul_ne_zero (den_ne a) (fun e => hb (Rat.num_eq_zero.1 e))) (by omega) (by omega)
theorem Bq.int {n : Nat} {z : Int} (h : Bd n z) : Bq (n + 1) (z : Rat) := ⟨by rw [Rat.num_intCast]; exact h.mono (by omega), by
  rw [Rat.den_intCast]; unfold Bd; rw [Nat.pow_succ]; have : 0 < 2 ^ n := Nat.pow_pos (by omega); simp; omega⟩
theorem Bq.zero {n : Nat} : Bq (n + 1) 0 := by
  have := Bq.int (n := n) (z := 0) Bd.zero
  exact this

/-- the sign of an integer, of a ratio; how two of them compare -/
def sgnQ (q : Rat) : Int := if q = 0 then 0 else if q < 0 then -1 else 1
def cmpQ (a b : Rat) : Int := if a = b then 0 else if a < b then -1 else 1

end Go.Proofs.YtmfplelodnoicaaGreatDoor
namespace Go.Proofs.YtmfplelodnoicaaGreatDoor.Dec

def dch (n : Nat) : UInt8 := UInt8.ofNat (48 + n % 10)
theorem dch_toNat (n : Nat) : (dch n).toNat = 48 + n % 10 := by
  unfold dch; rw [UInt8.toNat_ofNat']; omega
theorem dch_mod (n : Nat) : dch (n % 10) = dch n := by unfold dch; rw [Nat.mod_mod]
theorem dch_zero_iff (n : Nat) : dch n = 48 ↔ n % 10 = 0 := by
  constructor
  · intro h; have := dch_toNat n; rw [h] at this; simp at this; omega
  · intro h; unfold dch; rw [h]; rfl
theorem dch_inj {a b : Nat} (h : dch a = dch b) : a % 10 = b % 10 := by
  have h1 := dch_toNat a; have h2 := dch_toNat b; rw [h] at h1; omega

def dec (n : Nat) : List UInt8 := if _h : n < 10 then [dch n] else dec (n / 10) ++ [dch n]
termination_by n
decreasing_by omega

theorem dec_lt {n : Nat} (h : n < 10) : dec n = [dch n] := by rw [dec, dif_pos h]
theorem dec_ge {n : Nat} (h : 10 ≤ n) : dec n = dec (n / 10) ++ [dch n] := by rw [dec, dif_neg (by omega)]

def pad : Nat → Nat → List UInt8
  | 0, _ => []
  | k + 1, n => pad k (n / 10) ++ [dch n]

theorem pad_len : ∀ k n, (pad k n).length = k
  | 0, _ => rfl
  | k + 1, n => by rw [pad, List.length_append, pad_len k]; rfl

theorem pad_add : ∀ (b a n : Nat), pad (a + b) n = pad a (n / 10 ^ b) ++ pad b (n % 10 ^ b)
  | 0, a, n => by simp [pad]
  | b + 1, a, n => by
    rw [← Nat.add_assoc, pad, pad_add b a (n / 10), pad, ← List.append_assoc]
    have e1 : n / 10 / 10 ^ b = n / 10 ^ (b + 1) := by rw [Nat.div_div_eq_div_mul, Nat.pow_succ, Nat.mul_comm]
    have e2 : n % 10 ^ (b + 1) / 10 = n / 10 % 10 ^ b := by rw [Nat.pow_succ, Nat.mul_comm, Nat.mod_mul_right_div_self]
    have e3 : dch (n % 10 ^ (b + 1)) = dch n := by
      rw [← dch_mod, Nat.mod_mod_of_dvd _ ⟨10 ^ b, by rw [Nat.pow_succ, Nat.mul_comm]⟩, dch_mod]
    rw [e1, e2, e3]

def drop0 (l : List UInt8) : List UInt8 := l.dropWhile (· == 48)

theorem drop0_append_ne {l r : List UInt8} (h : drop0 l ≠ []) : drop0 (l ++ r) = drop0 l ++ r := by
  unfold drop0 at *
  induction l with
  | nil => simp at h
  | cons x l ih =>
    rw [List.cons_append, List.dropWhile_cons, List.dropWhile_cons]
    by_cases hx : (x == 48) = true
    · rw [if_pos hx, if_pos hx]; rw [List.dropWhile_cons, if_pos hx] at h; exact ih h
    · rw [if_neg hx, if_neg hx]; rfl
theorem drop0_append_nil {l r : List UInt8} (h : drop0 l = []) : drop0 (l ++ r) = drop0 r := by
  unfold drop0 at *
  induction l with
  | nil => rfl
  | cons x l ih =>
    rw [List.dropWhile_cons] at h
    by_cases hx : (x == 48) = true
    · rw [if_pos hx] at h; rw [List.cons_append, List.dropWhile_cons, if_pos hx]; exact ih h
    · rw [if_neg hx] at h; simp at h

theorem dec_ne_nil (n : Nat) : dec n ≠ [] := by
  by_cases h : n < 10
  · rw [dec_lt h]; simp
  · rw [dec_ge (by omega)]; simp

theorem drop0_pad : ∀ {k n : Nat}, n < 10 ^ k → drop0 (pad k n) = if n = 0 then [] else dec n
  | 0, n, h => by
    have : n = 0 := by simpa using h
    subst this; rfl
  | k + 1, n, h => by
    have ih := drop0_pad (k := k) (n := n / 10) (by rw [Nat.pow_succ] at h; omega)
    rw [pad]
    by_cases h0 : n / 10 = 0
    · rw [if_pos h0] at ih
      rw [drop0_append_nil ih]
      by_cases hn : n = 0
      · subst hn; rfl
      · rw [if_neg hn, dec_lt (by omega)]
        unfold drop0
        rw [List.dropWhile_cons, if_neg]
        simp only [beq_iff_eq, dch_zero_iff]
        omega
    · rw [if_neg h0] at ih
      rw [drop0_append_ne (by rw [ih]; exact dec_ne_nil _), ih, if_neg (by omega), dec_ge (n := n) (by omega)]

def isDig (c : UInt8) : Bool := decide (48 ≤ c.toNat) && decide (c.toNat ≤ 57)
theorem isDig_dch (n : Nat) : isDig (dch n) = true := by
  unfold isDig; rw [dch_toNat]; simp; omega

def val (l : List UInt8) : Nat := l.foldl (fun a c => 10 * a + (c.toNat - 48)) 0
theorem rind {α : Type} {P : List α → Prop} (h0 : P []) (hs : ∀ l a, P l → P (l ++ [a])) (l : List α) : P l := by
  rw [← List.reverse_reverse l]
  induction l.reverse with
  | nil => exact h0
  | cons a r ih => rw [List.reverse_cons]; exact hs _ _ ih
theorem val_nil : val [] = 0 := rfl
theorem val_snoc (l : List UInt8) (c : UInt8) : val (l ++ [c]) = 10 * val l + (c.toNat - 48) := by
  unfold val; rw [List.foldl_append]; rfl
theorem val_append (l r : List UInt8) : val (l ++ r) = val l * 10 ^ r.length + val r := by
  induction r using rind with
  | h0 => simp [val]
  | hs r c ih =>
    rw [← List.append_assoc, val_snoc, ih, val_snoc, List.length_append, List.length_singleton, Nat.pow_succ]
    grind

theorem val_lt {l : List UInt8} (h : ∀ c ∈ l, isDig c = true) : val l < 10 ^ l.length := by
  induction l using rind with
  | h0 => simp [val]
  | hs l c ih =>
    have h1 := ih (fun x hx => h x (by simp [hx]))
    have h2 := h c (by simp)
    unfold isDig at h2
    simp only [Bool.and_eq_true, decide_eq_true_eq] at h2
    rw [val_snoc, List.length_append, List.length_singleton, Nat.pow_succ]
    omega
theorem val_dec (n : Nat) : val (dec n) = n := by
  induction n using Nat.strongRecOn with
  | _ n ih =>
    by_cases h : n < 10
    · rw [dec_lt h]; simp only [val, List.foldl_cons, List.foldl_nil, dch_toNat]; omega
    · rw [dec_ge (by omega), val_snoc, ih _ (by omega), dch_toNat]; omega

theorem dec_len : ∀ {k n : Nat}, n < 10 ^ (k + 1) → (dec n).length ≤ k + 1
  | 0, n, h => by rw [dec_lt (by simpa using h)]; simp
  | k + 1, n, h => by
    by_cases h9 : n < 10
    · rw [dec_lt h9]; simp
    · rw [dec_ge (by omega), List.length_append, List.length_singleton]
      have := dec_len (k := k) (n := n / 10) (by rw [Nat.pow_succ] at h; omega)
      omega
theorem dec_inj {m n : Nat} (h : dec m = dec n) : m = n := by rw [← val_dec m, ← val_dec n, h]

theorem dec_dig (n : Nat) : ∀ c ∈ dec n, isDig c = true := by
  induction n using Nat.strongRecOn with
  | _ n ih =>
    by_cases h : n < 10
    · rw [dec_lt h]; simp [isDig_dch]
    · rw [dec_ge (by omega)]
      intro c hc
      rcases List.mem_append.1 hc with hc | hc
      · exact ih _ (by omega) c hc
      · rcases List.mem_singleton.1 hc with rfl; exact isDig_dch _

/-- decimal digits without needless zeros -/
def isDec (l : List UInt8) : Bool := !l.isEmpty && l.all isDig && (l.length == 1 || !(l.head? == some 48))

theorem dec_head (n : Nat) (h : n ≠ 0) : (dec n).head? ≠ some 48 := by
  induction n using Nat.strongRecOn with
  | _ n ih =>
    by_cases h9 : n < 10
    · rw [dec_lt h9]; simp only [List.head?_cons, ne_eq, Option.some.injEq, dch_zero_iff]; omega
    · rw [dec_ge (by omega), List.head?_append]
      have := ih (n / 10) (by omega) (by omega)
      cases e : (dec (n / 10)).head? with
      | none => exact absurd (List.head?_eq_none_iff.1 e) (dec_ne_nil _)
      | some x => rw [e] at this; simpa using this

theorem isDec_dec (n : Nat) : isDec (dec n) = true := by
  unfold isDec
  have h1 : (dec n).isEmpty = false := by
    cases e : dec n with
    | nil => exact absurd e (dec_ne_nil n)
    | cons => rfl
  have h2 : (dec n).all isDig = true := List.all_eq_true.2 (dec_dig n)
  rw [h1, h2]
  by_cases h : n = 0
  · subst h; rw [dec_lt (by omega)]; rfl
  · have := dec_head n h
    simp [this]

theorem dig_back {c : UInt8} (h : isDig c = true) : dch (c.toNat - 48) = c := by
  unfold isDig at h
  simp only [Bool.and_eq_true, decide_eq_true_eq] at h
  apply UInt8.toNat_inj.1
  rw [dch_toNat]; omega

theorem val_pos : ∀ {l : List UInt8}, l ≠ [] → l.all isDig = true → l.head? ≠ some 48 → 0 < val l := by
  intro l
  induction l using rind with
  | h0 => intro h; exact absurd rfl h
  | hs l c ih =>
    intro _ hd hh
    rw [val_snoc]
    rw [List.all_append, Bool.and_eq_true] at hd
    cases l with
    | nil =>
      simp only [List.nil_append, List.head?_cons, ne_eq, Option.some.injEq] at hh
      have h1 : isDig c = true := by simpa using hd.2
      unfold isDig at h1
      simp only [Bool.and_eq_true, decide_eq_true_eq] at h1
      have : c.toNat ≠ 48 := fun e => hh (UInt8.toNat_inj.1 e)
      omega
    | cons x l =>
      have := ih (by simp) hd.1 (by simpa using hh)
      omega

theorem dec_val {l : List UInt8} (h : isDec l = true) : dec (val l) = l := by
  unfold isDec at h
  simp only [Bool.and_eq_true, Bool.or_eq_true, Bool.not_eq_true', beq_iff_eq] at h
  obtain ⟨⟨h1, h2⟩, h3⟩ := h
  have key : ∀ l : List UInt8, l ≠ [] → l.all isDig = true → (l.length = 1 ∨ l.head? ≠ some 48) → dec (val l) = l := by
    intro l
    induction l using rind with
    | h0 => intro h; exact absurd rfl h
    | hs l c ih =>
      intro _ hd hh
      have hd' := hd
      rw [List.all_append, Bool.and_eq_true] at hd
      have hc : isDig c = true := by simpa using hd.2
      have hcb := dig_back hc
      have hcr : c.toNat - 48 < 10 := by
        unfold isDig at hc; simp only [Bool.and_eq_true, decide_eq_true_eq] at hc; omega
      rw [val_snoc]
      cases l with
      | nil => simp only [val_nil, List.nil_append]; rw [Nat.mul_zero, Nat.zero_add, dec_lt hcr, hcb]
      | cons x l =>
        have hne : (x :: l).head? ≠ some 48 := by
          rcases hh with hh | hh
          · simp at hh
          · simpa using hh
        have hp := val_pos (l := x :: l) (by simp) hd.1 hne
        have ih' := ih (by simp) hd.1 (.inr hne)
        rw [dec_ge (by omega)]
        have e1 : (10 * val (x :: l) + (c.toNat - 48)) / 10 = val (x :: l) := by omega
        have e2 : dch (10 * val (x :: l) + (c.toNat - 48)) = c := by
          rw [← dch_mod, show (10 * val (x :: l) + (c.toNat - 48)) % 10 = c.toNat - 48 by omega, hcb]
        rw [e1, e2, ih']
  refine key l (by intro e; subst e; simp at h1) h2 ?_
  rcases h3 with h3 | h3
  · exact .inl h3
  · refine .inr (fun e => ?_)
    rw [e] at h3; simp at h3

/-- the text of an integer -/
def ztext (z : Int) : List UInt8 := if z < 0 then 45 :: dec z.natAbs else dec z.natAbs

/-- the integer of a text, if it is one -/
def zread (l : List UInt8) : Option Int :=
  match l with
  | 45 :: r => if isDec r then some (-(val r : Int)) else none
  | l => if isDec l then some (val l) else none

theorem dec_head_ne (n : Nat) (r : List UInt8) : dec n ≠ 45 :: r := by
  intro e
  have := dec_dig n 45 (by rw [e]; simp)
  exact absurd this (by decide)

theorem zread_ztext (z : Int) : zread (ztext z) = some z := by
  unfold ztext
  by_cases h : z < 0
  · rw [if_pos h]
    simp only [zread, isDec_dec, if_true, val_dec]
    congr 1; omega
  · rw [if_neg h]
    unfold zread
    split
    · rename_i r e; exact absurd e (dec_head_ne _ _)
    · rw [if_pos (isDec_dec _), val_dec]; congr 1; omega

theorem ztext_inj {a b : Int} (h : ztext a = ztext b) : a = b := by
  have h1 := zread_ztext a; rw [h, zread_ztext b] at h1; exact (Option.some.inj h1).symm

end Go.Proofs.YtmfplelodnoicaaGreatDoor.Dec
namespace Go.Proofs.YtmfplelodnoicaaGreatDoor.Flt
open Ieee

/-- the magnitude m * 2 ^ p is 0, or below 2 ^ (K + 1) -/
def Up (m : Nat) (p K : Int) : Prop := m = 0 ∨ p + m.log2 ≤ K
/-- .. is at least 1 -/
def Lo (m : Nat) (p : Int) : Prop := m ≠ 0 ∧ 0 ≤ p + m.log2

theorem infD : double.infRung = 2047 * 4503599627370496 := by decide
theorem binD : double.binade = 4503599627370496 := by decide
theorem sgnD : double.signWeight = 9223372036854775808 := by decide
theorem leaD : double.leastPlace = -1074 := by decide
theorem fraD : double.fractionBits = 52 := rfl

theorem log2_mul_le {a b : Nat} (ha : a ≠ 0) (hb : b ≠ 0) : (a * b).log2 ≤ a.log2 + b.log2 + 1 := by
  have h1 : a * b < 2 ^ (a.log2 + 1) * 2 ^ (b.log2 + 1) := Nat.mul_lt_mul'' Nat.lt_log2_self Nat.lt_log2_self
  rw [← Nat.pow_add] at h1
  have := (Nat.log2_lt (Nat.mul_ne_zero ha hb)).2 h1
  omega

theorem log2_shl {m : Nat} (hm : m ≠ 0) (k : Nat) : (m <<< k).log2 = m.log2 + k := by
  have hne : m <<< k ≠ 0 := by rw [Nat.shiftLeft_eq]; exact Nat.mul_ne_zero hm (Nat.ne_of_gt (Nat.two_pow_pos k))
  apply Nat.le_antisymm
  · have h1 : m <<< k < 2 ^ (m.log2 + k + 1) := by
      rw [Nat.shiftLeft_eq, show m.log2 + k + 1 = (m.log2 + 1) + k by omega, Nat.pow_add]
      exact Nat.mul_lt_mul_of_pos_right Nat.lt_log2_self (Nat.two_pow_pos k)
    have := (Nat.log2_lt hne).2 h1
    omega
  · rw [Nat.le_log2 hne, Nat.shiftLeft_eq, Nat.pow_add]
    exact Nat.mul_le_mul_right _ (Nat.log2_self_le hm)

/-- what a cut keeps -/
theorem cut_le (n drop B : Nat) (h : n / 2 ^ drop < B ∨ (n.log2 + 2 < drop ∧ 0 < B)) (_ : n ≠ 0) : Toward.even.cut false n drop ≤ B := by
  unfold Toward.cut
  simp only [Nat.shiftLeft_eq, Nat.one_mul]
  have hb : ∀ b : Bool, b.toNat ≤ 1 := fun b => by cases b <;> decide
  have h1 : n / 2 ^ (min drop (n.log2 + 2)) < B := by
    rcases Nat.le_total drop (n.log2 + 2) with h' | h'
    · rw [Nat.min_eq_left h']
      rcases h with h | h
      · exact h
      · omega
    · rw [Nat.min_eq_right h']
      have : n / 2 ^ (n.log2 + 2) = 0 := Nat.div_eq_of_lt (Nat.lt_of_lt_of_le (Nat.lt_log2_self (n := n)) (Nat.pow_le_pow_right (by omega) (by omega)))
      rw [this]
      rcases h with h | h
      · exact Nat.lt_of_le_of_lt (Nat.zero_le _) h
      · exact h.2
  have h2 := hb (decide (2 ^ (min drop (n.log2 + 2)) < 2 * (n % 2 ^ (min drop (n.log2 + 2)))) || ((2 ^ (min drop (n.log2 + 2)) == 2 * (n % 2 ^ (min drop (n.log2 + 2)))) && (n / 2 ^ (min drop (n.log2 + 2)) % 2 == 1)))
  omega

theorem cut_ge (n drop B : Nat) (h : B ≤ n / 2 ^ drop) (hd : drop ≤ n.log2 + 2) : B ≤ Toward.even.cut false n drop := by
  unfold Toward.cut
  simp only [Nat.shiftLeft_eq, Nat.one_mul, Nat.min_eq_left hd]
  omega

set_option maxRecDepth 100000 in
/-- the word nearest to a number below 2 ^ (K + 1) -/
theorem near_ub (m : Nat) (p : Int) (K : Nat) (hK : K ≤ 900) (h : Up m p K) : double.nearest false m p ≤ (K + 1024) * 4503599627370496 := by
  unfold Format.nearest
  by_cases hm : m = 0
  · rw [if_pos hm]; unfold Format.word; simp
  rw [if_neg hm]
  simp only [fraD, leaD, binD, infD, Format.word, Bool.false_eq_true, if_false]
  have hL : p + m.log2 ≤ K := h.resolve_left hm
  refine Nat.le_trans (Nat.min_le_left _ _) ?_
  rcases Int.le_total (-1074) (p + m.log2 - (52 : Nat)) with hn | hn
  · -- normal
    rw [Int.max_eq_left hn]
    have key : Toward.even.cut false (m <<< (p - (p + m.log2 - (52 : Nat))).toNat) ((p + m.log2 - (52 : Nat)) - p).toNat ≤ 9007199254740992 := by
      have e1 : (p - (p + m.log2 - (52 : Nat))).toNat = 52 - m.log2 := by omega
      have e2 : ((p + m.log2 - (52 : Nat)) - p).toNat = m.log2 - 52 := by omega
      rw [e1, e2]
      refine cut_le _ _ _ (.inl ?_) (by rw [Nat.shiftLeft_eq]; exact Nat.mul_ne_zero hm (Nat.ne_of_gt (Nat.two_pow_pos _)))
      rw [Nat.div_lt_iff_lt_mul (Nat.two_pow_pos _), Nat.shiftLeft_eq, show (9007199254740992 : Nat) = 2 ^ 53 by decide, ← Nat.pow_add]
      have h1 : m * 2 ^ (52 - m.log2) < 2 ^ (m.log2 + 1) * 2 ^ (52 - m.log2) := Nat.mul_lt_mul_of_pos_right Nat.lt_log2_self (Nat.two_pow_pos _)
      rw [← Nat.pow_add] at h1
      exact Nat.lt_of_lt_of_le h1 (Nat.pow_le_pow_right (by omega) (by omega))
    have e3 : ((p + m.log2 - (52 : Nat)) - -1074).toNat ≤ K + 1022 := by omega
    have e4 := Nat.mul_le_mul_right 4503599627370496 e3
    have e5 : (K + 1022) * 4503599627370496 + 9007199254740992 = (K + 1024) * 4503599627370496 := by omega
    rw [← e5]
    exact Nat.add_le_add e4 key
  · -- subnormal
    rw [Int.max_eq_right hn]
    have key : Toward.even.cut false (m <<< (p - -1074).toNat) (-1074 - p).toNat ≤ 9007199254740992 := by
      refine cut_le _ _ _ (.inl ?_) (by rw [Nat.shiftLeft_eq]; exact Nat.mul_ne_zero hm (Nat.ne_of_gt (Nat.two_pow_pos _)))
      rw [Nat.div_lt_iff_lt_mul (Nat.two_pow_pos _), Nat.shiftLeft_eq, show (9007199254740992 : Nat) = 2 ^ 53 by decide, ← Nat.pow_add]
      have h1 : m * 2 ^ (p - -1074).toNat < 2 ^ (m.log2 + 1) * 2 ^ (p - -1074).toNat := Nat.mul_lt_mul_of_pos_right Nat.lt_log2_self (Nat.two_pow_pos _)
      rw [← Nat.pow_add] at h1
      exact Nat.lt_of_lt_of_le h1 (Nat.pow_le_pow_right (by omega) (by omega))
    have e3 : ((-1074 : Int) - -1074).toNat = 0 := by decide
    rw [e3, Nat.zero_mul, Nat.zero_add]
    exact Nat.le_trans key (Nat.mul_le_mul_right 4503599627370496 (show 2 ≤ K + 1024 by omega))

set_option maxRecDepth 100000 in
/-- .. to a number that is at least 1 -/
theorem near_lb (m : Nat) (p : Int) (h : Lo m p) (hK : p + m.log2 ≤ 900) : 1023 * 4503599627370496 ≤ double.nearest false m p := by
  unfold Format.nearest
  obtain ⟨hm, hL⟩ := h
  rw [if_neg hm]
  simp only [fraD, leaD, binD, infD, Format.word, Bool.false_eq_true, if_false]
  rw [Int.max_eq_left (by omega)]
  have key : 4503599627370496 ≤ Toward.even.cut false (m <<< (p - (p + m.log2 - (52 : Nat))).toNat) ((p + m.log2 - (52 : Nat)) - p).toNat := by
    have e1 : (p - (p + m.log2 - (52 : Nat))).toNat = 52 - m.log2 := by omega
    have e2 : ((p + m.log2 - (52 : Nat)) - p).toNat = m.log2 - 52 := by omega
    rw [e1, e2]
    refine cut_ge _ _ _ ?_ (by rw [log2_shl hm]; omega)
    rw [Nat.le_div_iff_mul_le (Nat.two_pow_pos _), Nat.shiftLeft_eq, show (4503599627370496 : Nat) = 2 ^ 52 by decide, ← Nat.pow_add]
    have h1 : 2 ^ m.log2 * 2 ^ (52 - m.log2) ≤ m * 2 ^ (52 - m.log2) := Nat.mul_le_mul_right _ (Nat.log2_self_le hm)
    rw [← Nat.pow_add] at h1
    exact Nat.le_trans (Nat.pow_le_pow_right (by omega) (by omega)) h1
  have e3 : 1022 ≤ ((p + m.log2 - (52 : Nat)) - -1074).toNat := by omega
  have e4 := Nat.mul_le_mul_right 4503599627370496 e3
  apply Nat.le_min.2
  constructor <;> omega

set_option maxRecDepth 100000 in
/-- how a word that is not too great reads -/
theorem read_ub (x K : Nat) (hK : K ≤ 900) (h : x ≤ (K + 1023) * 4503599627370496) : ∃ m p, double.read x = .number false m p ∧ Up m p K ∧ (1023 * 4503599627370496 ≤ x → Lo m p) := by
  unfold Format.read
  simp only [sgnD, binD, infD, leaD]
  have h0 : (K + 1023) * 4503599627370496 ≤ 1923 * 4503599627370496 := Nat.mul_le_mul_right _ (by omega)
  have e1 : (x / 9223372036854775808 % 2 == 1) = false := by
    rw [Nat.div_eq_of_lt (by omega)]; rfl
  have e2 : x % 9223372036854775808 = x := Nat.mod_eq_of_lt (by omega)
  rw [e1, e2]
  by_cases hx : x < 4503599627370496
  · rw [if_pos hx]
    refine ⟨x, -1074, rfl, ?_, fun h' => by omega⟩
    by_cases hz : x = 0
    · exact .inl hz
    · have : x.log2 < 52 := (Nat.log2_lt hz).2 hx
      exact .inr (by omega)
  · rw [if_neg hx, if_pos (by omega)]
    have hmod := Nat.mod_lt x (show 0 < 4503599627370496 by omega)
    have hne : 4503599627370496 + x % 4503599627370496 ≠ 0 := by omega
    have hlog : (4503599627370496 + x % 4503599627370496).log2 = 52 := by
      have h1 := (Nat.log2_lt (k := 53) hne).2 (by omega)
      have h2 := (Nat.le_log2 (k := 52) hne).2 (by omega)
      omega
    have hq : x / 4503599627370496 ≤ K + 1023 := by
      have := Nat.div_le_div_right (c := 4503599627370496) h
      rwa [Nat.mul_div_cancel _ (by omega)] at this
    refine ⟨_, _, rfl, .inr (by rw [hlog]; omega), fun h' => ⟨hne, by rw [hlog]; have := Nat.div_le_div_right (c := 4503599627370496) h'; omega⟩⟩

/-! ### the operations -/
theorem shl_ne {m : Nat} (hm : m ≠ 0) (k : Nat) : m <<< k ≠ 0 := by rw [Nat.shiftLeft_eq]; exact Nat.mul_ne_zero hm (Nat.ne_of_gt (Nat.two_pow_pos _))

theorem log2_add_le {a b k : Nat} (ha : a = 0 ∨ a.log2 ≤ k) (hb : b = 0 ∨ b.log2 ≤ k) : a + b = 0 ∨ (a + b).log2 ≤ k + 1 := by
  by_cases h : a + b = 0
  · exact .inl h
  right
  have l : ∀ c : Nat, (c = 0 ∨ c.log2 ≤ k) → c < 2 ^ (k + 1) := fun c hc => by
    rcases hc with rfl | hc
    · exact Nat.two_pow_pos _
    · exact Nat.lt_of_lt_of_le Nat.lt_log2_self (Nat.pow_le_pow_right (by omega) (by omega))
  have h1 := l a ha
  have h2 := l b hb
  have := (Nat.log2_lt (k := k + 2) h).2 (by rw [Nat.pow_succ]; omega)
  omega

theorem log2_add_ge {a b : Nat} (ha : a ≠ 0) : a.log2 ≤ (a + b).log2 :=
  (Nat.le_log2 (by omega)).2 (Nat.le_trans (Nat.log2_self_le ha) (Nat.le_add_right _ _))

theorem sum_up {m n : Nat} {i j K : Int} (h1 : Up m i K) (h2 : Up n j K) : ∃ t e, (Datum.number false m i).sum (.number false n j) = some (.number false t e) ∧ Up t e (K + 1) ∧ (Lo m i → Lo t e) := by
  refine ⟨(m <<< (i - min i j).toNat) + (n <<< (j - min i j).toNat), min i j, ?_, ?_, ?_⟩
  · simp only [Datum.sum, signed, Bool.false_eq_true, if_false, Bool.and_self]
    generalize m <<< (i - min i j).toNat = A
    generalize n <<< (j - min i j).toNat = B
    have e1 : ((A : Int) + (B : Int)).natAbs = A + B := by omega
    have e2 : decide ((A : Int) + (B : Int) < 0) = false := decide_eq_false (by omega)
    rw [e1, e2]
    simp
  · have a : m <<< (i - min i j).toNat = 0 ∨ (m <<< (i - min i j).toNat).log2 ≤ (K - min i j).toNat := by
      by_cases hm : m = 0
      · left; subst hm; simp
      · right; rw [log2_shl hm]; have := h1.resolve_left hm; omega
    have b : n <<< (j - min i j).toNat = 0 ∨ (n <<< (j - min i j).toNat).log2 ≤ (K - min i j).toNat := by
      by_cases hn : n = 0
      · left; subst hn; simp
      · right; rw [log2_shl hn]; have := h2.resolve_left hn; omega
    have hK : (m = 0 ∧ n = 0) ∨ 0 ≤ K - min i j := by
      by_cases hm : m = 0
      · by_cases hn : n = 0
        · exact .inl ⟨hm, hn⟩
        · right; have := h2.resolve_left hn; omega
      · right; have := h1.resolve_left hm; omega
    rcases hK with ⟨rfl, rfl⟩ | hK
    · left; simp
    · have c := log2_add_le a b
      generalize m <<< (i - min i j).toNat + n <<< (j - min i j).toNat = A at *
      rcases c with c | c
      · exact .inl c
      · right; omega
  · rintro ⟨hm, hl⟩
    have hne := shl_ne hm (i - min i j).toNat
    have l1 := log2_shl hm (i - min i j).toNat
    have l2 := log2_add_ge (b := n <<< (j - min i j).toNat) hne
    generalize m <<< (i - min i j).toNat = A at *
    generalize n <<< (j - min i j).toNat = B at *
    exact ⟨by omega, by omega⟩

theorem prod_up {m n : Nat} {i j K L : Int} (h1 : Up m i K) (h2 : Up n j L) : ∃ t e, (Datum.number false m i).product (.number false n j) = some (.number false t e) ∧ Up t e (K + L + 1) := by
  refine ⟨m * n, i + j, rfl, ?_⟩
  by_cases hm : m = 0
  · subst hm; left; simp
  by_cases hn : n = 0
  · subst hn; left; simp
  have a := h1.resolve_left hm
  have b := h2.resolve_left hn
  have := log2_mul_le hm hn
  right; omega

theorem quot_up {m n : Nat} {i j K : Int} (h1 : Up m i K) (h2 : n ≠ 0) : ∃ t e, (Datum.number false m i).quotient 54 (.number false n j) = some (.number false t e) ∧ Up t e (K - (j + n.log2)) := by
  refine ⟨_, _, by simp only [Datum.quotient, h2, if_false]; rfl, ?_⟩
  by_cases hm : m = 0
  · subst hm; left; simp
  have a := h1.resolve_left hm
  have hlt : (m <<< (54 + n.log2 - m.log2)) / n < 2 ^ (m.log2 + 1 + (54 + n.log2 - m.log2) - n.log2) := by
    rw [Nat.div_lt_iff_lt_mul (by omega)]
    have p1 : m <<< (54 + n.log2 - m.log2) < 2 ^ (m.log2 + 1 + (54 + n.log2 - m.log2)) := by
      rw [Nat.shiftLeft_eq, Nat.pow_add]; exact Nat.mul_lt_mul_of_pos_right Nat.lt_log2_self (Nat.two_pow_pos _)
    refine Nat.lt_of_lt_of_le p1 ?_
    have p2 : 2 ^ (m.log2 + 1 + (54 + n.log2 - m.log2) - n.log2) * 2 ^ n.log2 ≤ 2 ^ (m.log2 + 1 + (54 + n.log2 - m.log2) - n.log2) * n := Nat.mul_le_mul_left _ (Nat.log2_self_le h2)
    rw [← Nat.pow_add] at p2
    exact Nat.le_trans (Nat.pow_le_pow_right (by omega) (by omega)) p2
  have hb : ∀ b : Bool, b.toNat ≤ 1 := fun b => by cases b <;> decide
  by_cases hz : 2 * ((m <<< (54 + n.log2 - m.log2)) / n) + ((m <<< (54 + n.log2 - m.log2)) % n != 0).toNat = 0
  · exact .inl hz
  · right
    have := hb ((m <<< (54 + n.log2 - m.log2)) % n != 0)
    have p3 := (Nat.log2_lt (k := m.log2 + 1 + (54 + n.log2 - m.log2) - n.log2 + 1) hz).2 (by rw [Nat.pow_succ]; omega)
    omega

theorem toInt_up {m : Nat} {i : Int} {K : Nat} (h : Up m i K) : ∃ n : Nat, (Datum.number false m i).toInt .zero = some (n : Int) ∧ n < 2 ^ (K + 1) := by
  refine ⟨_, by simp only [Datum.toInt, Datum.integral, signed, Bool.false_eq_true, if_false, Nat.shiftLeft_zero]; rfl, ?_⟩
  unfold Toward.cut
  simp only [Nat.shiftLeft_eq, Nat.one_mul, Bool.toNat_false, Nat.add_zero]
  by_cases hm : m = 0
  · subst hm; simp; exact Nat.two_pow_pos _
  have a := h.resolve_left hm
  rw [Nat.div_lt_iff_lt_mul (Nat.two_pow_pos _), ← Nat.pow_add]
  have p1 : m * 2 ^ i.toNat < 2 ^ (m.log2 + 1 + i.toNat) := by rw [Nat.pow_add]; exact Nat.mul_lt_mul_of_pos_right Nat.lt_log2_self (Nat.two_pow_pos _)
  refine Nat.lt_of_lt_of_le p1 (Nat.pow_le_pow_right (by omega) ?_)
  have l1 := log2_shl hm i.toNat
  rw [Nat.shiftLeft_eq] at l1
  rw [l1]
  omega

end Go.Proofs.YtmfplelodnoicaaGreatDoor.Flt

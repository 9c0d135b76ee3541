/- the cheapest chains of hops, plain: what a relaxation keeps, and what holds where none is left -/
import Derived.Test.YteogibpmpppgmaaG5
namespace Go.Proofs.Yteogibpmpppgmaa

structure Hop where
  i : Nat
  k : Nat
  b : Bool
  c : Int
abbrev hop0 : Hop := ⟨0, 0, false, 0⟩
def farN : Int := 1125899906842624
/-- distances of piles and of needs, and their last hops -/
structure RS where
  d0 : List Int
  d1 : List Int
  b0 : List Hop
  b1 : List Hop
def fires (s : RS) (h : Hop) : Bool :=
  if h.b = true then decide (s.d1.getD h.k 0 < farN) && decide (s.d1.getD h.k 0 + h.c < s.d0.getD h.i 0)
  else decide (s.d0.getD h.i 0 < farN) && decide (s.d0.getD h.i 0 + h.c < s.d1.getD h.k 0)
def relax (s : RS) (h : Hop) : RS :=
  if fires s h = true then (if h.b = true then ⟨s.d0.set h.i (s.d1.getD h.k 0 + h.c), s.d1, s.b0.set h.i h, s.b1⟩ else ⟨s.d0, s.d1.set h.k (s.d0.getD h.i 0 + h.c), s.b0, s.b1.set h.k h⟩) else s

section
variable {np nn : Nat} {C X : Nat → Nat → Int} {F : Nat → Bool} {q0 q1 : Nat → Int}
/-- a hop of this yard -/
def isHop (np nn : Nat) (C X : Nat → Nat → Int) (h : Hop) : Prop := h.i < np ∧ h.k < nn ∧ (h.b = false ∧ h.c = C h.i h.k ∨ h.b = true ∧ h.c = -C h.i h.k ∧ 0 < X h.i h.k)
/-- need k climbs up to a pile where a chain begins, in so many rounds -/
def Up (s : RS) : Nat → Nat → Prop
  | 0, _ => False
  | n + 1, k => s.d1.getD k 0 < farN ∧ ((s.b0.getD (s.b1.getD k hop0).i hop0).b = false ∨ (s.b0.getD (s.b1.getD k hop0).i hop0).b = true ∧ Up s n (s.b0.getD (s.b1.getD k hop0).i hop0).k)
structure RInv (np nn : Nat) (C X : Nat → Nat → Int) (F : Nat → Bool) (q0 q1 : Nat → Int) (s : RS) : Prop where
  l0 : s.d0.length = 20
  l1 : s.d1.length = 20
  l2 : s.b0.length = 20
  l3 : s.b1.length = 20
  lo0 : ∀ i, i < np → q0 i ≤ s.d0.getD i 0
  lo1 : ∀ k, k < nn → q1 k ≤ s.d1.getD k 0
  up0 : ∀ i, i < np → s.d0.getD i 0 ≤ farN
  up1 : ∀ k, k < nn → s.d1.getD k 0 ≤ farN
  fr : ∀ i, i < np → F i = true → s.d0.getD i 0 ≤ 0
  p1 : ∀ k, k < nn → s.d1.getD k 0 < farN → isHop np nn C X (s.b1.getD k hop0) ∧ (s.b1.getD k hop0).k = k ∧ (s.b1.getD k hop0).b = false ∧ s.d0.getD (s.b1.getD k hop0).i 0 + C (s.b1.getD k hop0).i k ≤ s.d1.getD k 0
  p0 : ∀ i, i < np → (s.b0.getD i hop0).b = true → isHop np nn C X (s.b0.getD i hop0) ∧ (s.b0.getD i hop0).i = i ∧ s.d1.getD (s.b0.getD i hop0).k 0 < farN ∧ s.d1.getD (s.b0.getD i hop0).k 0 - C i (s.b0.getD i hop0).k ≤ s.d0.getD i 0
  rt : ∀ i, i < np → (s.b0.getD i hop0).b = false → s.d0.getD i 0 = if F i then 0 else farN
  ac : ∀ k, k < nn → s.d1.getD k 0 < farN → ∃ n, Up s n k
/-- q is a price that no hop undercuts -/
structure Feas (np nn : Nat) (C X : Nat → Nat → Int) (q0 q1 : Nat → Int) : Prop where
  n0 : np ≤ 20
  n1 : nn ≤ 20
  fwd : ∀ i k, i < np → k < nn → q1 k ≤ q0 i + C i k
  bwd : ∀ i k, i < np → k < nn → 0 < X i k → q0 i ≤ q1 k - C i k

theorem relax_fwd {s : RS} {h : Hop} (hb : h.b = false) (hf : fires s h = true) : relax s h = ⟨s.d0, s.d1.set h.k (s.d0.getD h.i 0 + h.c), s.b0, s.b1.set h.k h⟩ ∧ s.d0.getD h.i 0 < farN ∧ s.d0.getD h.i 0 + h.c < s.d1.getD h.k 0 := by
  refine ⟨by unfold relax; rw [if_pos hf, if_neg (by rw [hb]; decide)], ?_⟩
  unfold fires at hf
  rw [if_neg (by rw [hb]; decide), Bool.and_eq_true, decide_eq_true_eq, decide_eq_true_eq] at hf
  exact hf
theorem relax_bwd {s : RS} {h : Hop} (hb : h.b = true) (hf : fires s h = true) : relax s h = ⟨s.d0.set h.i (s.d1.getD h.k 0 + h.c), s.d1, s.b0.set h.i h, s.b1⟩ ∧ s.d1.getD h.k 0 < farN ∧ s.d1.getD h.k 0 + h.c < s.d0.getD h.i 0 := by
  refine ⟨by unfold relax; rw [if_pos hf, if_pos hb], ?_⟩
  unfold fires at hf
  rw [if_pos hb, Bool.and_eq_true, decide_eq_true_eq, decide_eq_true_eq] at hf
  exact hf
theorem relax_no {s : RS} {h : Hop} (hf : fires s h = false) : relax s h = s := by unfold relax; rw [if_neg (by rw [hf]; decide)]

theorem set1 {s : RS} (I : RInv np nn C X F q0 q1 s) (hq : Feas np nn C X q0 q1) {k : Nat} (hk : k < nn) (x : Int) (j : Nat) : (s.d1.set k x).getD j 0 = if k = j then x else s.d1.getD j 0 := getD_set' (by rw [I.l1]; exact Nat.lt_of_lt_of_le hk hq.n1)
theorem set0 {s : RS} (I : RInv np nn C X F q0 q1 s) (hq : Feas np nn C X q0 q1) {i : Nat} (hi : i < np) (x : Int) (j : Nat) : (s.d0.set i x).getD j 0 = if i = j then x else s.d0.getD j 0 := getD_set' (by rw [I.l0]; exact Nat.lt_of_lt_of_le hi hq.n0)
theorem setb1 {s : RS} (I : RInv np nn C X F q0 q1 s) (hq : Feas np nn C X q0 q1) {k : Nat} (hk : k < nn) (x : Hop) (j : Nat) : (s.b1.set k x).getD j hop0 = if k = j then x else s.b1.getD j hop0 := getD_set' (by rw [I.l3]; exact Nat.lt_of_lt_of_le hk hq.n1)
theorem setb0 {s : RS} (I : RInv np nn C X F q0 q1 s) (hq : Feas np nn C X q0 q1) {i : Nat} (hi : i < np) (x : Hop) (j : Nat) : (s.b0.set i x).getD j hop0 = if i = j then x else s.b0.getD j hop0 := getD_set' (by rw [I.l2]; exact Nat.lt_of_lt_of_le hi hq.n0)
/-- a climb that stays below a need's own height is not touched by that need's turn -/
theorem up_below1 {s : RS} (I : RInv np nn C X F q0 q1 s) (hq : Feas np nn C X q0 q1) {k : Nat} (hk : k < nn) {h : Hop} {x : Int} : ∀ n k2, k2 < nn → Up s n k2 → s.d1.getD k2 0 - q1 k2 < s.d1.getD k 0 - q1 k → Up ⟨s.d0, s.d1.set k x, s.b0, s.b1.set k h⟩ n k2 := by
  intro n
  induction n with
  | zero => intro k2 _ h0; exact h0.elim
  | succ n ih =>
    intro k2 hk2 hu hlt
    obtain ⟨hf, hu⟩ := hu
    have hne : k ≠ k2 := fun e => by subst e; omega
    obtain ⟨⟨a1, _, _⟩, _, a3, a4⟩ := I.p1 k2 hk2 hf
    refine ⟨by show (s.d1.set k x).getD k2 0 < farN; rw [set1 I hq hk, if_neg hne]; exact hf, ?_⟩
    show (s.b0.getD ((s.b1.set k h).getD k2 hop0).i hop0).b = false ∨ (s.b0.getD ((s.b1.set k h).getD k2 hop0).i hop0).b = true ∧ Up _ n (s.b0.getD ((s.b1.set k h).getD k2 hop0).i hop0).k
    rw [setb1 I hq hk, if_neg hne]
    refine hu.imp id fun ⟨hb, hu⟩ => ⟨hb, ?_⟩
    obtain ⟨⟨_, b2, b3⟩, b4, _, b6⟩ := I.p0 _ a1 hb
    refine ih _ b2 hu ?_
    have h1 := hq.fwd (s.b1.getD k2 hop0).i k2 a1 hk2
    have h2 : 0 < X (s.b1.getD k2 hop0).i (s.b0.getD (s.b1.getD k2 hop0).i hop0).k := by
      rcases b3 with ⟨h, _⟩ | ⟨_, _, h⟩
      · rw [hb] at h; cases h
      · rwa [b4] at h
    have h3 := hq.bwd _ _ a1 b2 h2
    omega
/-- .. nor by a pile's turn -/
theorem up_below0 {s : RS} (I : RInv np nn C X F q0 q1 s) (hq : Feas np nn C X q0 q1) {i : Nat} (hi : i < np) {h : Hop} {x : Int} : ∀ n k2, k2 < nn → Up s n k2 → s.d1.getD k2 0 - q1 k2 < s.d0.getD i 0 - q0 i → Up ⟨s.d0.set i x, s.d1, s.b0.set i h, s.b1⟩ n k2 := by
  intro n
  induction n with
  | zero => intro k2 _ h0; exact h0.elim
  | succ n ih =>
    intro k2 hk2 hu hlt
    obtain ⟨hf, hu⟩ := hu
    obtain ⟨⟨a1, _, _⟩, _, a3, a4⟩ := I.p1 k2 hk2 hf
    have h1 := hq.fwd (s.b1.getD k2 hop0).i k2 a1 hk2
    have hne : i ≠ (s.b1.getD k2 hop0).i := fun e => by rw [← e] at a4 h1; omega
    refine ⟨hf, ?_⟩
    show ((s.b0.set i h).getD (s.b1.getD k2 hop0).i hop0).b = false ∨ ((s.b0.set i h).getD (s.b1.getD k2 hop0).i hop0).b = true ∧ Up _ n ((s.b0.set i h).getD (s.b1.getD k2 hop0).i hop0).k
    rw [setb0 I hq hi, if_neg hne]
    refine hu.imp id fun ⟨hb, hu⟩ => ⟨hb, ?_⟩
    obtain ⟨⟨_, b2, b3⟩, b4, _, b6⟩ := I.p0 _ a1 hb
    refine ih _ b2 hu ?_
    have h2 : 0 < X (s.b1.getD k2 hop0).i (s.b0.getD (s.b1.getD k2 hop0).i hop0).k := by
      rcases b3 with ⟨h, _⟩ | ⟨_, _, h⟩
      · rw [hb] at h; cases h
      · rwa [b4] at h
    have h3 := hq.bwd _ _ a1 b2 h2
    omega
theorem relax_inv {s : RS} (I : RInv np nn C X F q0 q1 s) (hq : Feas np nn C X q0 q1) {h : Hop} (hh : isHop np nn C X h) : RInv np nn C X F q0 q1 (relax s h) := by
  cases hf : fires s h with
  | false => rw [relax_no hf]; exact I
  | true =>
    obtain ⟨hi, hk, hc⟩ := hh
    cases hb : h.b with
    | false =>
      have hc' : h.c = C h.i h.k := by
        rcases hc with ⟨_, e⟩ | ⟨e, _⟩
        · exact e
        · rw [hb] at e; cases e
      obtain ⟨e, f1, f2⟩ := relax_fwd hb hf
      rw [e]
      have hlow := hq.fwd h.i h.k hi hk
      have hli := I.lo0 h.i hi
      have hupk := I.up1 h.k hk
      have g1 := set1 I hq hk (s.d0.getD h.i 0 + h.c)
      have gb := setb1 I hq hk h
      -- the need's own climb
      have hown : ∃ n, Up ⟨s.d0, s.d1.set h.k (s.d0.getD h.i 0 + h.c), s.b0, s.b1.set h.k h⟩ n h.k := by
        cases hbi : (s.b0.getD h.i hop0).b with
        | false =>
          refine ⟨1, by show (s.d1.set h.k _).getD h.k 0 < farN; rw [g1, if_pos rfl]; omega, .inl ?_⟩
          show (s.b0.getD ((s.b1.set h.k h).getD h.k hop0).i hop0).b = false
          rw [gb, if_pos rfl]; exact hbi
        | true =>
          obtain ⟨⟨_, b2, b3⟩, b4, b5, b6⟩ := I.p0 h.i hi hbi
          obtain ⟨n, hn⟩ := I.ac _ b2 b5
          have h2 : 0 < X h.i (s.b0.getD h.i hop0).k := by
            rcases b3 with ⟨h, _⟩ | ⟨_, _, h⟩
            · rw [hbi] at h; cases h
            · rwa [b4] at h
          have h3 := hq.bwd _ _ hi b2 h2
          have hu := up_below1 I hq hk (h := h) (x := s.d0.getD h.i 0 + h.c) n _ b2 hn (by omega)
          refine ⟨n + 1, by show (s.d1.set h.k _).getD h.k 0 < farN; rw [g1, if_pos rfl]; omega, .inr ?_⟩
          show (s.b0.getD ((s.b1.set h.k h).getD h.k hop0).i hop0).b = true ∧ Up _ n (s.b0.getD ((s.b1.set h.k h).getD h.k hop0).i hop0).k
          rw [gb, if_pos rfl]; exact ⟨hbi, hu⟩
      obtain ⟨no, hno⟩ := hown
      have hall : ∀ n k2, k2 < nn → Up s n k2 → ∃ m, Up ⟨s.d0, s.d1.set h.k (s.d0.getD h.i 0 + h.c), s.b0, s.b1.set h.k h⟩ m k2 := by
        intro n
        induction n with
        | zero => intro k2 _ h0; exact h0.elim
        | succ n ih =>
          intro k2 hk2 hu
          by_cases hne : h.k = k2
          · rw [← hne]; exact ⟨no, hno⟩
          · obtain ⟨u1, u2⟩ := hu
            obtain ⟨⟨a1, _, _⟩, _, _, _⟩ := I.p1 k2 hk2 u1
            have hd : (s.d1.set h.k (s.d0.getD h.i 0 + h.c)).getD k2 0 < farN := by rw [g1, if_neg hne]; exact u1
            have hbb : (s.b1.set h.k h).getD k2 hop0 = s.b1.getD k2 hop0 := by rw [gb, if_neg hne]
            rcases u2 with u2 | ⟨u2, u3⟩
            · refine ⟨1, hd, .inl ?_⟩
              show (s.b0.getD ((s.b1.set h.k h).getD k2 hop0).i hop0).b = false
              rw [hbb]; exact u2
            · obtain ⟨⟨_, b2, _⟩, _, _, _⟩ := I.p0 _ a1 u2
              obtain ⟨m, hm⟩ := ih _ b2 u3
              refine ⟨m + 1, hd, .inr ?_⟩
              show (s.b0.getD ((s.b1.set h.k h).getD k2 hop0).i hop0).b = true ∧ Up _ m (s.b0.getD ((s.b1.set h.k h).getD k2 hop0).i hop0).k
              rw [hbb]; exact ⟨u2, hm⟩
      refine ⟨I.l0, by show (s.d1.set _ _).length = 20; rw [List.length_set]; exact I.l1, I.l2, by show (s.b1.set _ _).length = 20; rw [List.length_set]; exact I.l3, I.lo0, fun k hk2 => ?_, I.up0, fun k hk2 => ?_, I.fr, fun k hk2 hfk => ?_, fun i hi2 hbi => ?_, I.rt, fun k hk2 hfk => ?_⟩
      · show q1 k ≤ (s.d1.set _ _).getD k 0
        rw [g1]
        by_cases e : h.k = k
        · rw [if_pos e]; subst e; omega
        · rw [if_neg e]; exact I.lo1 k hk2
      · show (s.d1.set _ _).getD k 0 ≤ farN
        rw [g1]
        by_cases e : h.k = k
        · rw [if_pos e]; omega
        · rw [if_neg e]; exact I.up1 k hk2
      · show isHop np nn C X ((s.b1.set h.k h).getD k hop0) ∧ ((s.b1.set h.k h).getD k hop0).k = k ∧ ((s.b1.set h.k h).getD k hop0).b = false ∧ s.d0.getD ((s.b1.set h.k h).getD k hop0).i 0 + C ((s.b1.set h.k h).getD k hop0).i k ≤ (s.d1.set _ _).getD k 0
        have hfk' : (s.d1.set h.k (s.d0.getD h.i 0 + h.c)).getD k 0 < farN := hfk
        rw [g1] at hfk' ⊢
        rw [gb]
        by_cases e : h.k = k
        · rw [if_pos e, if_pos e]
          subst e
          exact ⟨⟨hi, hk, .inl ⟨hb, hc'⟩⟩, rfl, hb, by omega⟩
        · rw [if_neg e] at hfk'
          rw [if_neg e, if_neg e]
          exact I.p1 k hk2 hfk'
      · obtain ⟨b1, b4, b5, b6⟩ := I.p0 i hi2 hbi
        refine ⟨b1, b4, ?_, ?_⟩
        · show (s.d1.set _ _).getD (s.b0.getD i hop0).k 0 < farN
          rw [g1]
          by_cases e : h.k = (s.b0.getD i hop0).k
          · rw [if_pos e]; omega
          · rw [if_neg e]; exact b5
        · show (s.d1.set _ _).getD (s.b0.getD i hop0).k 0 - C i (s.b0.getD i hop0).k ≤ s.d0.getD i 0
          rw [g1]
          by_cases e : h.k = (s.b0.getD i hop0).k
          · rw [if_pos e, ← e]; rw [← e] at b6; omega
          · rw [if_neg e]; exact b6
      · have hfk' : (s.d1.set h.k (s.d0.getD h.i 0 + h.c)).getD k 0 < farN := hfk
        rw [g1] at hfk'
        by_cases e : h.k = k
        · rw [← e]; exact ⟨no, hno⟩
        · rw [if_neg e] at hfk'
          obtain ⟨n, hn⟩ := I.ac k hk2 hfk'
          exact hall n k hk2 hn
    | true =>
      have hc' : h.c = -C h.i h.k ∧ 0 < X h.i h.k := by
        rcases hc with ⟨e, _⟩ | ⟨_, e⟩
        · rw [hb] at e; cases e
        · exact e
      obtain ⟨e, f1, f2⟩ := relax_bwd hb hf
      rw [e]
      have hlow := hq.bwd h.i h.k hi hk hc'.2
      have hlk := I.lo1 h.k hk
      have hupi := I.up0 h.i hi
      have g0 := set0 I hq hi (s.d1.getD h.k 0 + h.c)
      have gb := setb0 I hq hi h
      obtain ⟨nk, hnk⟩ := I.ac h.k hk f1
      have hown := up_below0 I hq hi (h := h) (x := s.d1.getD h.k 0 + h.c) nk h.k hk hnk (by omega)
      have hall : ∀ n k2, k2 < nn → Up s n k2 → ∃ m, Up ⟨s.d0.set h.i (s.d1.getD h.k 0 + h.c), s.d1, s.b0.set h.i h, s.b1⟩ m k2 := by
        intro n
        induction n with
        | zero => intro k2 _ h0; exact h0.elim
        | succ n ih =>
          intro k2 hk2 hu
          obtain ⟨u1, u2⟩ := hu
          obtain ⟨⟨a1, _, _⟩, _, _, _⟩ := I.p1 k2 hk2 u1
          by_cases hne : h.i = (s.b1.getD k2 hop0).i
          · refine ⟨nk + 1, u1, .inr ?_⟩
            show ((s.b0.set h.i h).getD (s.b1.getD k2 hop0).i hop0).b = true ∧ Up _ nk ((s.b0.set h.i h).getD (s.b1.getD k2 hop0).i hop0).k
            rw [gb, if_pos hne]
            exact ⟨hb, hown⟩
          · have hbb : (s.b0.set h.i h).getD (s.b1.getD k2 hop0).i hop0 = s.b0.getD (s.b1.getD k2 hop0).i hop0 := by rw [gb, if_neg hne]
            rcases u2 with u2 | ⟨u2, u3⟩
            · refine ⟨1, u1, .inl ?_⟩
              show ((s.b0.set h.i h).getD (s.b1.getD k2 hop0).i hop0).b = false
              rw [hbb]; exact u2
            · obtain ⟨⟨_, b2, _⟩, _, _, _⟩ := I.p0 _ a1 u2
              obtain ⟨m, hm⟩ := ih _ b2 u3
              refine ⟨m + 1, u1, .inr ?_⟩
              show ((s.b0.set h.i h).getD (s.b1.getD k2 hop0).i hop0).b = true ∧ Up _ m ((s.b0.set h.i h).getD (s.b1.getD k2 hop0).i hop0).k
              rw [hbb]; exact ⟨u2, hm⟩
      refine ⟨by show (s.d0.set _ _).length = 20; rw [List.length_set]; exact I.l0, I.l1, by show (s.b0.set _ _).length = 20; rw [List.length_set]; exact I.l2, I.l3, fun i hi2 => ?_, I.lo1, fun i hi2 => ?_, I.up1, fun i hi2 hfi => ?_, fun k hk2 hfk => ?_, fun i hi2 hbi => ?_, fun i hi2 hbi => ?_, fun k hk2 hfk => ?_⟩
      · show q0 i ≤ (s.d0.set _ _).getD i 0
        rw [g0]
        by_cases e : h.i = i
        · rw [if_pos e]; subst e; omega
        · rw [if_neg e]; exact I.lo0 i hi2
      · show (s.d0.set _ _).getD i 0 ≤ farN
        rw [g0]
        by_cases e : h.i = i
        · rw [if_pos e]; omega
        · rw [if_neg e]; exact I.up0 i hi2
      · show (s.d0.set _ _).getD i 0 ≤ 0
        rw [g0]
        by_cases e : h.i = i
        · rw [if_pos e]; subst e; have := I.fr _ hi2 hfi; omega
        · rw [if_neg e]; exact I.fr i hi2 hfi
      · obtain ⟨a1, a2, a3, a4⟩ := I.p1 k hk2 hfk
        refine ⟨a1, a2, a3, ?_⟩
        show (s.d0.set _ _).getD (s.b1.getD k hop0).i 0 + C (s.b1.getD k hop0).i k ≤ s.d1.getD k 0
        rw [g0]
        by_cases e : h.i = (s.b1.getD k hop0).i
        · rw [if_pos e, ← e]; rw [← e] at a4; omega
        · rw [if_neg e]; exact a4
      · show isHop np nn C X ((s.b0.set h.i h).getD i hop0) ∧ ((s.b0.set h.i h).getD i hop0).i = i ∧ s.d1.getD ((s.b0.set h.i h).getD i hop0).k 0 < farN ∧ s.d1.getD ((s.b0.set h.i h).getD i hop0).k 0 - C i ((s.b0.set h.i h).getD i hop0).k ≤ (s.d0.set _ _).getD i 0
        have hbi' : ((s.b0.set h.i h).getD i hop0).b = true := hbi
        rw [gb] at hbi' ⊢
        rw [g0]
        by_cases e : h.i = i
        · rw [if_pos e, if_pos e]
          subst e
          exact ⟨⟨hi, hk, .inr ⟨hb, hc'⟩⟩, rfl, f1, by omega⟩
        · rw [if_neg e] at hbi'
          rw [if_neg e, if_neg e]
          exact I.p0 i hi2 hbi'
      · show (s.d0.set _ _).getD i 0 = if F i then 0 else farN
        have hbi' : ((s.b0.set h.i h).getD i hop0).b = false := hbi
        rw [gb] at hbi'
        by_cases e : h.i = i
        · rw [if_pos e, hb] at hbi'; cases hbi'
        · rw [if_neg e] at hbi'
          rw [g0, if_neg e]
          exact I.rt i hi2 hbi'
      · obtain ⟨n, hn⟩ := I.ac k hk2 hfk
        exact hall n k hk2 hn

/-- how far the distances lie above the price: every relaxation lowers it -/
def rsum (f : Nat → Int) : Nat → Int
  | 0 => 0
  | n + 1 => rsum f n + f n
theorem rsum_congr {f g : Nat → Int} : ∀ n, (∀ i, i < n → f i = g i) → rsum f n = rsum g n
  | 0, _ => rfl
  | n + 1, h => by unfold rsum; rw [rsum_congr n fun i hi => h i (by omega), h n (by omega)]
theorem rsum_one {f g : Nat → Int} {j : Nat} : ∀ n, j < n → (∀ i, i < n → i ≠ j → f i = g i) → rsum f n = rsum g n + (f j - g j)
  | 0, h, _ => absurd h (Nat.not_lt_zero _)
  | n + 1, h, hfg => by
    unfold rsum
    by_cases e : j = n
    · subst e
      rw [rsum_congr j fun i hi => hfg i (by omega) (by omega)]; omega
    · rw [rsum_one n (by omega) fun i hi => hfg i (by omega), hfg n (by omega) (by omega)]; omega
theorem rsum_nonneg {f : Nat → Int} : ∀ n, (∀ i, i < n → 0 ≤ f i) → 0 ≤ rsum f n
  | 0, _ => Int.le_refl _
  | n + 1, h => by have := rsum_nonneg n fun i hi => h i (by omega); have := h n (by omega); unfold rsum; omega
theorem rsum_le {f g : Nat → Int} : ∀ n, (∀ i, i < n → f i ≤ g i) → rsum f n ≤ rsum g n
  | 0, _ => Int.le_refl _
  | n + 1, h => by have := rsum_le n fun i hi => h i (by omega); have := h n (by omega); unfold rsum; omega
theorem rsum_add (f g : Nat → Int) : ∀ n, rsum (fun i => f i + g i) n = rsum f n + rsum g n
  | 0 => rfl
  | n + 1 => by unfold rsum; rw [rsum_add f g n]; omega
theorem rsum_sub (f g : Nat → Int) : ∀ n, rsum (fun i => f i - g i) n = rsum f n - rsum g n
  | 0 => rfl
  | n + 1 => by unfold rsum; rw [rsum_sub f g n]; omega
theorem rsum_mul (c : Int) (f : Nat → Int) : ∀ n, rsum (fun i => c * f i) n = c * rsum f n
  | 0 => by simp [rsum]
  | n + 1 => by unfold rsum; rw [rsum_mul c f n, Int.mul_add]
theorem rsum_zero : ∀ n, rsum (fun _ => 0) n = 0
  | 0 => rfl
  | n + 1 => by unfold rsum; rw [rsum_zero n]; rfl
theorem rsum_swap (f : Nat → Nat → Int) (m : Nat) : ∀ n, rsum (fun i => rsum (fun k => f i k) m) n = rsum (fun k => rsum (fun i => f i k) n) m
  | 0 => (rsum_zero m).symm
  | n + 1 => by
    show rsum (fun i => rsum (fun k => f i k) m) n + rsum (fun k => f n k) m = _
    rw [rsum_swap f m n, ← rsum_add]; rfl
def height (np nn : Nat) (q0 q1 : Nat → Int) (s : RS) : Nat := (rsum (fun i => s.d0.getD i 0 - q0 i) np + rsum (fun k => s.d1.getD k 0 - q1 k) nn).toNat
theorem height_int {s : RS} (I : RInv np nn C X F q0 q1 s) : ((height np nn q0 q1 s : Nat) : Int) = rsum (fun i => s.d0.getD i 0 - q0 i) np + rsum (fun k => s.d1.getD k 0 - q1 k) nn := by
  have h1 := rsum_nonneg (f := fun i => s.d0.getD i 0 - q0 i) np fun i hi => by have := I.lo0 i hi; omega
  have h2 := rsum_nonneg (f := fun k => s.d1.getD k 0 - q1 k) nn fun k hk => by have := I.lo1 k hk; omega
  unfold height
  omega
theorem relax_less {s : RS} (I : RInv np nn C X F q0 q1 s) (hq : Feas np nn C X q0 q1) {h : Hop} (hh : isHop np nn C X h) (hf : fires s h = true) : height np nn q0 q1 (relax s h) < height np nn q0 q1 s := by
  have I2 := relax_inv I hq hh
  have e1 := height_int I
  have e2 := height_int I2
  suffices rsum (fun i => (relax s h).d0.getD i 0 - q0 i) np + rsum (fun k => (relax s h).d1.getD k 0 - q1 k) nn < rsum (fun i => s.d0.getD i 0 - q0 i) np + rsum (fun k => s.d1.getD k 0 - q1 k) nn by omega
  obtain ⟨hi, hk, _⟩ := hh
  cases hb : h.b with
  | false =>
    obtain ⟨e, f1, f2⟩ := relax_fwd hb hf
    rw [e]
    have g1 := set1 I hq hk (s.d0.getD h.i 0 + h.c)
    have := rsum_one (f := fun k => (s.d1.set h.k (s.d0.getD h.i 0 + h.c)).getD k 0 - q1 k) (g := fun k => s.d1.getD k 0 - q1 k) nn hk fun k _ hne => by
      show _ - _ = _
      rw [g1, if_neg (fun e => hne e.symm)]
    simp only [g1, if_pos] at this ⊢
    omega
  | true =>
    obtain ⟨e, f1, f2⟩ := relax_bwd hb hf
    rw [e]
    have g1 := set0 I hq hi (s.d1.getD h.k 0 + h.c)
    have := rsum_one (f := fun k => (s.d0.set h.i (s.d1.getD h.k 0 + h.c)).getD k 0 - q0 k) (g := fun k => s.d0.getD k 0 - q0 k) np hi fun k _ hne => by
      show _ - _ = _
      rw [g1, if_neg (fun e => hne e.symm)]
    simp only [g1, if_pos] at this ⊢
    omega
end

end Go.Proofs.Yteogibpmpppgmaa

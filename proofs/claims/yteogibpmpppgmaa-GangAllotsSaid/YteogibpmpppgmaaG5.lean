/- the allotment of frames, plain -/
import Derived.Test.YteogibpmpppgmaaG3
namespace Go.Proofs.Yteogibpmpppgmaa

theorem all_in_len : ∀ (n : Nat) (S : List Nat), (∀ m, m < n → m ∈ S) → n ≤ S.length
  | 0, _, _ => Nat.zero_le _
  | n + 1, S, h => by
    have h1 := h n (by omega)
    have h2 := all_in_len n (S.erase n) fun m hm => (List.mem_erase_of_ne (by omega)).2 (h m (by omega))
    rw [List.length_erase_of_mem h1] at h2
    have := List.length_pos_of_mem h1
    omega
theorem nodup_lt_len : ∀ (N : Nat) (S : List Nat), S.Nodup → (∀ m ∈ S, m < N) → S.length ≤ N
  | 0, S, _, h => by
    cases S with
    | nil => exact Nat.le_refl _
    | cons x S => exact absurd (h x (List.mem_cons_self ..)) (Nat.not_lt_zero _)
  | N + 1, S, hn, h => by
    have h2 := nodup_lt_len N (S.erase N) (hn.erase N) fun m hm => by
      have h3 := h m (List.mem_of_mem_erase hm)
      have h4 : m ≠ N := fun e => by subst e; exact (List.Nodup.not_mem_erase hn) hm
      omega
    by_cases h1 : N ∈ S
    · rw [List.length_erase_of_mem h1] at h2; omega
    · rw [List.erase_of_not_mem h1] at h2; omega
theorem nodup_full {N : Nat} {S : List Nat} (hn : S.Nodup) (h : ∀ m ∈ S, m < N) (hl : N ≤ S.length) (h0 : 0 < N) : N - 1 ∈ S := by
  by_cases h1 : N - 1 ∈ S
  · exact h1
  · have := nodup_lt_len (N - 1) S hn fun m hm => by
      have := h m hm
      have : m ≠ N - 1 := fun e => h1 (e ▸ hm)
      omega
    omega

/-- a use: from, to -/
abbrev Us := Int × Int
def goodUse (u : Us) : Prop := 0 ≤ u.1 ∧ u.2 ≤ 100000 ∧ u.1 < u.2
def meetsB (u o : Us) : Bool := decide (u.1 < o.2) && decide (o.1 < u.2)
def hasDay (d : Int) (u : Us) : Bool := decide (u.1 ≤ d) && decide (d < u.2)
def onB (l : List Us) (d : Int) : Nat := l.countP (hasDay d)
abbrev at0 (l : List Us) (k : Nat) : Us := l.getD k (0, 0)
/-- is the number m taken by one that meets use i? -/
def takenB (l : List Us) (nums : List Int) (i m : Nat) : Bool := (List.range l.length).any fun k => decide (nums.getD k (-1) = (m : Int)) && meetsB (at0 l k) (at0 l i)
def numFor (l : List Us) (nums : List Int) (i : Nat) : Nat := ((List.range (l.length + 1)).find? fun m => !takenB l nums i m).getD 0
/-- one use more: numbers, how many pairs, the day -/
def allotStep (l : List Us) (s : List Int × Int × Int) (i : Nat) : List Int × Int × Int :=
  (s.1.set i (numFor l s.1 i : Int), if (numFor l s.1 i : Int) = s.2.1 then (s.2.1 + 1, (at0 l i).1) else s.2)
def allotRun (l : List Us) (order : List Nat) : List Int × Int × Int := order.foldl (allotStep l) (List.replicate l.length (-1), 0, 0)
def before (l : List Us) (i k : Nat) : Prop := (at0 l i).1 < (at0 l k).1 ∨ (at0 l i).1 = (at0 l k).1 ∧ i < k
def InOrder (l : List Us) (order : List Nat) : Prop := order.Perm (List.range l.length) ∧ order.Pairwise (before l)

section
variable {l : List Us}
theorem taken_iff {nums : List Int} {i m : Nat} : takenB l nums i m = true ↔ ∃ k, k < l.length ∧ nums.getD k (-1) = (m : Int) ∧ meetsB (at0 l k) (at0 l i) = true := by
  unfold takenB
  rw [List.any_eq_true]
  constructor
  · rintro ⟨k, hk, h⟩
    rw [Bool.and_eq_true, decide_eq_true_eq] at h
    exact ⟨k, List.mem_range.1 hk, h.1, h.2⟩
  · rintro ⟨k, hk, h1, h2⟩
    exact ⟨k, List.mem_range.2 hk, by rw [Bool.and_eq_true, decide_eq_true_eq]; exact ⟨h1, h2⟩⟩
theorem find_range {p : Nat → Bool} {n : Nat} (h : ∃ m, m < n ∧ p m = true) : ∃ m, (List.range n).find? p = some m ∧ p m = true ∧ m < n ∧ ∀ k, k < m → p k = false := by
  obtain ⟨m0, h1, h2⟩ := h
  cases hf : (List.range n).find? p with
  | none => exact absurd h2 (by simpa using List.find?_eq_none.1 hf m0 (List.mem_range.2 h1))
  | some m =>
    refine ⟨m, rfl, List.find?_some hf, List.mem_range.1 (List.mem_of_find?_eq_some hf), fun k hk => ?_⟩
    obtain ⟨_, as, bs, e, hno⟩ := List.find?_eq_some_iff_append.1 hf
    have hk2 : k ∈ as := by
      have hmn := List.mem_range.1 (List.mem_of_find?_eq_some hf)
      have hkn : k ∈ List.range n := List.mem_range.2 (by omega)
      rw [e] at hkn
      rcases List.mem_append.1 hkn with h3 | h3
      · exact h3
      · exfalso
        have hs : (as ++ m :: bs).Pairwise (· < ·) := e ▸ List.pairwise_lt_range
        rcases List.mem_cons.1 h3 with h4 | h4
        · omega
        · have := (List.pairwise_cons.1 (List.pairwise_append.1 hs).2.1).1 k h4
          omega
    simpa using hno k hk2
/-- the number: none lesser is free, it is free -/
theorem numFor_spec (nums : List Int) (i : Nat) : (∀ m, m < numFor l nums i → takenB l nums i m = true) ∧ takenB l nums i (numFor l nums i) = false ∧ numFor l nums i ≤ l.length := by
  have hex : ∃ m, m < l.length + 1 ∧ (!takenB l nums i m) = true := by
    apply Classical.byContradiction
    intro hno
    have hall : ∀ m, m < l.length + 1 → m ∈ (List.range l.length).map fun k => (nums.getD k (-1)).toNat := by
      intro m hm
      have h1 : takenB l nums i m = true := by
        cases h : takenB l nums i m with
        | true => rfl
        | false => exact absurd ⟨m, hm, by rw [h]; rfl⟩ hno
      obtain ⟨k, hk, e, _⟩ := taken_iff.1 h1
      exact List.mem_map.2 ⟨k, List.mem_range.2 hk, by rw [e]; exact Int.toNat_natCast m⟩
    have := all_in_len _ _ hall
    rw [List.length_map, List.length_range] at this
    omega
  obtain ⟨m, h1, h2, h3, h4⟩ := find_range hex
  unfold numFor
  rw [h1]
  exact ⟨fun k hk => by simpa using h4 k hk, by simpa using h2, by show m ≤ _; omega⟩
theorem numFor_eq {nums : List Int} {i m : Nat} (h1 : ∀ k, k < m → takenB l nums i k = true) (h2 : takenB l nums i m = false) : numFor l nums i = m := by
  obtain ⟨h3, h4, _⟩ := numFor_spec (l := l) nums i
  rcases Nat.lt_trichotomy (numFor l nums i) m with h | h | h
  · rw [h1 _ h] at h4; cases h4
  · exact h
  · rw [h3 _ h] at h2; cases h2
theorem allot_snoc (order : List Nat) (i : Nat) : allotRun l (order ++ [i]) = allotStep l (allotRun l order) i := by unfold allotRun; rw [List.foldl_append]; rfl
theorem allot_len (order : List Nat) : (allotRun l order).1.length = l.length := by
  suffices ∀ (o : List Nat) (s : List Int × Int × Int), (o.foldl (allotStep l) s).1.length = s.1.length from (this order (List.replicate l.length (-1), 0, 0)).trans List.length_replicate
  intro o
  induction o with
  | nil => intro s; rfl
  | cons i o ih => intro s; rw [List.foldl_cons, ih]; exact List.length_set
theorem getD_set' {α : Type} {l : List α} {i j : Nat} {x d : α} (hi : i < l.length) : (l.set i x).getD j d = if i = j then x else l.getD j d := by
  rw [List.getD_eq_getElem?_getD, List.getElem?_set]
  by_cases e : i = j
  · rw [if_pos e, if_pos e, if_pos hi]; rfl
  · rw [if_neg e, if_neg e, List.getD_eq_getElem?_getD]
theorem meets_symm (a b : Us) : meetsB a b = meetsB b a := by unfold meetsB; rw [Bool.and_comm]
theorem meets_day {a b : Us} {d : Int} (ha : hasDay d a = true) (hb : hasDay d b = true) : meetsB a b = true := by
  unfold hasDay at ha hb
  unfold meetsB
  simp only [Bool.and_eq_true, decide_eq_true_eq] at ha hb ⊢
  omega

/-- what holds between two uses: P have got their numbers -/
structure AllotI (l : List Us) (P : List Nat) (s : List Int × Int × Int) : Prop where
  un : ∀ k, k ∉ P → s.1.getD k (-1) = -1
  as : ∀ k, k ∈ P → ∃ m : Nat, s.1.getD k (-1) = (m : Int) ∧ (m : Int) < s.2.1
  ok : ∀ i k, i ∈ P → k ∈ P → i ≠ k → meetsB (at0 l i) (at0 l k) = true → s.1.getD i (-1) ≠ s.1.getD k (-1)
  n0 : 0 ≤ s.2.1
  z : P = [] → s.2 = (0, 0)
  /-- the use that wanted the last pair, its day, and that none before it did -/
  d : P ≠ [] → ∃ j, ∃ h : j < P.length, 0 < s.2.1 ∧ s.1.getD P[j] (-1) = s.2.1 - 1 ∧ s.2.2 = (at0 l P[j]).1 ∧ (∀ t (ht : t < j), s.1.getD (P[t]'(by omega)) (-1) < s.2.1 - 1) ∧ s.2.1 ≤ onB l (at0 l P[j]).1
theorem onB_filter (d : Int) : onB l d = ((List.range l.length).filter fun k => hasDay d (at0 l k)).length := by
  unfold onB
  rw [← List.countP_eq_length_filter]
  have : l = (List.range l.length).map (at0 l) := by
    refine List.ext_getElem (by simp) fun i h1 h2 => ?_
    rw [List.getElem_map, List.getElem_range]
    show l[i] = l.getD i (0, 0)
    rw [List.getD_eq_getElem?_getD, List.getElem?_eq_getElem h1]; rfl
  conv => lhs; rw [this]
  rw [List.countP_map]
  rfl
theorem allot_inv {order : List Nat} (hg : ∀ u ∈ l, goodUse u) (hm : ∀ i ∈ order, i < l.length) (hn : order.Nodup) (hs : order.Pairwise (before l)) : ∀ t, t ≤ order.length → AllotI l (order.take t) (allotRun l (order.take t)) := by
  intro t
  induction t with
  | zero =>
    intro _
    refine ⟨fun k _ => ?_, fun k h => by simp at h, fun i k h => by simp at h, Int.le_refl _, fun _ => rfl, fun h => absurd List.take_zero h⟩
    show (List.replicate l.length (-1 : Int)).getD k (-1) = -1
    rw [List.getD_eq_getElem?_getD, List.getElem?_replicate]
    split <;> rfl
  | succ t ih =>
    intro ht
    have htl : t < order.length := by omega
    have I := ih (by omega)
    have hlen := allot_len (l := l) (order.take t)
    rw [List.take_succ_eq_append_getElem htl, allot_snoc]
    generalize hP : order.take t = P at *
    have hPl : P.length = t := by rw [← hP, List.length_take]; omega
    generalize allotRun l P = s at *
    generalize hi : order[t] = i at *
    have hil : i < l.length := hm i (by rw [← hi]; exact List.getElem_mem _)
    have hnot : i ∉ P := by
      intro h
      rw [← hP] at h
      obtain ⟨j, hj, e⟩ := List.mem_take_iff_getElem.1 h
      rw [← hi] at e
      exact absurd ((List.getElem_inj hn).1 e) (by omega)
    have hbef : ∀ k ∈ P, before l k i := by
      intro k hk
      rw [← hP] at hk
      obtain ⟨j, hj, e⟩ := List.mem_take_iff_getElem.1 hk
      rw [← e, ← hi]
      exact List.pairwise_iff_getElem.1 hs j t (by omega) htl (by omega)
    obtain ⟨h1, h2, h3⟩ := numFor_spec (l := l) s.1 i
    have hget : ∀ k, (allotStep l s i).1.getD k (-1) = if i = k then (numFor l s.1 i : Int) else s.1.getD k (-1) := fun k => getD_set' (by rw [hlen]; exact hil)
    have hle : (numFor l s.1 i : Int) ≤ s.2.1 := by
      rcases Nat.eq_zero_or_pos (numFor l s.1 i) with e | e
      · rw [e]; exact I.n0
      · obtain ⟨k, hk, e2, _⟩ := taken_iff.1 (h1 (numFor l s.1 i - 1) (by omega))
        have hkP : k ∈ P := by
          apply Classical.byContradiction
          intro hno
          rw [I.un k hno] at e2
          omega
        obtain ⟨m, e3, e4⟩ := I.as k hkP
        omega
    have hn2 : (allotStep l s i).2.1 = if (numFor l s.1 i : Int) = s.2.1 then s.2.1 + 1 else s.2.1 := by unfold allotStep; split <;> rfl
    have hlt : (numFor l s.1 i : Int) < (allotStep l s i).2.1 := by rw [hn2]; split <;> omega
    have hge : s.2.1 ≤ (allotStep l s i).2.1 := by rw [hn2]; split <;> omega
    -- as many uses have its day
    have hcount : numFor l s.1 i + 1 ≤ onB l (at0 l i).1 := by
      rw [onB_filter]
      have := all_in_len (numFor l s.1 i + 1) (((List.range l.length).filter fun k => hasDay (at0 l i).1 (at0 l k)).map fun k => ((allotStep l s i).1.getD k (-1)).toNat) (fun m hm => by
        have hgi := hg (at0 l i) (by unfold at0; rw [List.getD_eq_getElem?_getD, List.getElem?_eq_getElem hil]; exact List.getElem_mem _)
        unfold goodUse at hgi
        rcases Nat.lt_or_ge m (numFor l s.1 i) with h4 | h4
        · obtain ⟨k, hk, e2, e3⟩ := taken_iff.1 (h1 m h4)
          have hkP : k ∈ P := by
            apply Classical.byContradiction
            intro hno
            rw [I.un k hno] at e2
            omega
          have hki : i ≠ k := fun e => hnot (e ▸ hkP)
          refine List.mem_map.2 ⟨k, List.mem_filter.2 ⟨List.mem_range.2 hk, ?_⟩, by rw [hget, if_neg hki, e2]; exact Int.toNat_natCast m⟩
          have hb := hbef k hkP
          unfold before at hb
          unfold meetsB at e3
          unfold hasDay
          simp only [Bool.and_eq_true, decide_eq_true_eq] at e3 ⊢
          omega
        · refine List.mem_map.2 ⟨i, List.mem_filter.2 ⟨List.mem_range.2 hil, ?_⟩, by rw [hget, if_pos rfl, Int.toNat_natCast]; omega⟩
          unfold hasDay
          simp only [Bool.and_eq_true, decide_eq_true_eq]
          omega)
      rwa [List.length_map] at this
    refine ⟨fun k hk => ?_, fun k hk => ?_, fun a b ha hb hab hmt => ?_, by omega, fun h => by simp at h, fun _ => ?_⟩
    · have h5 : i ≠ k := fun e => hk (by rw [← e]; simp)
      rw [hget, if_neg h5]
      exact I.un k fun h => hk (List.mem_append_left _ h)
    · rw [hget]
      by_cases e : i = k
      · rw [if_pos e]
        exact ⟨_, rfl, hlt⟩
      · rw [if_neg e]
        obtain ⟨m, e1, e2⟩ := I.as k (by
          rcases List.mem_append.1 hk with h | h
          · exact h
          · exact absurd (List.mem_singleton.1 h).symm e)
        exact ⟨m, e1, by omega⟩
    · have key : ∀ k, k ∈ P → meetsB (at0 l k) (at0 l i) = true → s.1.getD k (-1) ≠ (numFor l s.1 i : Int) := by
        intro k hk hmk e
        have hkl : k < l.length := by rw [← hP] at hk; exact hm k (List.mem_of_mem_take hk)
        have := taken_iff.2 ⟨k, hkl, e, hmk⟩
        rw [h2] at this
        cases this
      rw [hget, hget]
      rcases List.mem_append.1 ha with ha1 | ha1 <;> rcases List.mem_append.1 hb with hb1 | hb1
      · rw [if_neg (fun e : i = a => hnot (e ▸ ha1)), if_neg (fun e : i = b => hnot (e ▸ hb1))]
        exact I.ok a b ha1 hb1 hab hmt
      · have hb2 := List.mem_singleton.1 hb1
        rw [if_neg (fun e : i = a => hnot (e ▸ ha1)), if_pos hb2.symm]
        exact key a ha1 (by rw [← hb2]; exact hmt)
      · have ha2 := List.mem_singleton.1 ha1
        rw [if_pos ha2.symm, if_neg (fun e : i = b => hnot (e ▸ hb1))]
        exact fun e => key b hb1 (by rw [meets_symm, ← ha2]; exact hmt) e.symm
      · exact absurd ((List.mem_singleton.1 ha1).trans (List.mem_singleton.1 hb1).symm) hab
    · have hpi : ∀ (h : P.length < (P ++ [i]).length), (P ++ [i])[P.length]'h = i := fun h => by simp
      by_cases e : (numFor l s.1 i : Int) = s.2.1
      · refine ⟨P.length, by simp, ?_⟩
        have e1 : (allotStep l s i).2 = (s.2.1 + 1, (at0 l i).1) := by unfold allotStep; rw [if_pos e]
        rw [hpi, hget, if_pos rfl, e1]
        refine ⟨by have := I.n0; show 0 < s.2.1 + 1; omega, by show _ = s.2.1 + 1 - 1; omega, rfl, fun u hu => ?_, by show s.2.1 + 1 ≤ _; omega⟩
        rw [List.getElem_append_left hu, hget, if_neg (fun e2 => hnot (by rw [e2]; exact List.getElem_mem _))]
        obtain ⟨m, e3, e4⟩ := I.as P[u] (List.getElem_mem _)
        show _ < s.2.1 + 1 - 1
        omega
      · have e1 : (allotStep l s i).2 = s.2 := by unfold allotStep; rw [if_neg e]
        have hP0 : P ≠ [] := by
          rintro rfl
          have := I.z rfl
          rw [this] at e hle
          simp at e hle
          exact e hle
        obtain ⟨j, hj, d1, d2, d3, d4, d5⟩ := I.d hP0
        refine ⟨j, by rw [List.length_append]; omega, ?_⟩
        have hne : ∀ (u : Nat) (hu : u < P.length), i ≠ P[u] := fun u hu e2 => hnot (by rw [e2]; exact List.getElem_mem _)
        rw [List.getElem_append_left hj, hget, if_neg (hne j hj), e1]
        refine ⟨d1, d2, d3, fun u hu => ?_, d5⟩
        rw [List.getElem_append_left (by omega), hget, if_neg (hne u (by omega))]
        exact d4 u hu
/-- the document's own count: the greatest number of uses that a day has, and the least such day where one begins -/
def peakStep (l : List Us) (s : Int × Int) (u : Us) : Int × Int := if (s.1 < (onB l u.1 : Int)) ∨ (onB l u.1 : Int) = s.1 ∧ u.1 < s.2 then ((onB l u.1 : Int), u.1) else s
def peak (l : List Us) : Int × Int := l.foldl (peakStep l) (0, 0)
theorem onB_pos (hg : ∀ u ∈ l, goodUse u) {u : Us} (hu : u ∈ l) : 1 ≤ onB l u.1 := by
  unfold onB
  refine List.countP_pos_iff.2 ⟨u, hu, ?_⟩
  have := hg u hu
  unfold goodUse at this
  unfold hasDay
  simp only [Bool.and_eq_true, decide_eq_true_eq]
  omega
theorem peak_spec (hg : ∀ u ∈ l, goodUse u) {N D : Int} (h0 : l = [] → N = 0 ∧ D = 0) (h1 : ∀ u ∈ l, (onB l u.1 : Int) ≤ N) (h2 : l ≠ [] → (∃ u ∈ l, u.1 = D ∧ (onB l u.1 : Int) = N)) (h3 : ∀ u ∈ l, (onB l u.1 : Int) = N → D ≤ u.1) : peak l = (N, D) := by
  suffices ∀ r p : List Us, l = p ++ r → ∀ s : Int × Int, (p = [] → s = (0, 0)) → (p ≠ [] → (∃ u ∈ p, s = ((onB l u.1 : Int), u.1)) ∧ ∀ u ∈ p, (onB l u.1 : Int) < s.1 ∨ (onB l u.1 : Int) = s.1 ∧ s.2 ≤ u.1) → r.foldl (peakStep l) s = (N, D) from
    this l [] rfl (0, 0) (fun _ => rfl) (fun h => absurd rfl h)
  intro r
  induction r with
  | nil =>
    intro p hp s hs0 hs1
    rw [List.append_nil] at hp
    subst hp
    show s = (N, D)
    by_cases he : l = []
    · rw [hs0 he, (h0 he).1, (h0 he).2]
    · obtain ⟨⟨u, hu, e⟩, ha⟩ := hs1 he
      obtain ⟨v, hv, e1, e2⟩ := h2 he
      have h4 := ha v hv
      have h5 := h1 u hu
      rw [e] at h4 ⊢
      simp only at h4
      have h6 : (onB l u.1 : Int) = N := by omega
      have h7 := h3 u hu h6
      rw [h6]
      have h8 : u.1 = D := by omega
      rw [h8]
  | cons x r ih =>
    intro p hp s hs0 hs1
    have hx : x ∈ l := by rw [hp]; simp
    rw [List.foldl_cons]
    refine ih (p ++ [x]) (by rw [hp, List.append_assoc]; rfl) _ (fun h => by simp at h) (fun _ => ?_)
    have hpos := onB_pos hg hx
    unfold peakStep
    by_cases he : p = []
    · subst he
      rw [hs0 rfl, if_pos (.inl (by show (0 : Int) < _; omega))]
      refine ⟨⟨x, by simp, rfl⟩, fun u hu => ?_⟩
      simp only [List.nil_append, List.mem_singleton] at hu
      subst hu
      exact .inr ⟨rfl, Int.le_refl _⟩
    · obtain ⟨⟨u, hu, e⟩, ha⟩ := hs1 he
      by_cases hc : s.1 < (onB l x.1 : Int) ∨ (onB l x.1 : Int) = s.1 ∧ x.1 < s.2
      · rw [if_pos hc]
        refine ⟨⟨x, by simp, rfl⟩, fun v hv => ?_⟩
        rcases List.mem_append.1 hv with h4 | h4
        · have := ha v h4
          show (onB l v.1 : Int) < (onB l x.1 : Int) ∨ (onB l v.1 : Int) = (onB l x.1 : Int) ∧ x.1 ≤ v.1
          omega
        · rw [List.mem_singleton.1 h4]; exact .inr ⟨rfl, Int.le_refl _⟩
      · rw [if_neg hc]
        refine ⟨⟨u, List.mem_append_left _ hu, e⟩, fun v hv => ?_⟩
        rcases List.mem_append.1 hv with h4 | h4
        · exact ha v h4
        · rw [List.mem_singleton.1 h4]; omega
/-- are numbers an allotment to N pairs? -/
def allotted (l : List Us) (nums : List Int) (N : Int) : Prop := nums.length = l.length ∧ (∀ k, k < l.length → 0 ≤ nums.getD k (-1) ∧ nums.getD k (-1) < N) ∧ ∀ i k, i < l.length → k < l.length → i ≠ k → meetsB (at0 l i) (at0 l k) = true → nums.getD i (-1) ≠ nums.getD k (-1)
theorem nodup_map_of {α β : Type} {f : α → β} : ∀ {l : List α}, l.Nodup → (∀ a ∈ l, ∀ b ∈ l, a ≠ b → f a ≠ f b) → (l.map f).Nodup
  | [], _, _ => List.nodup_nil
  | a :: l, h, hf => by
    obtain ⟨h1, h2⟩ := List.nodup_cons.1 h
    rw [List.map_cons, List.nodup_cons]
    refine ⟨fun hm => ?_, nodup_map_of h2 fun x hx y hy => hf x (List.mem_cons_of_mem _ hx) y (List.mem_cons_of_mem _ hy)⟩
    obtain ⟨b, hb, e⟩ := List.mem_map.1 hm
    exact hf b (List.mem_cons_of_mem _ hb) a (List.mem_cons_self ..) (fun e2 => h1 (e2 ▸ hb)) e
/-- the numbers of the uses that have a day -/
def dayNums (l : List Us) (nums : List Int) (d : Int) : List Nat := ((List.range l.length).filter fun k => hasDay d (at0 l k)).map fun k => (nums.getD k (-1)).toNat
theorem dayNums_spec {nums : List Int} {N : Int} (h : allotted l nums N) (d : Int) : (dayNums l nums d).Nodup ∧ (∀ m ∈ dayNums l nums d, m < N.toNat) ∧ (dayNums l nums d).length = onB l d := by
  obtain ⟨_, h1, h2⟩ := h
  refine ⟨nodup_map_of (List.Nodup.sublist List.filter_sublist List.nodup_range) fun a ha b hb hab e => ?_, fun m hm => ?_, by unfold dayNums; rw [List.length_map, onB_filter]⟩
  · rw [List.mem_filter, List.mem_range] at ha hb
    have := h2 a b ha.1 hb.1 hab (meets_day ha.2 hb.2)
    have h3 := h1 a ha.1
    have h4 := h1 b hb.1
    omega
  · obtain ⟨k, hk, rfl⟩ := List.mem_map.1 hm
    rw [List.mem_filter, List.mem_range] at hk
    have := h1 k hk.1
    omega
theorem onB_le {nums : List Int} {N : Int} (h : allotted l nums N) (d : Int) : (onB l d : Int) ≤ N ∨ l = [] := by
  by_cases he : l = []
  · exact .inr he
  · obtain ⟨h1, h2, h3⟩ := dayNums_spec h d
    have h4 := nodup_lt_len _ _ h1 h2
    have h5 := h.2.1 0 (List.length_pos_iff.2 he)
    exact .inl (by omega)
theorem allot_allotted (hg : ∀ u ∈ l, goodUse u) {order : List Nat} (ho : InOrder l order) : allotted l (allotRun l order).1 (allotRun l order).2.1 := by
  have hmem : ∀ i, i ∈ order ↔ i < l.length := fun i => by rw [ho.1.mem_iff, List.mem_range]
  have I := allot_inv hg (fun i hi => (hmem i).1 hi) (ho.1.nodup_iff.2 List.nodup_range) ho.2 order.length (Nat.le_refl _)
  rw [List.take_length] at I
  refine ⟨allot_len _, fun k hk => ?_, fun i k hi hk => I.ok i k ((hmem i).2 hi) ((hmem k).2 hk)⟩
  obtain ⟨m, e1, e2⟩ := I.as k ((hmem k).2 hk)
  omega
/-- what the program finds is what the document counts -/
theorem allot_peak (hg : ∀ u ∈ l, goodUse u) {order : List Nat} (ho : InOrder l order) : (allotRun l order).2 = peak l ∧ (l ≠ [] → (onB l (allotRun l order).2.2 : Int) = (allotRun l order).2.1 ∧ 0 < (allotRun l order).2.1) := by
  have hmem : ∀ i, i ∈ order ↔ i < l.length := fun i => by rw [ho.1.mem_iff, List.mem_range]
  have hnd : order.Nodup := ho.1.nodup_iff.2 List.nodup_range
  have hlen : order.length = l.length := by rw [ho.1.length_eq, List.length_range]
  have I := allot_inv hg (fun i hi => (hmem i).1 hi) hnd ho.2 order.length (Nat.le_refl _)
  rw [List.take_length] at I
  have hA := allot_allotted hg ho
  generalize hs : allotRun l order = s at *
  have hle : ∀ d, (onB l d : Int) ≤ s.2.1 := fun d => by
    rcases onB_le hA d with h | h
    · exact h
    · subst h; show (0 : Int) ≤ _; exact I.n0
  have hD : l ≠ [] → ∃ j, ∃ h : j < order.length, 0 < s.2.1 ∧ s.1.getD order[j] (-1) = s.2.1 - 1 ∧ s.2.2 = (at0 l order[j]).1 ∧ (∀ t (ht : t < j), s.1.getD (order[t]'(by omega)) (-1) < s.2.1 - 1) ∧ s.2.1 ≤ onB l (at0 l order[j]).1 :=
    fun he => I.d fun e => by
      have := List.length_pos_iff.2 he
      rw [e] at hlen
      simp at hlen
      omega
  have hat : ∀ j (h : j < order.length), at0 l order[j] ∈ l := fun j h => by
    have := (hmem _).1 (List.getElem_mem h)
    unfold at0
    rw [List.getD_eq_getElem?_getD, List.getElem?_eq_getElem this]
    exact List.getElem_mem _
  refine ⟨(peak_spec hg (N := s.2.1) (D := s.2.2) (fun he => ?_) (fun u _ => hle u.1) (fun he => ?_) (fun u hu hN => ?_)).symm, fun he => ?_⟩
  · have : order = [] := by
      have : order.length = 0 := by rw [hlen, he]; rfl
      exact List.length_eq_zero_iff.1 this
    have := I.z this
    rw [this]; exact ⟨rfl, rfl⟩
  · obtain ⟨j, hj, d1, d2, d3, d4, d5⟩ := hD he
    exact ⟨_, hat j hj, d3.symm, by have := hle (at0 l order[j]).1; omega⟩
  · have he : l ≠ [] := fun e => by subst e; simp at hu
    obtain ⟨j, hj, d1, d2, d3, d4, d5⟩ := hD he
    rcases Int.lt_or_le u.1 s.2.2 with hlt | hlt
    · exfalso
      obtain ⟨h1, h2, h3⟩ := dayNums_spec hA u.1
      have h4 := nodup_full h1 h2 (by omega) (by omega)
      obtain ⟨k, hk, e⟩ := List.mem_map.1 h4
      rw [List.mem_filter, List.mem_range] at hk
      obtain ⟨t, ht, e2⟩ := List.getElem_of_mem ((hmem k).2 hk.1)
      have hkd := hk.2
      unfold hasDay at hkd
      simp only [Bool.and_eq_true, decide_eq_true_eq] at hkd
      have hnk := hA.2.1 k hk.1
      have htj : t < j := by
        rcases Nat.lt_trichotomy t j with h | h | h
        · exact h
        · subst h
          rw [e2] at d3
          omega
        · have := List.pairwise_iff_getElem.1 ho.2 j t hj ht h
          rw [e2] at this
          unfold before at this
          omega
      have := d4 t htj
      rw [e2] at this
      omega
    · exact hlt
  · obtain ⟨j, hj, d1, d2, d3, d4, d5⟩ := hD he
    rw [d3]
    have := hle (at0 l order[j]).1
    exact ⟨by omega, d1⟩
/-- fewer pairs do not serve -/
theorem not_fewer (hg : ∀ u ∈ l, goodUse u) {order : List Nat} (ho : InOrder l order) (hn : (allotRun l order).2.1 ≠ 0) (nums : List Int) : ¬ allotted l nums ((allotRun l order).2.1 - 1) := by
  intro h
  have he : l ≠ [] := fun e => by
    subst e
    have h1 : order = [] := by
      have := ho.1.length_eq
      simp at this
      exact this
    subst h1
    exact hn rfl
  obtain ⟨h1, h2⟩ := (allot_peak hg ho).2 he
  rcases onB_le h (allotRun l order).2.2 with h3 | h3
  · omega
  · exact he h3

end

end Go.Proofs.Yteogibpmpppgmaa

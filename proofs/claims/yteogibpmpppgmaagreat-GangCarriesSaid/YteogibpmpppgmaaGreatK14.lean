/- no carrying costs less than the least; a yard that is moved costs the same (plain) -/
import Derived.Test.YteogibpmpppgmaaGreatK13
namespace Go.Proofs.YteogibpmpppgmaaGreat
open Go.RowKit

theorem least_le {np nn : Nat} {A B : Nat → Int} {C X X' : Nat → Nat → Int} {G T : Nat → Int} (Y : YInv np nn A B C X G T) (hd : ∀ k, k < nn → T k = B k)
    (hx : ∀ i k, i < np → k < nn → 0 ≤ X' i k) (hr : ∀ i, i < np → rsum (fun k => X' i k) nn ≤ A i) (hc : ∀ k, k < nn → rsum (fun i => X' i k) np = B k) : costN np nn C X ≤ costN np nn C X' := by
  obtain ⟨p0, p1, F, h0, h1, h2⟩ := Y.pot
  have e := tight (C := C) (A := A) (B := B) (G := G) (u := p0) (v := p1) Y.x0 Y.row (fun k hk => by rw [← Y.col k hk]; exact hd k hk) (fun i hi => by
    rcases Int.lt_or_le (G i) (A i) with h | h
    · rw [h2 i hi h, Int.mul_zero, Int.mul_zero]
    · rw [show G i = A i by have := Y.ga i hi; omega]) (fun i k hi hk h => by
      have a := F.fwd i k hi hk
      have b := F.bwd i k hi hk h
      omega)
  have l := weak (C := C) (A := A) (B := B) (u := p0) (v := p1) hx (fun i hi => (h0 i hi).1) hr hc (fun i k hi hk => by
    have a := F.fwd i k hi hk
    omega)
  omega
def cellM (x : I3) (i k : Nat) : Int := if x.1.toNat = i ∧ x.2.1.toNat = k then x.2.2 else 0
def matM (l : List I3) (i k : Nat) : Int := sumBy (fun x => cellM x i k) l
theorem matM_cons (x : I3) (l : List I3) (i k : Nat) : matM (x :: l) i k = cellM x i k + matM l i k := sumBy_cons _ _ _
theorem rsum_at {n j : Nat} (f : Nat → Int) (h : j < n) (h0 : ∀ i, i < n → i ≠ j → f i = 0) : rsum f n = f j := by
  rw [rsum_one (g := fun _ => 0) n h (fun i hi hne => h0 i hi hne), rsum_zero]
  omega
theorem row_one {x : I3} {nn : Nat} (h : x.2.1.toNat < nn) (i : Nat) : rsum (fun k => cellM x i k) nn = if x.1.toNat = i then x.2.2 else 0 := by
  rw [rsum_at _ h (fun k _ hne => by unfold cellM; rw [if_neg (fun h => hne h.2.symm)])]
  unfold cellM
  by_cases e : x.1.toNat = i
  · rw [if_pos ⟨e, rfl⟩, if_pos e]
  · rw [if_neg (fun h => e h.1), if_neg e]
theorem col_one {x : I3} {np : Nat} (h : x.1.toNat < np) (k : Nat) : rsum (fun i => cellM x i k) np = if x.2.1.toNat = k then x.2.2 else 0 := by
  rw [rsum_at _ h (fun i _ hne => by unfold cellM; rw [if_neg (fun h => hne h.1.symm)])]
  unfold cellM
  by_cases e : x.2.1.toNat = k
  · rw [if_pos ⟨rfl, e⟩, if_pos e]
  · rw [if_neg (fun h => e h.2), if_neg e]
theorem cost_one {x : I3} {np nn : Nat} (h0 : x.1.toNat < np) (h1 : x.2.1.toNat < nn) (C : Nat → Nat → Int) : rsum (fun i => rsum (fun k => cellM x i k * C i k) nn) np = x.2.2 * C x.1.toNat x.2.1.toNat := by
  rw [rsum_at _ h0 (fun i _ hne => by
    rw [rsum_congr (g := fun _ => 0) nn fun k _ => by unfold cellM; rw [if_neg (fun h => hne h.1.symm), Int.zero_mul], rsum_zero])]
  rw [rsum_at _ h1 (fun k _ hne => by unfold cellM; rw [if_neg (fun h => hne h.2.symm), Int.zero_mul])]
  unfold cellM
  rw [if_pos ⟨rfl, rfl⟩]
theorem mat_row {nn : Nat} : ∀ {l : List I3}, (∀ x ∈ l, x.2.1.toNat < nn) → ∀ i, rsum (fun k => matM l i k) nn = sumBy (fun x => if x.1.toNat = i then x.2.2 else 0) l
  | [], _, i => rsum_zero nn
  | x :: l, h, i => by
    rw [rsum_congr nn fun k _ => matM_cons x l i k, rsum_add, row_one (h x (List.mem_cons_self ..)), mat_row (fun y hy => h y (List.mem_cons_of_mem _ hy)), sumBy_cons]
theorem mat_col {np : Nat} : ∀ {l : List I3}, (∀ x ∈ l, x.1.toNat < np) → ∀ k, rsum (fun i => matM l i k) np = sumBy (fun x => if x.2.1.toNat = k then x.2.2 else 0) l
  | [], _, i => rsum_zero np
  | x :: l, h, k => by
    rw [rsum_congr np fun i _ => matM_cons x l i k, rsum_add, col_one (h x (List.mem_cons_self ..)), mat_col (fun y hy => h y (List.mem_cons_of_mem _ hy)), sumBy_cons]
theorem mat_cost {np nn : Nat} (C : Nat → Nat → Int) : ∀ {l : List I3}, (∀ x ∈ l, x.1.toNat < np ∧ x.2.1.toNat < nn) → costN np nn C (matM l) = sumBy (fun x => x.2.2 * C x.1.toNat x.2.1.toNat) l
  | [], _ => by
    unfold costN
    refine (rsum_congr (g := fun _ => 0) np fun i _ => (rsum_congr (f := fun k => matM [] i k * C i k) (g := fun _ => 0) nn fun k _ => (show (0 : Int) * C i k = 0 from Int.zero_mul _)).trans (rsum_zero nn)).trans ?_
    rw [rsum_zero]
    rfl
  | x :: l, h => by
    have ih := mat_cost C (l := l) (fun y hy => h y (List.mem_cons_of_mem _ hy))
    unfold costN at ih ⊢
    have hx := h x (List.mem_cons_self ..)
    rw [rsum_congr np fun i _ => (rsum_congr nn fun k _ => (by rw [matM_cons, Int.add_mul] : matM (x :: l) i k * C i k = cellM x i k * C i k + matM l i k * C i k)).trans (rsum_add _ _ nn), rsum_add, ih, cost_one hx.1 hx.2, sumBy_cons]
theorem carry_least {P : List I3} {N : List I2} {l : List I3} {X : Nat → Nat → Int} {G T : Nat → Int} (Y : YInv P.length N.length (hA P) (hB N) (costC P N) X G T) (hd : ∀ k, k < N.length → T k = hB N k) (h : carryOk P N l = true) : costN P.length N.length (costC P N) X ≤ costL P N l := by
  unfold carryOk at h
  rw [Bool.and_eq_true, Bool.and_eq_true] at h
  obtain ⟨⟨h1, h2⟩, h3⟩ := h
  have hin : ∀ x ∈ l, x.1.toNat < P.length ∧ x.2.1.toNat < N.length ∧ 1 ≤ x.2.2 ∧ 0 ≤ x.1 ∧ 0 ≤ x.2.1 := fun x hx => by
    obtain ⟨i, hi, rfl⟩ := List.getElem_of_mem hx
    unfold ldsOk at h1
    have := List.all_eq_true.1 h1 i (List.mem_range.2 hi)
    unfold ldOk at this
    rw [Bool.and_eq_true, getD_at3 hi] at this
    have h4 := this.1
    unfold ldIn at h4
    rw [Bool.and_eq_true, Bool.and_eq_true, inB_iff, inB_iff, inB_iff] at h4
    omega
  have hg : ∀ i, i < P.length → rsum (fun k => matM l i k) N.length ≤ hA P i := fun i hi => by
    rw [mat_row (fun x hx => (hin x hx).2.1), ← given_sum (fun x hx => (hin x hx).1)]
    unfold givenOk at h2
    exact of_decide_eq_true (List.all_eq_true.1 h2 i (List.mem_range.2 hi))
  have hc : ∀ k, k < N.length → rsum (fun i => matM l i k) P.length = hB N k := fun k hk => by
    rw [mat_col (fun x hx => (hin x hx).1), ← got_sum (fun x hx => (hin x hx).2.1)]
    unfold gotOk at h3
    exact of_decide_eq_true (List.all_eq_true.1 h3 k (List.mem_range.2 hk))
  have hx0 : ∀ i k, i < P.length → k < N.length → 0 ≤ matM l i k := fun i k _ _ => by
    unfold matM sumBy
    refine lsum_nonneg fun y hy => ?_
    obtain ⟨x, hx, rfl⟩ := List.mem_map.1 hy
    unfold cellM
    split
    · have := (hin x hx).2.2.1; omega
    · exact Int.le_refl _
  refine Int.le_trans (least_le Y hd hx0 hg hc) (Int.le_of_eq ?_)
  rw [mat_cost _ (fun x hx => ⟨(hin x hx).1, (hin x hx).2.1⟩), costL_sum]
  rfl
/-- moved along the wall -/
def movP (d : Int) (P : List I3) : List I3 := P.map fun x => (x.1 + d, x.2)
def movN (d : Int) (N : List I2) : List I2 := N.map fun x => (x.1 + d, x.2)
theorem movP_len (d : Int) (P : List I3) : (movP d P).length = P.length := List.length_map _
theorem movN_len (d : Int) (N : List I2) : (movN d N).length = N.length := List.length_map _
theorem mov_hA (d : Int) (P : List I3) (i : Nat) (h : i < P.length) : hA (movP d P) i = hA P i := by
  rw [hA_at h, hA_at (by rw [movP_len]; exact h)]
  simp [movP]
theorem mov_hB (d : Int) (N : List I2) (i : Nat) (h : i < N.length) : hB (movN d N) i = hB N i := by
  rw [hB_at h, hB_at (by rw [movN_len]; exact h)]
  simp [movN]
theorem mov_cost (d : Int) (P : List I3) (N : List I2) (i k : Nat) (hi : i < P.length) (hk : k < N.length) : costC (movP d P) (movN d N) i k = costC P N i k := by
  unfold costC
  show unitI ((movP d P).getD i ld0) ((movN d N).getD k (0, 0)) = unitI (P.getD i ld0) (N.getD k (0, 0))
  rw [getD_at3 hi, getD_at2 hk, getD_at3 (by rw [movP_len]; exact hi), getD_at2 (by rw [movN_len]; exact hk)]
  unfold movP movN unitI
  rw [List.getElem_map, List.getElem_map]
  dsimp only
  omega
theorem costN_congr {np nn : Nat} {C C' X : Nat → Nat → Int} (h : ∀ i k, i < np → k < nn → C i k = C' i k) : costN np nn C X = costN np nn C' X := by
  unfold costN
  exact rsum_congr _ fun i hi => rsum_congr _ fun k hk => by rw [h i k hi hk]
theorem mov_same {d : Int} {P : List I3} {N : List I2} {X X' : Nat → Nat → Int} {G T G' T' : Nat → Int} (Y : YInv P.length N.length (hA P) (hB N) (costC P N) X G T) (hd : ∀ k, k < N.length → T k = hB N k)
    (Y' : YInv (movP d P).length (movN d N).length (hA (movP d P)) (hB (movN d N)) (costC (movP d P) (movN d N)) X' G' T') (hd' : ∀ k, k < (movN d N).length → T' k = hB (movN d N) k) :
    costN (movP d P).length (movN d N).length (costC (movP d P) (movN d N)) X' = costN P.length N.length (costC P N) X := by
  rw [movP_len, movN_len] at Y' ⊢
  rw [movN_len] at hd'
  have e' : costN P.length N.length (costC (movP d P) (movN d N)) X' = costN P.length N.length (costC P N) X' := costN_congr fun i k hi hk => mov_cost d P N i k hi hk
  have e : costN P.length N.length (costC (movP d P) (movN d N)) X = costN P.length N.length (costC P N) X := costN_congr fun i k hi hk => mov_cost d P N i k hi hk
  have h1 := least_le Y hd Y'.x0 (fun i hi => by rw [← Y'.row i hi, ← mov_hA d P i hi]; exact Y'.ga i hi) (fun k hk => by rw [← Y'.col k hk, hd' k hk, mov_hB d N k hk])
  have h2 := least_le Y' hd' Y.x0 (fun i hi => by rw [← Y.row i hi, mov_hA d P i hi]; exact Y.ga i hi) (fun k hk => by rw [← Y.col k hk, hd k hk, mov_hB d N k hk])
  omega
end Go.Proofs.YteogibpmpppgmaaGreat

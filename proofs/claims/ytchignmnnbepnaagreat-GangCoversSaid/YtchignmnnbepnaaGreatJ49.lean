/- the laws' arguments, as rows -/
import Derived.Test.YtchignmnnbepnaaGreatJ48
import Derived.Test.YtchignmnnbepnaaGreatJ2
namespace Go.Proofs.YtchignmnnbepnaaGreat
open Go.ChangeShapes Go.WideShapes Go.RowKit Go.Deep Go.Joins

section
variable {H : Type} {enc : TypeId × Value → H} {W : World} {base : Nat}
theorem choose_row {α : Type} [Inhabited α] {n : Nat} {R : Nat → α → Prop} (h : ∀ i, i < n → ∃ x, R i x) : ∃ l : List α, l.length = n ∧ ∀ i (hi : i < l.length), R i l[i] := by
  induction n with
  | zero => exact ⟨[], rfl, fun i hi => absurd hi (Nat.not_lt_zero i)⟩
  | succ n ih =>
    obtain ⟨l, hl, hR⟩ := ih fun i hi => h i (by omega)
    obtain ⟨x, hx⟩ := h n (by omega)
    refine ⟨l ++ [x], by rw [List.length_append, hl]; rfl, fun i hi => ?_⟩
    rw [List.getElem_append]
    split
    · exact hR i _
    · rw [List.length_append, List.length_singleton] at hi
      have e : i = n := by omega
      subst e
      simpa [hl] using hx
set_option maxRecDepth 100000 in
theorem open_Stints {v : Value} {d : DataW H} {p : List MemPlace} (hv : Value.okWide Tryz.prog W .any base 27 v) (h : DataW.Trod enc Tryz.prog W 0 (fun _ => true) true 27 v d p) :
    ∃ (a : Option Addr) (l : List I3) (c : Nat), v = .slice a l.length c ∧ Sx 3 W a l.length c (L3 l) ∧ ∀ x ∈ l, (-9223372036854775808 ≤ x.1 ∧ x.1 < 9223372036854775808) ∧ (-9223372036854775808 ≤ x.2.1 ∧ x.2.1 < 9223372036854775808) ∧ (-9223372036854775808 ≤ x.2.2 ∧ x.2.2 < 9223372036854775808) := by
  obtain ⟨a0, len, cap, rfl⟩ := okWide_slice Tryz.underlying27 hv
  obtain ⟨fuel, hf⟩ := h
  rcases open_slice_fields Tryz.underlying27 Tryz.underlying99 (by kernel_rfl) (by kernel_rfl) hf with ⟨hcs, hx⟩ | ⟨a, len', cap', m, D, Pl, hcs, hb, hl, hm, hmm, hx, hi⟩
  · simp [Value.cells] at hcs
    obtain ⟨rfl, rfl, rfl⟩ := hcs
    exact ⟨none, [], 0, rfl, Sx.nil, fun x hx => by cases hx⟩
  · simp [Value.cells] at hcs
    obtain ⟨rfl, rfl, rfl⟩ := hcs
    have key : ∀ k, k < len → ∃ x : I3, (W.cell? (a.add (k * 3 + 0)) = some (.int .i64 x.1) ∧ W.cell? (a.add (k * 3 + 1)) = some (.int .i64 x.2.1) ∧ W.cell? (a.add (k * 3 + 2)) = some (.int .i64 x.2.2)) ∧ (-9223372036854775808 ≤ x.1 ∧ x.1 < 9223372036854775808) ∧ (-9223372036854775808 ≤ x.2.1 ∧ x.2.1 < 9223372036854775808) ∧ (-9223372036854775808 ≤ x.2.2 ∧ x.2.2 < 9223372036854775808) := by
      intro k hk
      obtain ⟨ys, n, h1, h2, h3, h4⟩ := hi k (by simp at hmm; omega)
      obtain ⟨v0, y0, c0, _, t0⟩ := h4 0 _ rfl
      obtain ⟨z0, e0, _, w0⟩ := DataW.trod_int Tryz.underlying3 t0
      simp at e0
      subst e0
      obtain ⟨v1, y1, c1, _, t1⟩ := h4 1 _ rfl
      obtain ⟨z1, e1, _, w1⟩ := DataW.trod_int Tryz.underlying3 t1
      simp at e1
      subst e1
      obtain ⟨v2, y2, c2, _, t2⟩ := h4 2 _ rfl
      obtain ⟨z2, e2, _, w2⟩ := DataW.trod_int Tryz.underlying3 t2
      simp at e2
      subst e2
      exact ⟨(z0, z1, z2), ⟨c0, c1, c2⟩, i64_wf w0, i64_wf w1, i64_wf w2⟩
    obtain ⟨l, hll, hR⟩ := choose_row key
    subst hll
    refine ⟨some a, l, cap, rfl, ⟨L3_len l, hl, hm, fun hn => ?_⟩, fun x hx => ?_⟩
    · obtain ⟨g, o, sp⟩ := a
      have h0 := (hR 0 hn).1.1
      have hspot : sp = none := by simpa [Addr.add] using World.cell?_spot h0
      subst hspot
      refine ⟨g, o, rfl, by simpa [Addr.add] using World.block_lt_of_cell? W _ h0, fun k u hk => ?_⟩
      have hkl := (List.getElem?_eq_some_iff.1 hk).1
      rw [L3_len] at hkl
      have hq : k / 3 < l.length := by omega
      have hr : k % 3 < 3 := Nat.mod_lt _ (by decide)
      have hke : k / 3 * 3 + k % 3 = k := by omega
      have hcell := (hR (k / 3) hq).1
      rw [← hke] at hk
      unfold L3 at hk
      rw [flat_get (f := c3) (k := 3) (fun _ => rfl) l (k / 3) (k % 3) hq hr] at hk
      have hadd : ∀ j, (⟨g, o, none⟩ : Addr).add j = ⟨g, o + j, none⟩ := fun j => by unfold Addr.add; split <;> simp_all
      simp only [hadd] at hcell
      generalize l[k / 3] = x at *
      rw [← hke]
      generalize k / 3 = q at *
      generalize k % 3 = r at *
      match r, hr with
      | 0, _ => exact hcell.1.trans hk
      | 1, _ => exact hcell.2.1.trans hk
      | 2, _ => exact hcell.2.2.trans hk
    · obtain ⟨i, hi, rfl⟩ := List.getElem_of_mem hx
      exact (hR i hi).2
set_option maxRecDepth 100000 in
theorem open_Wallers {v : Value} {d : DataW H} {p : List MemPlace} (hv : Value.okWide Tryz.prog W .any base 26 v) (h : DataW.Trod enc Tryz.prog W 0 (fun _ => true) true 26 v d p) :
    ∃ (a : Option Addr) (l : List WL) (c : Nat), v = .slice a l.length c ∧ Sx 3 W a l.length c (LW l) ∧ ∀ x ∈ l, x.1.size ≤ maxLen ∧ (-9223372036854775808 ≤ x.2.1 ∧ x.2.1 < 9223372036854775808) ∧ (-9223372036854775808 ≤ x.2.2 ∧ x.2.2 < 9223372036854775808) := by
  obtain ⟨a0, len, cap, rfl⟩ := okWide_slice Tryz.underlying26 hv
  obtain ⟨fuel, hf⟩ := h
  rcases open_slice_fields Tryz.underlying26 Tryz.underlying98 (by kernel_rfl) (by kernel_rfl) hf with ⟨hcs, hx⟩ | ⟨a, len', cap', m, D, Pl, hcs, hb, hl, hm, hmm, hx, hi⟩
  · simp [Value.cells] at hcs
    obtain ⟨rfl, rfl, rfl⟩ := hcs
    exact ⟨none, [], 0, rfl, Sx.nil, fun x hx => by cases hx⟩
  · simp [Value.cells] at hcs
    obtain ⟨rfl, rfl, rfl⟩ := hcs
    have key : ∀ k, k < len → ∃ x : WL, (W.cell? (a.add (k * 3 + 0)) = some (.string x.1) ∧ W.cell? (a.add (k * 3 + 1)) = some (.int .i64 x.2.1) ∧ W.cell? (a.add (k * 3 + 2)) = some (.int .i64 x.2.2)) ∧ x.1.size ≤ maxLen ∧ (-9223372036854775808 ≤ x.2.1 ∧ x.2.1 < 9223372036854775808) ∧ (-9223372036854775808 ≤ x.2.2 ∧ x.2.2 < 9223372036854775808) := by
      intro k hk
      obtain ⟨ys, n, h1, h2, h3, h4⟩ := hi k (by simp at hmm; omega)
      obtain ⟨v0, y0, c0, _, t0⟩ := h4 0 _ rfl
      obtain ⟨z0, e0, _, w0⟩ := DataW.trod_string Tryz.underlying9 t0
      simp at e0
      subst e0
      obtain ⟨v1, y1, c1, _, t1⟩ := h4 1 _ rfl
      obtain ⟨z1, e1, _, w1⟩ := DataW.trod_int Tryz.underlying3 t1
      simp at e1
      subst e1
      obtain ⟨v2, y2, c2, _, t2⟩ := h4 2 _ rfl
      obtain ⟨z2, e2, _, w2⟩ := DataW.trod_int Tryz.underlying3 t2
      simp at e2
      subst e2
      exact ⟨(z0, z1, z2), ⟨c0, c1, c2⟩, w0, i64_wf w1, i64_wf w2⟩
    obtain ⟨l, hll, hR⟩ := choose_row key
    subst hll
    refine ⟨some a, l, cap, rfl, ⟨LW_len l, hl, hm, fun hn => ?_⟩, fun x hx => ?_⟩
    · obtain ⟨g, o, sp⟩ := a
      have h0 := (hR 0 hn).1.1
      have hspot : sp = none := by simpa [Addr.add] using World.cell?_spot h0
      subst hspot
      refine ⟨g, o, rfl, by simpa [Addr.add] using World.block_lt_of_cell? W _ h0, fun k u hk => ?_⟩
      have hkl := (List.getElem?_eq_some_iff.1 hk).1
      rw [LW_len] at hkl
      have hq : k / 3 < l.length := by omega
      have hr : k % 3 < 3 := Nat.mod_lt _ (by decide)
      have hke : k / 3 * 3 + k % 3 = k := by omega
      have hcell := (hR (k / 3) hq).1
      rw [← hke] at hk
      unfold LW at hk
      rw [flat_get (f := cW) (k := 3) (fun _ => rfl) l (k / 3) (k % 3) hq hr] at hk
      have hadd : ∀ j, (⟨g, o, none⟩ : Addr).add j = ⟨g, o + j, none⟩ := fun j => by unfold Addr.add; split <;> simp_all
      simp only [hadd] at hcell
      generalize l[k / 3] = x at *
      rw [← hke]
      generalize k / 3 = q at *
      generalize k % 3 = r at *
      match r, hr with
      | 0, _ => exact hcell.1.trans hk
      | 1, _ => exact hcell.2.1.trans hk
      | 2, _ => exact hcell.2.2.trans hk
    · obtain ⟨i, hi, rfl⟩ := List.getElem_of_mem hx
      exact (hR i hi).2
set_option maxRecDepth 100000 in
theorem open_Ints {v : Value} {d : DataW H} {p : List MemPlace} (hv : Value.okWide Tryz.prog W .any base 31 v) (h : DataW.Trod enc Tryz.prog W 0 (fun _ => true) true 31 v d p) :
    ∃ (a : Option Addr) (l : List Int) (c : Nat), v = .slice a l.length c ∧ Sx 1 W a l.length c (L1 l) ∧ ∀ x ∈ l, -9223372036854775808 ≤ x ∧ x < 9223372036854775808 := by
  obtain ⟨a0, len, cap, rfl⟩ := okWide_slice Tryz.underlying31 hv
  obtain ⟨fuel, hf⟩ := h
  rcases open_slice Tryz.underlying31 hf with ⟨hcs, hx⟩ | ⟨a, len', cap', m, n, D, Pl, hcs, hb, hl, hm, hmm, hx, hi⟩
  · simp [Value.cells] at hcs
    obtain ⟨rfl, rfl, rfl⟩ := hcs
    exact ⟨none, [], 0, rfl, Sx.nil, fun x hx => by cases hx⟩
  · simp [Value.cells] at hcs
    obtain ⟨rfl, rfl, rfl⟩ := hcs
    have hone : Tryz.prog.cellsOf 3 = 1 := by kernel_rfl
    have key : ∀ k, k < len → ∃ x : Int, W.cell? (a.add k) = some (.int .i64 x) ∧ -9223372036854775808 ≤ x ∧ x < 9223372036854775808 := by
      intro k hk
      obtain ⟨cs', hc, ht'⟩ := hi k (by simp at hmm; omega)
      rw [hone] at hc
      obtain ⟨z, e, _, w⟩ := DataW.trod_int Tryz.underlying3 ht'
      subst e
      obtain ⟨_, _, hat⟩ := World.cells?_some hc
      have h0 := hat 0 (by omega)
      refine ⟨z, ?_, i64_wf w⟩
      rw [Nat.mul_one] at h0
      have ha : (a.add k).add 0 = a.add k := by unfold Addr.add; rw [if_pos rfl]
      rw [ha] at h0
      simpa using h0
    obtain ⟨l, hll, hR⟩ := choose_row key
    subst hll
    refine ⟨some a, l, cap, rfl, ⟨by rw [L1_len, Nat.mul_one], hl, hm, fun hn => ?_⟩, fun x hx => ?_⟩
    · obtain ⟨g, o, sp⟩ := a
      have h0 := (hR 0 hn).1
      have hspot : sp = none := by simpa [Addr.add] using World.cell?_spot h0
      subst hspot
      refine ⟨g, o, rfl, by simpa [Addr.add] using World.block_lt_of_cell? W _ h0, fun k u hk => ?_⟩
      have hkl := (List.getElem?_eq_some_iff.1 hk).1
      rw [L1_len] at hkl
      have hadd : ∀ j, (⟨g, o, none⟩ : Addr).add j = ⟨g, o + j, none⟩ := fun j => by unfold Addr.add; split <;> simp_all
      have hcell := (hR k hkl).1
      rw [hadd] at hcell
      rw [L1_get l k hkl] at hk
      exact hcell.trans hk
    · obtain ⟨i, hi, rfl⟩ := List.getElem_of_mem hx
      exact (hR i hi).2
end
end Go.Proofs.YtchignmnnbepnaaGreat

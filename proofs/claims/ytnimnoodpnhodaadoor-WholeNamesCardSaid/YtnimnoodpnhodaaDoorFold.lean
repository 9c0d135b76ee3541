/- ratios: fold, Sum, chosen, Min, Max -/
import Derived.Test.YtnimnoodpnhodaaDoorR4
namespace Go.Proofs.YtnimnoodpnhodaaDoor
open Go.RowKit Dig

theorem Bd.add1 {n : Nat} {x y : Int} (h : Bd n x) (k : Bd n y) : Bd (n + 1) (x + y) := by
  unfold Bd at *
  rw [Nat.pow_succ]
  have := Int.natAbs_add_le x y
  omega
theorem Bq.add1 {n m : Nat} {a b : Rat} (h : Bq n a) (k : Bq m b) : Bq (n + m + 1) (a + b) := by
  rw [add_eq]
  exact Bq.ofInt ((h.num.mul k.den).add1 ((k.num.mul h.den).mono (by omega))) (h.den.mul k.den) (Int.mul_ne_zero (den_ne a) (den_ne b)) (by omega) (by omega)

/-- a row of ratios -/
def RowR (w : World) (v : Value) (qs : List Rat) : Prop := ∃ a c, v = .slice a qs.length c ∧ ∀ (k : Nat) (hk : k < qs.length), ∃ g s m s', a = some ⟨g, 0, none⟩ ∧ g < w.heap.size ∧
  w.cell? ⟨g, k * 3, none⟩ = some s ∧ w.cell? ⟨g, k * 3 + 1, none⟩ = some (.bool m) ∧ w.cell? ⟨g, k * 3 + 2, none⟩ = some s' ∧ Rd w s m s' qs[k]

theorem RowR.mono {w w' : World} {v : Value} {qs : List Rat} (h : RowR w v qs) (hb : Below w.heap.size w w') : RowR w' v qs := by
  obtain ⟨a, c, rfl, h⟩ := h
  refine ⟨a, c, rfl, fun k hk => ?_⟩
  obtain ⟨g, s, m, s', h1, h2, h3, h4, h5, h6⟩ := h k hk
  exact ⟨g, s, m, s', h1, Nat.lt_of_lt_of_le h2 hb.size, (hb.cell (p := ⟨g, _, none⟩) h2).trans h3, (hb.cell (p := ⟨g, _, none⟩) h2).trans h4, (hb.cell (p := ⟨g, _, none⟩) h2).trans h5, h6.keep (Below.keeps hb)⟩

/-- elements put together -/
def foldQ (op : Rat → Rat → Rat) : List Rat → Rat
  | [] => 0
  | q :: r => r.foldl op q
theorem foldQ_snoc (op : Rat → Rat → Rat) (l : List Rat) (q : Rat) : foldQ op (l ++ [q]) = if l = [] then q else op (foldQ op l) q := by
  cases l with
  | nil => rfl
  | cons a l => simp [foldQ]

set_option maxRecDepth 100000 in
set_option maxHeartbeats 2000000 in
theorem fold_add (a : Option Addr) (c : Nat) (qs : List Rat) (w : World) (h : RowR w (.slice a qs.length c) qs) (N : Nat) (hB : ∀ q ∈ qs, Bq N q) (B : Nat → Nat) (hb : ∀ k, k ≤ qs.length → Bq (B k) (foldQ (· + ·) (qs.take k)) ∧ B k ≤ 40000) (hN : N ≤ 40000) (hl : qs.length ≤ 1000) :
    Calls Tryd.prog 60 #[.slice a qs.length c, .func (Fn.func 52) #[] #[]] w (RetR w (foldQ (· + ·) qs)) := by
  have HR := Lib.hid h
  have HB := Lib.hid hB
  have HBB := Lib.hid hb
  clear h hB hb
  have hC := Lib.hid (((St.enter w).al (w.heap.size) #[.slice none 0 0, .bool false, .slice none 0 0] 32 rfl rfl).al (w.heap.size + 1) #[.slice none 0 0, .bool false, .slice none 0 0] 32 (by simp) rfl)
  go_enter Tryd.func60, Tryd.ntmps60
  go_wp2
  go_loopw [10] (fun iv wr => ∃ (k : Nat) (a1 : Option Addr) (n1 c1 : Nat) (m1 : Bool) (d1 : Option Addr) (e1 f1 : Nat), k ≤ qs.length ∧ iv = .int .i64 k ∧ Hid (St w wr [(w.heap.size, #[.slice none 0 0, .bool false, .slice none 0 0], 32), (w.heap.size + 1, #[.slice a1 n1 c1, .bool m1, .slice d1 e1 f1], 32)] [fun V => Rd V (.slice a1 n1 c1) m1 (.slice d1 e1 f1) (foldQ (· + ·) (qs.take k))])) (fun i _ => qs.length - (intOf i).toNat)
  case atStart => exact ⟨0, none, 0, 0, false, none, 0, 0, by omega, rfl, hC.out.pr Rd.nil⟩
  case round =>
    clear hC
    obtain ⟨k, a1, n1, c1, m1, d1, e1, f1, hk, rfl, hC⟩ := hrel
    by_cases hlt : k < qs.length
    · obtain ⟨_, _, hv, hrow⟩ := HR.out
      simp only [Value.slice.injEq] at hv
      obtain ⟨rfl, _, rfl⟩ := hv
      obtain ⟨g, s, m, s', rfl, hg, hc0, hc1, hc2, hq⟩ := hrow k hlt
      have x0 := (hC.out.be.cell (p := ⟨g, k * 3, none⟩) hg).trans hc0
      have x1 := (hC.out.be.cell (p := ⟨g, k * 3 + 1, none⟩) hg).trans hc1
      have x2 := (hC.out.be.cell (p := ⟨g, k * 3 + 2, none⟩) hg).trans hc2
      have hq' := hq.keep (Below.keeps hC.out.be)
      obtain ⟨a2, n2, c2, rfl⟩ := Sl.slice hq'.z.d
      obtain ⟨d2, e2, f2, rfl⟩ := Sl.slice hq'.d
      have hC0 := Lib.hid (hC.out.pr hq')
      have hC1 := Lib.hid (hC0.out.al wr.heap.size #[.slice a2 n2 c2, .bool m, .slice d2 e2 f2] 32 rfl rfl)
      have HT := Lib.hid (show qs.take (k + 1) = qs.take k ++ [qs[k]] from List.take_succ_eq_append_getElem hlt)
      clear hrow hc0 hc1 hc2 hq hq'
      have hC_c10 := hC.out.cell 1 0 rfl rfl
      have hC_f10 := hC.out.free 1 0 rfl
      have hC_c11 := hC.out.cell 1 1 rfl rfl
      have hC_f11 := hC.out.free 1 1 rfl
      have hC_c12 := hC.out.cell 1 2 rfl rfl
      have hC_f12 := hC.out.free 1 2 rfl
      have l0 := hC.out.lt 0 rfl
      have l1 := hC.out.lt 1 rfl
      clear hC
      by_cases hk0 : k = 0
      · subst hk0
        have i0 : (((0 : Nat) : Int) == 0) = true := rfl
        go_wp2
        go_roundw
        case rel =>
          refine ⟨1, a2, n2, c2, m, d2, e2, f2, by omega, rfl, ?_⟩
          rw [HT.out, foldQ_snoc, if_pos (by simp)]
          exact Lib.hid ((hC0.out.set (j := 0) (v := .slice a2 n2 c2) 1 rfl |>.set (j := 1) (v := .bool m) 1 rfl |>.set (j := 2) (v := .slice d2 e2 f2) 1 rfl).row.pick [1] rfl)
        case measure => simp [intOf]; omega
      · have i0 : (((k : Nat) : Int) == 0) = false := by simp; omega
        have HK0 := Lib.hid hk0
        clear hk0
        go_wp2_with fail
        refine (radd_b (hC1.out.r 0 rfl) (hC1.out.r 1 rfl) (HBB.out k hk).1 (HB.out qs[k] (List.getElem_mem hlt)) (HBB.out k hk).2 hN).mono ?_
        rintro e w3 ⟨a3, n3, c3, m3, d3, e3, f3, rfl, hz, hb⟩
        have hC3 := Lib.hid ((hC1.out.call hb).pr hz)
        clear hC1 hz hb x0 x1 x2 hC_c10 hC_c11 hC_c12 hC_f10 hC_f11 hC_f12 l0 l1
        have hC3_c10 := hC3.out.cell 1 0 rfl rfl
        have hC3_f10 := hC3.out.free 1 0 rfl
        have hC3_c11 := hC3.out.cell 1 1 rfl rfl
        have hC3_f11 := hC3.out.free 1 1 rfl
        have hC3_c12 := hC3.out.cell 1 2 rfl rfl
        have hC3_f12 := hC3.out.free 1 2 rfl
        go_wp2
        go_roundw
        case rel =>
          refine ⟨k + 1, a3, n3, c3, m3, d3, e3, f3, by omega, by go_num, ?_⟩
          rw [HT.out, foldQ_snoc, if_neg (by have := HK0.out; intro e; have := congrArg List.length e; rw [List.length_take] at this; simp only [List.length_nil] at this; omega)]
          exact Lib.hid (((hC3.out.set (j := 0) (v := .slice a3 n3 c3) 1 rfl |>.set (j := 1) (v := .bool m3) 1 rfl |>.set (j := 2) (v := .slice d3 e3 f3) 1 rfl).bpick [0, 1] (by decide) rfl).pick [2] rfl)
        case measure => simp [intOf]; omega
    · obtain rfl : k = qs.length := by omega
      have hC_c00 := hC.out.cell 0 0 rfl rfl
      have hC_f00 := hC.out.free 0 0 rfl
      have hC_c01 := hC.out.cell 0 1 rfl rfl
      have hC_f01 := hC.out.free 0 1 rfl
      have hC_c02 := hC.out.cell 0 2 rfl rfl
      have hC_f02 := hC.out.free 0 2 rfl
      have hC_c10 := hC.out.cell 1 0 rfl rfl
      have hC_f10 := hC.out.free 1 0 rfl
      have hC_c11 := hC.out.cell 1 1 rfl rfl
      have hC_f11 := hC.out.free 1 1 rfl
      have hC_c12 := hC.out.cell 1 2 rfl rfl
      have hC_f12 := hC.out.free 1 2 rfl
      go_wp2
      refine ret_st (hC.out |>.set 0 rfl |>.set 0 rfl |>.set 0 rfl) (v := .agg #[.slice a1 n1 c1, .bool m1, .slice d1 e1 f1]) (fun hF => ?_) rfl (fun hF => ⟨_, _, _, _, _, _, _, rfl, (by have := hF.r 0 rfl; rwa [List.take_length] at this), hF.be⟩)
      · have e0 := hF.cell 0 0 rfl rfl
        have e1 := hF.cell 0 1 rfl rfl
        have e2 := hF.cell 0 2 rfl rfl
        simp [results, Tryd.results60, go_sem, e0, e1, e2]

theorem sum_bd {N : Nat} : ∀ (qs : List Rat), (∀ q ∈ qs, Bq N q) → ∀ k, k ≤ qs.length → Bq (k * (N + 1) + 1) (foldQ (· + ·) (qs.take k))
  | qs, _, 0, _ => by rw [List.take_zero, Nat.zero_mul]; exact Bq.zero (n := 0)
  | qs, h, k + 1, hk => by
    have ih := sum_bd qs h k (by omega)
    have hq := h qs[k] (List.getElem_mem (by omega))
    rw [List.take_succ_eq_append_getElem (by omega), foldQ_snoc]
    split
    · exact hq.mono (by rw [Nat.add_mul]; omega)
    · exact (ih.add1 hq).mono (by rw [Nat.add_mul]; omega)

set_option maxHeartbeats 1000000 in
theorem sum_any (a : Option Addr) (c : Nat) (qs : List Rat) (w : World) (h : RowR w (.slice a qs.length c) qs) (N : Nat) (hB : ∀ q ∈ qs, Bq N q) (hN : N ≤ 1000) (hl : qs.length ≤ 35) :
    Calls Tryd.prog 42 #[.slice a qs.length c] w (RetR w (foldQ (· + ·) qs)) := by
  have hC := Lib.hid ((St.enter w).al (w.heap.size) #[.slice none 0 0, .bool false, .slice none 0 0] 32 rfl rfl)
  have HR := Lib.hid (h.mono hC.out.be)
  have HB := Lib.hid hB
  clear h hB
  go_enter Tryd.func42, Tryd.ntmps42
  go_wp2_with fail
  refine (fold_add a c qs _ HR.out N HB.out (fun k => k * (N + 1) + 1) (fun k hk => ⟨sum_bd qs HB.out k hk, by have : k * (N + 1) ≤ 35 * 1001 := Nat.mul_le_mul (by omega) (by omega); omega⟩) (by omega) (by omega)).mono ?_
  rintro e w3 ⟨a3, n3, c3, m3, d3, e3, f3, rfl, hz, hb⟩
  have hC3 := Lib.hid ((hC.out.call hb).pr hz)
  clear hb hz
  have hC3_c00 := hC3.out.cell 0 0 rfl rfl
  have hC3_f00 := hC3.out.free 0 0 rfl
  have hC3_c01 := hC3.out.cell 0 1 rfl rfl
  have hC3_f01 := hC3.out.free 0 1 rfl
  have hC3_c02 := hC3.out.cell 0 2 rfl rfl
  have hC3_f02 := hC3.out.free 0 2 rfl
  clear hC
  go_wp2
  refine ret_st (hC3.out |>.set 0 rfl |>.set 0 rfl |>.set 0 rfl) (v := .agg #[.slice a3 n3 c3, .bool m3, .slice d3 e3 f3]) (fun hF => ?_) rfl (fun hF => ⟨_, _, _, _, _, _, _, rfl, hF.r 0 rfl, hF.be⟩)
  · have e0 := hF.cell 0 0 rfl rfl
    have e1 := hF.cell 0 1 rfl rfl
    have e2 := hF.cell 0 2 rfl rfl
    simp [results, Tryd.results42, go_sem, e0, e1, e2]

section
variable {w : World} {a1 : Option Addr} {n1 c1 : Nat} {m1 : Bool} {d1 : Option Addr} {e1 f1 : Nat} {q1 : Rat} {a2 : Option Addr} {n2 c2 : Nat} {m2 : Bool} {d2 : Option Addr} {e2 f2 : Nat} {q2 : Rat} {k1 k2 : Nat}
/-- the better one -/
def better (way : Int) (x y : Rat) : Rat := if cmpQ y x = way then y else x
end

theorem better_bd {N : Nat} {way : Int} : ∀ (qs : List Rat), (∀ q ∈ qs, Bq N q) → ∀ k, k ≤ qs.length → Bq (N + 1) (foldQ (better way) (qs.take k))
  | qs, _, 0, _ => by rw [List.take_zero]; exact Bq.zero
  | qs, h, k + 1, hk => by
    have ih := better_bd (way := way) qs h k (by omega)
    have hq := h qs[k] (List.getElem_mem (by omega))
    rw [List.take_succ_eq_append_getElem (by omega), foldQ_snoc]
    split
    · exact hq.mono (by omega)
    · unfold better
      split
      · exact hq.mono (by omega)
      · exact ih

end Go.Proofs.YtnimnoodpnhodaaDoor

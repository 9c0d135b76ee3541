/- the reference's Sum, Min, Max -/
import Derived.Test.YtmfplelodnoicaaGreatDoorWR
import Derived.Test.YtmfplelodnoicaaGreatDoorWM
import Derived.Test.YtmfplelodnoicaaGreatDoorWS2
import Derived.Test.YtmfplelodnoicaaGreatDoorWS3
namespace Go.Proofs.YtmfplelodnoicaaGreatDoor
open Go.RowKit Dig

theorem better_yes {way : Int} {x y : Rat} (h : cmpQ y x = way) : better way x y = y := by unfold better; rw [if_pos h]
theorem better_no {way : Int} {x y : Rat} (h : ¬ cmpQ y x = way) : better way x y = x := by unfold better; rw [if_neg h]
theorem take_ne {qs : List Rat} {k : Nat} (h0 : k ≠ 0) (h : k < qs.length) : qs.take k ≠ [] := by
  intro e
  have := congrArg List.length e
  rw [List.length_take] at this
  simp only [List.length_nil] at this
  omega
theorem cmpQ_ge1 (a b : Rat) : -1 ≤ cmpQ a b := by unfold cmpQ; split; omega; split <;> omega
theorem cmpQ_le1 (a b : Rat) : cmpQ a b ≤ 1 := by unfold cmpQ; split; omega; split <;> omega
/-- a row of the reference's ratios -/
def RowQ (w : World) (v : Value) (qs : List Rat) : Prop := ∃ a c, v = .slice a qs.length c ∧ ∀ (k : Nat) (hk : k < qs.length), ∃ g s ga gn gc t ha hn hc, a = some ⟨g, 0, none⟩ ∧ g < w.heap.size ∧
  w.cell? ⟨g, k * 4, none⟩ = some (.int .i64 s) ∧ w.cell? ⟨g, k * 4 + 1, none⟩ = some (.slice ga gn gc) ∧ w.cell? ⟨g, k * 4 + 2, none⟩ = some (.int .i64 t) ∧ w.cell? ⟨g, k * 4 + 3, none⟩ = some (.slice ha hn hc) ∧ Nq w s (.slice ga gn gc) t (.slice ha hn hc) qs[k]
theorem RowQ.mono {w w' : World} {v : Value} {qs : List Rat} (h : RowQ w v qs) (hb : Below w.heap.size w w') : RowQ w' v qs := by
  obtain ⟨a, c, rfl, h⟩ := h
  refine ⟨a, c, rfl, fun k hk => ?_⟩
  obtain ⟨g, s, ga, gn, gc, t, ha, hn, hc, h1, h2, h3, h4, h5, h6, h7⟩ := h k hk
  exact ⟨g, s, ga, gn, gc, t, ha, hn, hc, h1, Nat.lt_of_lt_of_le h2 hb.size, (hb.cell (p := ⟨g, _, none⟩) h2).trans h3, (hb.cell (p := ⟨g, _, none⟩) h2).trans h4, (hb.cell (p := ⟨g, _, none⟩) h2).trans h5, (hb.cell (p := ⟨g, _, none⟩) h2).trans h6, h7.keep (Below.keeps hb)⟩

set_option maxRecDepth 100000 in
set_option maxHeartbeats 4000000 in
theorem sumN_any (a : Option Addr) (c : Nat) (qs : List Rat) (w : World) (h : RowQ w (.slice a qs.length c) qs) (N : Nat) (hB : ∀ q ∈ qs, Bq N q) (hN : N ≤ 1000) (hl : qs.length ≤ 35) :
    Calls Tryz.prog 79 #[.slice a qs.length c] w (RetNQ w (foldQ (· + ·) qs)) := by
  have HR := Lib.hid h
  have HB := Lib.hid hB
  have HBB := Lib.hid (sum_bd qs hB)
  clear h hB
  have hC := Lib.hid (((St.enter w).al (w.heap.size) #[.int .i64 0, .slice none 0 0, .int .i64 0, .slice none 0 0] 54 rfl rfl).al (w.heap.size + 1) #[.int .i64 0, .slice none 0 0, .int .i64 0, .slice none 0 0] 54 (by simp) rfl)
  go_enter Tryz.func79, Tryz.ntmps79
  go_wp2
  go_loopw [4] (fun iv wr => ∃ (k : Nat) (s1 : Int) (a1 : Option Addr) (n1 c1 : Nat) (t1 : Int) (d1 : Option Addr) (e1 f1 : Nat), k ≤ qs.length ∧ iv = .int .i64 k ∧ Hid (St w wr [(w.heap.size, #[.int .i64 0, .slice none 0 0, .int .i64 0, .slice none 0 0], 54), (w.heap.size + 1, #[.int .i64 s1, .slice a1 n1 c1, .int .i64 t1, .slice d1 e1 f1], 54)] [fun V => Nq V s1 (.slice a1 n1 c1) t1 (.slice d1 e1 f1) (foldQ (· + ·) (qs.take k))])) (fun iv _ => qs.length - (intOf iv).toNat)
  case atStart => exact ⟨0, 0, none, 0, 0, 0, none, 0, 0, by omega, rfl, hC.out.pq Nq.nil⟩
  case round =>
    clear hC
    obtain ⟨k, s1, a1, n1, c1, t1, d1, e1, f1, hk, rfl, hC⟩ := hrel
    by_cases hlt : k < qs.length
    · obtain ⟨_, _, hv, hrow⟩ := HR.out
      simp only [Value.slice.injEq] at hv
      obtain ⟨rfl, _, rfl⟩ := hv
      obtain ⟨g, s2, a2, n2, c2, t2, d2, e2, f2, rfl, hg, hc0, hc1, hc2, hc3, hq⟩ := hrow k hlt
      have HG := Lib.hid hg
      have X0 := Lib.hid hc0
      have X1 := Lib.hid hc1
      have X2 := Lib.hid hc2
      have X3 := Lib.hid hc3
      have hq' := hq.keep (Below.keeps hC.out.be)
      have HT := Lib.hid (show qs.take (k + 1) = qs.take k ++ [qs[k]] from List.take_succ_eq_append_getElem hlt)
      have hi0 : (0 : Int) ≤ (k : Int) := by omega
      have hi1 : (k : Int) < (qs.length : Int) := by omega
      have hC0 := Lib.hid (hC.out.pq hq')
      clear hrow hc0 hc1 hc2 hc3 hq hq' hg hC
      have hbk : k * (N + 1) + 1 ≤ 36000 := by
        have := Nat.mul_le_mul (show k ≤ 35 by omega) (show N + 1 ≤ 1001 by omega)
        omega
      go_wp2_with fail
      refine wp_region_noPanic ?_
      refine wp_region_held_drew (S := (fun w' => w'.cell? ⟨g, k * 4, none⟩ = some (.int .i64 s2) ∧ w'.cell? ⟨g, k * 4 + 1, none⟩ = some (.slice a2 n2 c2) ∧ w'.cell? ⟨g, k * 4 + 2, none⟩ = some (.int .i64 t2) ∧ w'.cell? ⟨g, k * 4 + 3, none⟩ = some (.slice d2 e2 f2) ∧ True)) (by kernel_rfl) ⟨(hC0.out.drew.be.cell (p := ⟨g, k * 4, none⟩) HG.out).trans X0.out, (hC0.out.drew.be.cell (p := ⟨g, k * 4 + 1, none⟩) HG.out).trans X1.out, (hC0.out.drew.be.cell (p := ⟨g, k * 4 + 2, none⟩) HG.out).trans X2.out, (hC0.out.drew.be.cell (p := ⟨g, k * 4 + 3, none⟩) HG.out).trans X3.out, trivial⟩ (fun hH => ?_)
      refine wpAnyH_gen (show St w _ [(w.heap.size, #[.int .i64 0, .slice none 0 0, .int .i64 0, .slice none 0 0], 54), (w.heap.size + 1, #[.int .i64 s1, .slice a1 n1 c1, .int .i64 t1, .slice d1 e1 f1], 54)] [fun V => Nq V s1 (.slice a1 n1 c1) t1 (.slice d1 e1 f1) (foldQ (· + ·) (qs.take k)), fun V => Nq V s2 (.slice a2 n2 c2) t2 (.slice d2 e2 f2) (qs[k])] from hC0.out.drew) hH ?_
      intro V31_0 hc hH31_0
      have hV31_0 := Lib.hid hc
      clear hc hH hC0
      refine wpAnyH_take (i := 1) (oi := ⟨_, _, _, _, _, _⟩) (v := ?_) rfl (by kernel_rfl) (by kernel_rfl) (by kernel_rfl) (fun _ _ _ h => h) (Or.inl ⟨by rfl, ?_⟩) hH31_0 ?_
      rotate_left
      · intro wS hSw; (try dsimp only at hSw); go_simp; try with_reducible rfl
      try simp only [Act.put, List.setIfInBounds_toArray, List.set_cons_zero, List.set_cons_succ]
      refine wpAnyH_take (i := 2) (oi := ⟨_, _, _, _, _, _⟩) (v := ?_) rfl (by kernel_rfl) (by kernel_rfl) (by kernel_rfl) (fun _ _ _ h => h) (Or.inl ⟨by rfl, ?_⟩) hH31_0 ?_
      rotate_left
      · intro wS hSw; (try dsimp only at hSw); go_simp; try with_reducible rfl
      try simp only [Act.put, List.setIfInBounds_toArray, List.set_cons_zero, List.set_cons_succ]
      refine wpAnyH_take (i := 3) (oi := ⟨_, _, _, _, _, _⟩) (v := ?_) rfl (by kernel_rfl) (by kernel_rfl) (by kernel_rfl) (fun _ _ _ h => h) (Or.inl ⟨by rfl, ?_⟩) hH31_0 ?_
      rotate_left
      · intro wS hSw; (try dsimp only at hSw); go_simp; try with_reducible rfl
      try simp only [Act.put, List.setIfInBounds_toArray, List.set_cons_zero, List.set_cons_succ]
      refine wpAnyH_take (i := 4) (oi := ⟨_, _, _, _, _, _⟩) (v := ?_) rfl (by kernel_rfl) (by kernel_rfl) (by kernel_rfl) (fun _ _ _ h => h) (Or.inl ⟨by rfl, ?_⟩) hH31_0 ?_
      rotate_left
      · intro wS hSw; (try dsimp only at hSw); go_simp; try with_reducible rfl
      try simp only [Act.put, List.setIfInBounds_toArray, List.set_cons_zero, List.set_cons_succ]
      refine wpAnyH_ready (rs := [0]) (by kernel_rfl) (by simp) ?_
      refine AllReadyH.cons (o := ⟨_, _, _, _, _, _⟩) rfl (fun Kq hKq => ?_) AllReadyH.nil
      have cQ0 := hV31_0.out.cell 1 0 rfl rfl
      have cQ1 := hV31_0.out.cell 1 1 rfl rfl
      have cQ2 := hV31_0.out.cell 1 2 rfl rfl
      have cQ3 := hV31_0.out.cell 1 3 rfl rfl
      go_simp
      refine stepH hKq (show St w _ [(w.heap.size, #[.int .i64 0, .slice none 0 0, .int .i64 0, .slice none 0 0], 54), (w.heap.size + 1, #[.int .i64 s1, .slice a1 n1 c1, .int .i64 t1, .slice d1 e1 f1], 54)] [fun V => Nq V s1 (.slice a1 n1 c1) t1 (.slice d1 e1 f1) (foldQ (· + ·) (qs.take k)), fun V => Nq V s2 (.slice a2 n2 c2) t2 (.slice d2 e2 f2) (qs[k])] from hV31_0.out) (fun _ hX => ⟨(hX.be.cell (p := ⟨g, k * 4, none⟩) HG.out).trans X0.out, (hX.be.cell (p := ⟨g, k * 4 + 1, none⟩) HG.out).trans X1.out, (hX.be.cell (p := ⟨g, k * 4 + 2, none⟩) HG.out).trans X2.out, (hX.be.cell (p := ⟨g, k * 4 + 3, none⟩) HG.out).trans X3.out, trivial⟩) ?_
      intro V31_1 hc hH31_1
      have hV31_1 := Lib.hid hc
      clear hc hKq Kq hV31_0 cQ0 cQ1 cQ2 cQ3 hH31_0
      try simp only [Act.put, List.setIfInBounds_toArray, List.set_cons_zero, List.set_cons_succ]
      refine wpAnyH_ready (rs := [5]) (by kernel_rfl) (by simp) ?_
      refine AllReadyH.cons (o := ⟨_, _, _, _, _, _⟩) rfl (fun Kq hKq => ?_) AllReadyH.nil
      go_simp
      go_at_call 68
      refine (raddN_b (hV31_1.out.rq 0 rfl) (hV31_1.out.rq 1 rfl) (HBB.out k hk) (HB.out qs[k] (List.getElem_mem hlt)) (by omega) (by omega)).mono ?_
      rintro e w30 ⟨s30, a30, n30, c30, t30, d30, e30, f30, rfl, hz, hb⟩
      (try go_wp2_with fail)
      refine stepH hKq (show St w _ [(w.heap.size, #[.int .i64 0, .slice none 0 0, .int .i64 0, .slice none 0 0], 54), (w.heap.size + 1, #[.int .i64 s1, .slice a1 n1 c1, .int .i64 t1, .slice d1 e1 f1], 54)] [fun V => Nq V s1 (.slice a1 n1 c1) t1 (.slice d1 e1 f1) (foldQ (· + ·) (qs.take k)), fun V => Nq V s2 (.slice a2 n2 c2) t2 (.slice d2 e2 f2) (qs[k]), fun V => Nq V s30 (.slice a30 n30 c30) t30 (.slice d30 e30 f30) ((foldQ (· + ·) (qs.take k) + qs[k]))] from ((hV31_1.out.call hb).pq hz)) (fun _ hX => ⟨(hX.be.cell (p := ⟨g, k * 4, none⟩) HG.out).trans X0.out, (hX.be.cell (p := ⟨g, k * 4 + 1, none⟩) HG.out).trans X1.out, (hX.be.cell (p := ⟨g, k * 4 + 2, none⟩) HG.out).trans X2.out, (hX.be.cell (p := ⟨g, k * 4 + 3, none⟩) HG.out).trans X3.out, trivial⟩) ?_
      intro V31_2 hc hH31_2
      have hV31_2 := Lib.hid hc
      clear hc hKq Kq hV31_1 hb hz hH31_1
      try simp only [Act.put, List.setIfInBounds_toArray, List.set_cons_zero, List.set_cons_succ]
      refine wpAnyH_ready (rs := [6]) (by kernel_rfl) (by simp) ?_
      refine AllReadyH.cons (o := ⟨_, _, _, _, _, _⟩) rfl (fun Kq hKq => ?_) AllReadyH.nil
      have cQ0 := hV31_2.out.cell 1 0 rfl rfl
      have fQ0 := hV31_2.out.free 1 0 rfl
      have cQ1 := hV31_2.out.cell 1 1 rfl rfl
      have fQ1 := hV31_2.out.free 1 1 rfl
      have cQ2 := hV31_2.out.cell 1 2 rfl rfl
      have fQ2 := hV31_2.out.free 1 2 rfl
      have cQ3 := hV31_2.out.cell 1 3 rfl rfl
      have fQ3 := hV31_2.out.free 1 3 rfl
      go_simp
      refine stepH hKq (show St w _ [(w.heap.size, #[.int .i64 0, .slice none 0 0, .int .i64 0, .slice none 0 0], 54), (w.heap.size + 1, #[.int .i64 s30, .slice a30 n30 c30, .int .i64 t30, .slice d30 e30 f30], 54)] [fun V => Nq V s1 (.slice a1 n1 c1) t1 (.slice d1 e1 f1) (foldQ (· + ·) (qs.take k)), fun V => Nq V s2 (.slice a2 n2 c2) t2 (.slice d2 e2 f2) (qs[k]), fun V => Nq V s30 (.slice a30 n30 c30) t30 (.slice d30 e30 f30) ((foldQ (· + ·) (qs.take k) + qs[k]))] from (hV31_2.out.set4 1 rfl)) (fun _ hX => ⟨(hX.be.cell (p := ⟨g, k * 4, none⟩) HG.out).trans X0.out, (hX.be.cell (p := ⟨g, k * 4 + 1, none⟩) HG.out).trans X1.out, (hX.be.cell (p := ⟨g, k * 4 + 2, none⟩) HG.out).trans X2.out, (hX.be.cell (p := ⟨g, k * 4 + 3, none⟩) HG.out).trans X3.out, trivial⟩) ?_
      intro V31_3 hc hH31_3
      have hV31_3 := Lib.hid hc
      clear hc hKq Kq hV31_2 cQ0 fQ0 cQ1 fQ1 cQ2 fQ2 cQ3 fQ3 hH31_2
      try simp only [Act.put, List.setIfInBounds_toArray, List.set_cons_zero, List.set_cons_succ]
      refine wpAnyH_done (by kernel_rfl) ?_ _
      refine NoPanic.normal ?_
      go_wp2
      go_roundw
      case rel =>
        refine ⟨k + 1, s30, a30, n30, c30, t30, d30, e30, f30, by omega, by go_num, ?_⟩
        have e : foldQ (· + ·) (qs.take (k + 1)) = foldQ (· + ·) (qs.take k) + qs[k] := by
          rw [HT.out, foldQ_snoc]
          by_cases h0 : qs.take k = []
          · rw [if_pos h0, h0]; exact (Rat.zero_add _).symm
          · rw [if_neg h0]
        rw [e]
        exact Lib.hid (hV31_3.out.pick [2] rfl)
      case measure => simp [intOf]; omega
    · have hn0 : ¬ ((k : Int) < (qs.length : Int)) := by omega
      have HK := Lib.hid (show qs.take k = qs from List.take_of_length_le (by omega))
      have hC_c00 := hC.out.cell 0 0 rfl rfl
      have hC_f00 := hC.out.free 0 0 rfl
      have hC_c01 := hC.out.cell 0 1 rfl rfl
      have hC_f01 := hC.out.free 0 1 rfl
      have hC_c02 := hC.out.cell 0 2 rfl rfl
      have hC_f02 := hC.out.free 0 2 rfl
      have hC_c03 := hC.out.cell 0 3 rfl rfl
      have hC_f03 := hC.out.free 0 3 rfl
      have hC_c10 := hC.out.cell 1 0 rfl rfl
      have hC_f10 := hC.out.free 1 0 rfl
      have hC_c11 := hC.out.cell 1 1 rfl rfl
      have hC_f11 := hC.out.free 1 1 rfl
      have hC_c12 := hC.out.cell 1 2 rfl rfl
      have hC_f12 := hC.out.free 1 2 rfl
      have hC_c13 := hC.out.cell 1 3 rfl rfl
      have hC_f13 := hC.out.free 1 3 rfl
      go_wp2
      refine ret_st (hC.out |>.set 0 rfl |>.set 0 rfl |>.set 0 rfl |>.set 0 rfl) (v := .agg #[.int .i64 s1, .slice a1 n1 c1, .int .i64 t1, .slice d1 e1 f1]) (fun hF => ?_) rfl (fun hF => ⟨_, _, _, _, _, _, _, _, rfl, HK.out ▸ hF.rq 0 rfl, hF.be⟩)
      · have e0 := hF.cell 0 0 rfl rfl
        have e1 := hF.cell 0 1 rfl rfl
        have e2 := hF.cell 0 2 rfl rfl
        have e3 := hF.cell 0 3 rfl rfl
        simp [results, Tryz.results79, go_sem, e0, e1, e2, e3]

set_option maxRecDepth 100000 in
set_option maxHeartbeats 4000000 in
theorem minN_any (a : Option Addr) (c : Nat) (qs : List Rat) (w : World) (h : RowQ w (.slice a qs.length c) qs) (N : Nat) (hB : ∀ q ∈ qs, Bq N q) (hN : N ≤ 1000) (hl : qs.length ≤ 35) :
    Calls Tryz.prog 81 #[.slice a qs.length c] w (RetNQ w (foldQ (better (-1)) qs)) := by
  have HR := Lib.hid h
  have HB := Lib.hid hB
  have HBB := Lib.hid (better_bd (way := (-1)) qs hB)
  clear h hB
  have hC := Lib.hid (((St.enter w).al (w.heap.size) #[.int .i64 0, .slice none 0 0, .int .i64 0, .slice none 0 0] 54 rfl rfl).al (w.heap.size + 1) #[.int .i64 0, .slice none 0 0, .int .i64 0, .slice none 0 0] 54 (by simp) rfl)
  go_enter Tryz.func81, Tryz.ntmps81
  go_wp2
  go_loopw [4] (fun iv wr => ∃ (k : Nat) (s1 : Int) (a1 : Option Addr) (n1 c1 : Nat) (t1 : Int) (d1 : Option Addr) (e1 f1 : Nat), k ≤ qs.length ∧ iv = .int .i64 k ∧ Hid (St w wr [(w.heap.size, #[.int .i64 0, .slice none 0 0, .int .i64 0, .slice none 0 0], 54), (w.heap.size + 1, #[.int .i64 s1, .slice a1 n1 c1, .int .i64 t1, .slice d1 e1 f1], 54)] [fun V => Nq V s1 (.slice a1 n1 c1) t1 (.slice d1 e1 f1) (foldQ (better (-1)) (qs.take k))])) (fun iv _ => qs.length - (intOf iv).toNat)
  case atStart => exact ⟨0, 0, none, 0, 0, 0, none, 0, 0, by omega, rfl, hC.out.pq Nq.nil⟩
  case round =>
    clear hC
    obtain ⟨k, s1, a1, n1, c1, t1, d1, e1, f1, hk, rfl, hC⟩ := hrel
    by_cases hlt : k < qs.length
    · obtain ⟨_, _, hv, hrow⟩ := HR.out
      simp only [Value.slice.injEq] at hv
      obtain ⟨rfl, _, rfl⟩ := hv
      obtain ⟨g, s2, a2, n2, c2, t2, d2, e2, f2, rfl, hg, hc0, hc1, hc2, hc3, hq⟩ := hrow k hlt
      have HG := Lib.hid hg
      have X0 := Lib.hid hc0
      have X1 := Lib.hid hc1
      have X2 := Lib.hid hc2
      have X3 := Lib.hid hc3
      have hq' := hq.keep (Below.keeps hC.out.be)
      have HT := Lib.hid (show qs.take (k + 1) = qs.take k ++ [qs[k]] from List.take_succ_eq_append_getElem hlt)
      have hi0 : (0 : Int) ≤ (k : Int) := by omega
      have hi1 : (k : Int) < (qs.length : Int) := by omega
      have hC0 := Lib.hid (hC.out.pq hq')
      clear hrow hc0 hc1 hc2 hc3 hq hq' hg hC
      by_cases hk0 : k = 0
      · have i0 : (((k : Nat) : Int) == 0) = true := by simp; omega
        have HK0 := Lib.hid hk0
        clear hk0
        go_wp2_with fail
        refine wp_region_noPanic ?_
        refine wp_region_held_drew (S := (fun w' => w'.cell? ⟨w.heap.size + 1, 0, none⟩ = some (.int .i64 s1) ∧ w'.cell? ⟨w.heap.size + 1, 1, none⟩ = some (.slice a1 n1 c1) ∧ w'.cell? ⟨w.heap.size + 1, 2, none⟩ = some (.int .i64 t1) ∧ w'.cell? ⟨w.heap.size + 1, 3, none⟩ = some (.slice d1 e1 f1) ∧ w'.cell? ⟨g, k * 4, none⟩ = some (.int .i64 s2) ∧ w'.cell? ⟨g, k * 4 + 1, none⟩ = some (.slice a2 n2 c2) ∧ w'.cell? ⟨g, k * 4 + 2, none⟩ = some (.int .i64 t2) ∧ w'.cell? ⟨g, k * 4 + 3, none⟩ = some (.slice d2 e2 f2) ∧ True)) (by kernel_rfl) ⟨hC0.out.drew.cell 1 0 rfl rfl, hC0.out.drew.cell 1 1 rfl rfl, hC0.out.drew.cell 1 2 rfl rfl, hC0.out.drew.cell 1 3 rfl rfl, (hC0.out.drew.be.cell (p := ⟨g, k * 4, none⟩) HG.out).trans X0.out, (hC0.out.drew.be.cell (p := ⟨g, k * 4 + 1, none⟩) HG.out).trans X1.out, (hC0.out.drew.be.cell (p := ⟨g, k * 4 + 2, none⟩) HG.out).trans X2.out, (hC0.out.drew.be.cell (p := ⟨g, k * 4 + 3, none⟩) HG.out).trans X3.out, trivial⟩ (fun hH => ?_)
        refine wpAnyH_gen (show St w _ [(w.heap.size, #[.int .i64 0, .slice none 0 0, .int .i64 0, .slice none 0 0], 54), (w.heap.size + 1, #[.int .i64 s1, .slice a1 n1 c1, .int .i64 t1, .slice d1 e1 f1], 54)] [fun V => Nq V s1 (.slice a1 n1 c1) t1 (.slice d1 e1 f1) (foldQ (better (-1)) (qs.take k)), fun V => Nq V s2 (.slice a2 n2 c2) t2 (.slice d2 e2 f2) (qs[k])] from hC0.out.drew) hH ?_
        intro V30_0 hc hH30_0
        have hV30_0 := Lib.hid hc
        clear hc hH hC0
        refine wpAnyH_take (i := 0) (oi := ⟨_, _, _, _, _, _⟩) (v := ?_) rfl (by kernel_rfl) (by kernel_rfl) (by kernel_rfl) (fun _ _ _ h => h) (Or.inl ⟨by rfl, ?_⟩) hH30_0 ?_
        rotate_left
        · intro wS hSw; (try dsimp only at hSw); go_simp; try with_reducible rfl
        try simp only [Act.put, List.setIfInBounds_toArray, List.set_cons_zero, List.set_cons_succ]
        refine wpAnyH_take (i := 1) (oi := ⟨_, _, _, _, _, _⟩) (v := ?_) rfl (by kernel_rfl) (by kernel_rfl) (by kernel_rfl) (fun _ _ _ h => h) (Or.inl ⟨by rfl, ?_⟩) hH30_0 ?_
        rotate_left
        · intro wS hSw; (try dsimp only at hSw); go_simp; try with_reducible rfl
        try simp only [Act.put, List.setIfInBounds_toArray, List.set_cons_zero, List.set_cons_succ]
        refine wpAnyH_take (i := 2) (oi := ⟨_, _, _, _, _, _⟩) (v := ?_) rfl (by kernel_rfl) (by kernel_rfl) (by kernel_rfl) (fun _ _ _ h => h) (Or.inl ⟨by rfl, ?_⟩) hH30_0 ?_
        rotate_left
        · intro wS hSw; (try dsimp only at hSw); go_simp; try with_reducible rfl
        try simp only [Act.put, List.setIfInBounds_toArray, List.set_cons_zero, List.set_cons_succ]
        refine wpAnyH_take (i := 3) (oi := ⟨_, _, _, _, _, _⟩) (v := undef) rfl (by kernel_rfl) (by kernel_rfl) (by kernel_rfl) (fun _ _ _ h => h) (Or.inr ⟨by rfl, rfl⟩) hH30_0 ?_
        try simp only [Act.put, List.setIfInBounds_toArray, List.set_cons_zero, List.set_cons_succ]
        refine wpAnyH_take (i := 4) (oi := ⟨_, _, _, _, _, _⟩) (v := undef) rfl (by kernel_rfl) (by kernel_rfl) (by kernel_rfl) (fun _ _ _ h => h) (Or.inr ⟨by rfl, rfl⟩) hH30_0 ?_
        try simp only [Act.put, List.setIfInBounds_toArray, List.set_cons_zero, List.set_cons_succ]
        refine wpAnyH_take (i := 5) (oi := ⟨_, _, _, _, _, _⟩) (v := undef) rfl (by kernel_rfl) (by kernel_rfl) (by kernel_rfl) (fun _ _ _ h => h) (Or.inr ⟨by rfl, rfl⟩) hH30_0 ?_
        try simp only [Act.put, List.setIfInBounds_toArray, List.set_cons_zero, List.set_cons_succ]
        refine wpAnyH_take (i := 6) (oi := ⟨_, _, _, _, _, _⟩) (v := undef) rfl (by kernel_rfl) (by kernel_rfl) (by kernel_rfl) (fun _ _ _ h => h) (Or.inr ⟨by rfl, rfl⟩) hH30_0 ?_
        try simp only [Act.put, List.setIfInBounds_toArray, List.set_cons_zero, List.set_cons_succ]
        refine wpAnyH_take (i := 7) (oi := ⟨_, _, _, _, _, _⟩) (v := undef) rfl (by kernel_rfl) (by kernel_rfl) (by kernel_rfl) (fun _ _ _ h => h) (Or.inr ⟨by rfl, rfl⟩) hH30_0 ?_
        try simp only [Act.put, List.setIfInBounds_toArray, List.set_cons_zero, List.set_cons_succ]
        refine wpAnyH_take (i := 8) (oi := ⟨_, _, _, _, _, _⟩) (v := undef) rfl (by kernel_rfl) (by kernel_rfl) (by kernel_rfl) (fun _ _ _ h => h) (Or.inr ⟨by rfl, rfl⟩) hH30_0 ?_
        try simp only [Act.put, List.setIfInBounds_toArray, List.set_cons_zero, List.set_cons_succ]
        refine wpAnyH_take (i := 9) (oi := ⟨_, _, _, _, _, _⟩) (v := undef) rfl (by kernel_rfl) (by kernel_rfl) (by kernel_rfl) (fun _ _ _ h => h) (Or.inr ⟨by rfl, rfl⟩) hH30_0 ?_
        try simp only [Act.put, List.setIfInBounds_toArray, List.set_cons_zero, List.set_cons_succ]
        refine wpAnyH_take (i := 10) (oi := ⟨_, _, _, _, _, _⟩) (v := ?_) rfl (by kernel_rfl) (by kernel_rfl) (by kernel_rfl) (fun _ _ _ h => h) (Or.inl ⟨by rfl, ?_⟩) hH30_0 ?_
        rotate_left
        · intro wS hSw; (try dsimp only at hSw); go_simp; try with_reducible rfl
        try simp only [Act.put, List.setIfInBounds_toArray, List.set_cons_zero, List.set_cons_succ]
        refine wpAnyH_done (by kernel_rfl) ?_ _
        refine NoPanic.normal ?_
        have x0 := (hV30_0.out.be.cell (p := ⟨g, k * 4, none⟩) HG.out).trans X0.out
        have x1 := (hV30_0.out.be.cell (p := ⟨g, k * 4 + 1, none⟩) HG.out).trans X1.out
        have x2 := (hV30_0.out.be.cell (p := ⟨g, k * 4 + 2, none⟩) HG.out).trans X2.out
        have x3 := (hV30_0.out.be.cell (p := ⟨g, k * 4 + 3, none⟩) HG.out).trans X3.out
        have cQ0 := hV30_0.out.cell 1 0 rfl rfl
        have cQ1 := hV30_0.out.cell 1 1 rfl rfl
        have cQ2 := hV30_0.out.cell 1 2 rfl rfl
        have cQ3 := hV30_0.out.cell 1 3 rfl rfl
        have fQ0 := hV30_0.out.free 1 0 rfl
        have fQ1 := hV30_0.out.free 1 1 rfl
        have fQ2 := hV30_0.out.free 1 2 rfl
        have fQ3 := hV30_0.out.free 1 3 rfl
        go_wp2
        go_roundw
        case rel =>
          refine ⟨k + 1, s2, a2, n2, c2, t2, d2, e2, f2, by omega, by go_num, ?_⟩
          rw [HT.out, foldQ_snoc, if_pos (by rw [HK0.out]; rfl)]
          exact Lib.hid ((hV30_0.out.set4 1 rfl).pick [1] rfl)
        case measure => simp [intOf]; omega
      · have i0 : (((k : Nat) : Int) == 0) = false := by simp; omega
        have HK0 := Lib.hid hk0
        clear hk0
        obtain ⟨u, hu⟩ : ∃ u : Int, cmpQ qs[k] (foldQ (better (-1)) (qs.take k)) = u := ⟨_, rfl⟩
        have HU := Lib.hid hu
        have hu1 : -1 ≤ u := by rw [← hu]; exact cmpQ_ge1 _ _
        have hu2 : u ≤ 1 := by rw [← hu]; exact cmpQ_le1 _ _
        clear hu
        by_cases hw : u = (-1)
        · have hd : decide (u < 0) = true := by simp; omega
          have HW := Lib.hid hw
          clear hw
          go_wp2_with fail
          refine wp_region_noPanic ?_
          refine wp_region_held_drew (S := (fun w' => w'.cell? ⟨w.heap.size + 1, 0, none⟩ = some (.int .i64 s1) ∧ w'.cell? ⟨w.heap.size + 1, 1, none⟩ = some (.slice a1 n1 c1) ∧ w'.cell? ⟨w.heap.size + 1, 2, none⟩ = some (.int .i64 t1) ∧ w'.cell? ⟨w.heap.size + 1, 3, none⟩ = some (.slice d1 e1 f1) ∧ w'.cell? ⟨g, k * 4, none⟩ = some (.int .i64 s2) ∧ w'.cell? ⟨g, k * 4 + 1, none⟩ = some (.slice a2 n2 c2) ∧ w'.cell? ⟨g, k * 4 + 2, none⟩ = some (.int .i64 t2) ∧ w'.cell? ⟨g, k * 4 + 3, none⟩ = some (.slice d2 e2 f2) ∧ True)) (by kernel_rfl) ⟨hC0.out.drew.cell 1 0 rfl rfl, hC0.out.drew.cell 1 1 rfl rfl, hC0.out.drew.cell 1 2 rfl rfl, hC0.out.drew.cell 1 3 rfl rfl, (hC0.out.drew.be.cell (p := ⟨g, k * 4, none⟩) HG.out).trans X0.out, (hC0.out.drew.be.cell (p := ⟨g, k * 4 + 1, none⟩) HG.out).trans X1.out, (hC0.out.drew.be.cell (p := ⟨g, k * 4 + 2, none⟩) HG.out).trans X2.out, (hC0.out.drew.be.cell (p := ⟨g, k * 4 + 3, none⟩) HG.out).trans X3.out, trivial⟩ (fun hH => ?_)
          refine wpAnyH_gen (show St w _ [(w.heap.size, #[.int .i64 0, .slice none 0 0, .int .i64 0, .slice none 0 0], 54), (w.heap.size + 1, #[.int .i64 s1, .slice a1 n1 c1, .int .i64 t1, .slice d1 e1 f1], 54)] [fun V => Nq V s1 (.slice a1 n1 c1) t1 (.slice d1 e1 f1) (foldQ (better (-1)) (qs.take k)), fun V => Nq V s2 (.slice a2 n2 c2) t2 (.slice d2 e2 f2) (qs[k])] from hC0.out.drew) hH ?_
          intro V31_0 hc hH31_0
          have hV31_0 := Lib.hid hc
          clear hc hH hC0
          refine wpAnyH_take (i := 0) (oi := ⟨_, _, _, _, _, _⟩) (v := ?_) rfl (by kernel_rfl) (by kernel_rfl) (by kernel_rfl) (fun _ _ _ h => h) (Or.inl ⟨by rfl, ?_⟩) hH31_0 ?_
          rotate_left
          · intro wS hSw; (try dsimp only at hSw); go_simp; try with_reducible rfl
          try simp only [Act.put, List.setIfInBounds_toArray, List.set_cons_zero, List.set_cons_succ]
          refine wpAnyH_take (i := 1) (oi := ⟨_, _, _, _, _, _⟩) (v := ?_) rfl (by kernel_rfl) (by kernel_rfl) (by kernel_rfl) (fun _ _ _ h => h) (Or.inl ⟨by rfl, ?_⟩) hH31_0 ?_
          rotate_left
          · intro wS hSw; (try dsimp only at hSw); go_simp; try with_reducible rfl
          try simp only [Act.put, List.setIfInBounds_toArray, List.set_cons_zero, List.set_cons_succ]
          refine wpAnyH_take (i := 2) (oi := ⟨_, _, _, _, _, _⟩) (v := ?_) rfl (by kernel_rfl) (by kernel_rfl) (by kernel_rfl) (fun _ _ _ h => h) (Or.inl ⟨by rfl, ?_⟩) hH31_0 ?_
          rotate_left
          · intro wS hSw; (try dsimp only at hSw); go_simp; try with_reducible rfl
          try simp only [Act.put, List.setIfInBounds_toArray, List.set_cons_zero, List.set_cons_succ]
          refine wpAnyH_take (i := 3) (oi := ⟨_, _, _, _, _, _⟩) (v := ?_) rfl (by kernel_rfl) (by kernel_rfl) (by kernel_rfl) (fun _ _ _ h => h) (Or.inl ⟨by rfl, ?_⟩) hH31_0 ?_
          rotate_left
          · intro wS hSw; (try dsimp only at hSw); go_simp; try with_reducible rfl
          try simp only [Act.put, List.setIfInBounds_toArray, List.set_cons_zero, List.set_cons_succ]
          refine wpAnyH_take (i := 4) (oi := ⟨_, _, _, _, _, _⟩) (v := ?_) rfl (by kernel_rfl) (by kernel_rfl) (by kernel_rfl) (fun _ _ _ h => h) (Or.inl ⟨by rfl, ?_⟩) hH31_0 ?_
          rotate_left
          · intro wS hSw; (try dsimp only at hSw); go_simp; try with_reducible rfl
          try simp only [Act.put, List.setIfInBounds_toArray, List.set_cons_zero, List.set_cons_succ]
          refine wpAnyH_take (i := 5) (oi := ⟨_, _, _, _, _, _⟩) (v := ?_) rfl (by kernel_rfl) (by kernel_rfl) (by kernel_rfl) (fun _ _ _ h => h) (Or.inl ⟨by rfl, ?_⟩) hH31_0 ?_
          rotate_left
          · intro wS hSw; (try dsimp only at hSw); go_simp; try with_reducible rfl
          try simp only [Act.put, List.setIfInBounds_toArray, List.set_cons_zero, List.set_cons_succ]
          refine wpAnyH_take (i := 6) (oi := ⟨_, _, _, _, _, _⟩) (v := ?_) rfl (by kernel_rfl) (by kernel_rfl) (by kernel_rfl) (fun _ _ _ h => h) (Or.inl ⟨by rfl, ?_⟩) hH31_0 ?_
          rotate_left
          · intro wS hSw; (try dsimp only at hSw); go_simp; try with_reducible rfl
          try simp only [Act.put, List.setIfInBounds_toArray, List.set_cons_zero, List.set_cons_succ]
          refine wpAnyH_take (i := 7) (oi := ⟨_, _, _, _, _, _⟩) (v := ?_) rfl (by kernel_rfl) (by kernel_rfl) (by kernel_rfl) (fun _ _ _ h => h) (Or.inl ⟨by rfl, ?_⟩) hH31_0 ?_
          rotate_left
          · intro wS hSw; (try dsimp only at hSw); go_simp; try with_reducible rfl
          try simp only [Act.put, List.setIfInBounds_toArray, List.set_cons_zero, List.set_cons_succ]
          refine wpAnyH_ready (rs := [8]) (by kernel_rfl) (by simp) ?_
          refine AllReadyH.cons (o := ⟨_, _, _, _, _, _⟩) rfl (fun Kq hKq => ?_) AllReadyH.nil
          go_simp
          go_at_call 77
          refine (rcmpN_is (hV31_0.out.rq 1 rfl) (hV31_0.out.rq 0 rfl) (HB.out qs[k] (List.getElem_mem hlt)) (HBB.out k hk) (by omega) (by omega) HU.out).mono ?_
          rintro e w30 ⟨rfl, hb⟩
          (try go_wp2_with fail)
          refine stepH hKq (show St w _ [(w.heap.size, #[.int .i64 0, .slice none 0 0, .int .i64 0, .slice none 0 0], 54), (w.heap.size + 1, #[.int .i64 s1, .slice a1 n1 c1, .int .i64 t1, .slice d1 e1 f1], 54)] [fun V => Nq V s1 (.slice a1 n1 c1) t1 (.slice d1 e1 f1) (foldQ (better (-1)) (qs.take k)), fun V => Nq V s2 (.slice a2 n2 c2) t2 (.slice d2 e2 f2) (qs[k])] from (hV31_0.out.call hb)) (fun _ hX => ⟨hX.cell 1 0 rfl rfl, hX.cell 1 1 rfl rfl, hX.cell 1 2 rfl rfl, hX.cell 1 3 rfl rfl, (hX.be.cell (p := ⟨g, k * 4, none⟩) HG.out).trans X0.out, (hX.be.cell (p := ⟨g, k * 4 + 1, none⟩) HG.out).trans X1.out, (hX.be.cell (p := ⟨g, k * 4 + 2, none⟩) HG.out).trans X2.out, (hX.be.cell (p := ⟨g, k * 4 + 3, none⟩) HG.out).trans X3.out, trivial⟩) ?_
          intro V31_1 hc hH31_1
          have hV31_1 := Lib.hid hc
          clear hc hKq Kq hV31_0 hb hH31_0
          try simp only [Act.put, List.setIfInBounds_toArray, List.set_cons_zero, List.set_cons_succ]
          refine wpAnyH_take (i := 9) (oi := ⟨_, _, _, _, _, _⟩) (v := ?_) rfl (by kernel_rfl) (by kernel_rfl) (by kernel_rfl) (fun _ _ _ h => h) (Or.inl ⟨by rfl, ?_⟩) hH31_1 ?_
          rotate_left
          · intro wS hSw; (try dsimp only at hSw); go_simp; try with_reducible rfl
          try simp only [Act.put, List.setIfInBounds_toArray, List.set_cons_zero, List.set_cons_succ]
          refine wpAnyH_take (i := 10) (oi := ⟨_, _, _, _, _, _⟩) (v := ?_) rfl (by kernel_rfl) (by kernel_rfl) (by kernel_rfl) (fun _ _ _ h => h) (Or.inl ⟨by rfl, ?_⟩) hH31_1 ?_
          rotate_left
          · intro wS hSw; (try dsimp only at hSw); go_simp; try with_reducible rfl
          try simp only [Act.put, List.setIfInBounds_toArray, List.set_cons_zero, List.set_cons_succ]
          refine wpAnyH_done (by kernel_rfl) ?_ _
          refine NoPanic.normal ?_
          have x0 := (hV31_1.out.be.cell (p := ⟨g, k * 4, none⟩) HG.out).trans X0.out
          have x1 := (hV31_1.out.be.cell (p := ⟨g, k * 4 + 1, none⟩) HG.out).trans X1.out
          have x2 := (hV31_1.out.be.cell (p := ⟨g, k * 4 + 2, none⟩) HG.out).trans X2.out
          have x3 := (hV31_1.out.be.cell (p := ⟨g, k * 4 + 3, none⟩) HG.out).trans X3.out
          have cQ0 := hV31_1.out.cell 1 0 rfl rfl
          have cQ1 := hV31_1.out.cell 1 1 rfl rfl
          have cQ2 := hV31_1.out.cell 1 2 rfl rfl
          have cQ3 := hV31_1.out.cell 1 3 rfl rfl
          have fQ0 := hV31_1.out.free 1 0 rfl
          have fQ1 := hV31_1.out.free 1 1 rfl
          have fQ2 := hV31_1.out.free 1 2 rfl
          have fQ3 := hV31_1.out.free 1 3 rfl
          go_wp2
          go_roundw
          case rel =>
            refine ⟨k + 1, s2, a2, n2, c2, t2, d2, e2, f2, by omega, by go_num, ?_⟩
            rw [HT.out, foldQ_snoc, if_neg (take_ne HK0.out hlt)]
            rw [better_yes (HU.out.trans HW.out)]
            exact Lib.hid ((hV31_1.out.set4 1 rfl).pick [1] rfl)
          case measure => simp [intOf]; omega
        · have hd : decide (u < 0) = false := by simp; omega
          have HW := Lib.hid hw
          clear hw
          go_wp2_with fail
          refine wp_region_noPanic ?_
          refine wp_region_held_drew (S := (fun w' => w'.cell? ⟨w.heap.size + 1, 0, none⟩ = some (.int .i64 s1) ∧ w'.cell? ⟨w.heap.size + 1, 1, none⟩ = some (.slice a1 n1 c1) ∧ w'.cell? ⟨w.heap.size + 1, 2, none⟩ = some (.int .i64 t1) ∧ w'.cell? ⟨w.heap.size + 1, 3, none⟩ = some (.slice d1 e1 f1) ∧ w'.cell? ⟨g, k * 4, none⟩ = some (.int .i64 s2) ∧ w'.cell? ⟨g, k * 4 + 1, none⟩ = some (.slice a2 n2 c2) ∧ w'.cell? ⟨g, k * 4 + 2, none⟩ = some (.int .i64 t2) ∧ w'.cell? ⟨g, k * 4 + 3, none⟩ = some (.slice d2 e2 f2) ∧ True)) (by kernel_rfl) ⟨hC0.out.drew.cell 1 0 rfl rfl, hC0.out.drew.cell 1 1 rfl rfl, hC0.out.drew.cell 1 2 rfl rfl, hC0.out.drew.cell 1 3 rfl rfl, (hC0.out.drew.be.cell (p := ⟨g, k * 4, none⟩) HG.out).trans X0.out, (hC0.out.drew.be.cell (p := ⟨g, k * 4 + 1, none⟩) HG.out).trans X1.out, (hC0.out.drew.be.cell (p := ⟨g, k * 4 + 2, none⟩) HG.out).trans X2.out, (hC0.out.drew.be.cell (p := ⟨g, k * 4 + 3, none⟩) HG.out).trans X3.out, trivial⟩ (fun hH => ?_)
          refine wpAnyH_gen (show St w _ [(w.heap.size, #[.int .i64 0, .slice none 0 0, .int .i64 0, .slice none 0 0], 54), (w.heap.size + 1, #[.int .i64 s1, .slice a1 n1 c1, .int .i64 t1, .slice d1 e1 f1], 54)] [fun V => Nq V s1 (.slice a1 n1 c1) t1 (.slice d1 e1 f1) (foldQ (better (-1)) (qs.take k)), fun V => Nq V s2 (.slice a2 n2 c2) t2 (.slice d2 e2 f2) (qs[k])] from hC0.out.drew) hH ?_
          intro V31_0 hc hH31_0
          have hV31_0 := Lib.hid hc
          clear hc hH hC0
          refine wpAnyH_take (i := 0) (oi := ⟨_, _, _, _, _, _⟩) (v := ?_) rfl (by kernel_rfl) (by kernel_rfl) (by kernel_rfl) (fun _ _ _ h => h) (Or.inl ⟨by rfl, ?_⟩) hH31_0 ?_
          rotate_left
          · intro wS hSw; (try dsimp only at hSw); go_simp; try with_reducible rfl
          try simp only [Act.put, List.setIfInBounds_toArray, List.set_cons_zero, List.set_cons_succ]
          refine wpAnyH_take (i := 1) (oi := ⟨_, _, _, _, _, _⟩) (v := ?_) rfl (by kernel_rfl) (by kernel_rfl) (by kernel_rfl) (fun _ _ _ h => h) (Or.inl ⟨by rfl, ?_⟩) hH31_0 ?_
          rotate_left
          · intro wS hSw; (try dsimp only at hSw); go_simp; try with_reducible rfl
          try simp only [Act.put, List.setIfInBounds_toArray, List.set_cons_zero, List.set_cons_succ]
          refine wpAnyH_take (i := 2) (oi := ⟨_, _, _, _, _, _⟩) (v := ?_) rfl (by kernel_rfl) (by kernel_rfl) (by kernel_rfl) (fun _ _ _ h => h) (Or.inl ⟨by rfl, ?_⟩) hH31_0 ?_
          rotate_left
          · intro wS hSw; (try dsimp only at hSw); go_simp; try with_reducible rfl
          try simp only [Act.put, List.setIfInBounds_toArray, List.set_cons_zero, List.set_cons_succ]
          refine wpAnyH_take (i := 3) (oi := ⟨_, _, _, _, _, _⟩) (v := ?_) rfl (by kernel_rfl) (by kernel_rfl) (by kernel_rfl) (fun _ _ _ h => h) (Or.inl ⟨by rfl, ?_⟩) hH31_0 ?_
          rotate_left
          · intro wS hSw; (try dsimp only at hSw); go_simp; try with_reducible rfl
          try simp only [Act.put, List.setIfInBounds_toArray, List.set_cons_zero, List.set_cons_succ]
          refine wpAnyH_take (i := 4) (oi := ⟨_, _, _, _, _, _⟩) (v := ?_) rfl (by kernel_rfl) (by kernel_rfl) (by kernel_rfl) (fun _ _ _ h => h) (Or.inl ⟨by rfl, ?_⟩) hH31_0 ?_
          rotate_left
          · intro wS hSw; (try dsimp only at hSw); go_simp; try with_reducible rfl
          try simp only [Act.put, List.setIfInBounds_toArray, List.set_cons_zero, List.set_cons_succ]
          refine wpAnyH_take (i := 5) (oi := ⟨_, _, _, _, _, _⟩) (v := ?_) rfl (by kernel_rfl) (by kernel_rfl) (by kernel_rfl) (fun _ _ _ h => h) (Or.inl ⟨by rfl, ?_⟩) hH31_0 ?_
          rotate_left
          · intro wS hSw; (try dsimp only at hSw); go_simp; try with_reducible rfl
          try simp only [Act.put, List.setIfInBounds_toArray, List.set_cons_zero, List.set_cons_succ]
          refine wpAnyH_take (i := 6) (oi := ⟨_, _, _, _, _, _⟩) (v := ?_) rfl (by kernel_rfl) (by kernel_rfl) (by kernel_rfl) (fun _ _ _ h => h) (Or.inl ⟨by rfl, ?_⟩) hH31_0 ?_
          rotate_left
          · intro wS hSw; (try dsimp only at hSw); go_simp; try with_reducible rfl
          try simp only [Act.put, List.setIfInBounds_toArray, List.set_cons_zero, List.set_cons_succ]
          refine wpAnyH_take (i := 7) (oi := ⟨_, _, _, _, _, _⟩) (v := ?_) rfl (by kernel_rfl) (by kernel_rfl) (by kernel_rfl) (fun _ _ _ h => h) (Or.inl ⟨by rfl, ?_⟩) hH31_0 ?_
          rotate_left
          · intro wS hSw; (try dsimp only at hSw); go_simp; try with_reducible rfl
          try simp only [Act.put, List.setIfInBounds_toArray, List.set_cons_zero, List.set_cons_succ]
          refine wpAnyH_ready (rs := [8]) (by kernel_rfl) (by simp) ?_
          refine AllReadyH.cons (o := ⟨_, _, _, _, _, _⟩) rfl (fun Kq hKq => ?_) AllReadyH.nil
          go_simp
          go_at_call 77
          refine (rcmpN_is (hV31_0.out.rq 1 rfl) (hV31_0.out.rq 0 rfl) (HB.out qs[k] (List.getElem_mem hlt)) (HBB.out k hk) (by omega) (by omega) HU.out).mono ?_
          rintro e w30 ⟨rfl, hb⟩
          (try go_wp2_with fail)
          refine stepH hKq (show St w _ [(w.heap.size, #[.int .i64 0, .slice none 0 0, .int .i64 0, .slice none 0 0], 54), (w.heap.size + 1, #[.int .i64 s1, .slice a1 n1 c1, .int .i64 t1, .slice d1 e1 f1], 54)] [fun V => Nq V s1 (.slice a1 n1 c1) t1 (.slice d1 e1 f1) (foldQ (better (-1)) (qs.take k)), fun V => Nq V s2 (.slice a2 n2 c2) t2 (.slice d2 e2 f2) (qs[k])] from (hV31_0.out.call hb)) (fun _ hX => ⟨hX.cell 1 0 rfl rfl, hX.cell 1 1 rfl rfl, hX.cell 1 2 rfl rfl, hX.cell 1 3 rfl rfl, (hX.be.cell (p := ⟨g, k * 4, none⟩) HG.out).trans X0.out, (hX.be.cell (p := ⟨g, k * 4 + 1, none⟩) HG.out).trans X1.out, (hX.be.cell (p := ⟨g, k * 4 + 2, none⟩) HG.out).trans X2.out, (hX.be.cell (p := ⟨g, k * 4 + 3, none⟩) HG.out).trans X3.out, trivial⟩) ?_
          intro V31_1 hc hH31_1
          have hV31_1 := Lib.hid hc
          clear hc hKq Kq hV31_0 hb hH31_0
          try simp only [Act.put, List.setIfInBounds_toArray, List.set_cons_zero, List.set_cons_succ]
          refine wpAnyH_take (i := 9) (oi := ⟨_, _, _, _, _, _⟩) (v := ?_) rfl (by kernel_rfl) (by kernel_rfl) (by kernel_rfl) (fun _ _ _ h => h) (Or.inl ⟨by rfl, ?_⟩) hH31_1 ?_
          rotate_left
          · intro wS hSw; (try dsimp only at hSw); go_simp; try with_reducible rfl
          try simp only [Act.put, List.setIfInBounds_toArray, List.set_cons_zero, List.set_cons_succ]
          refine wpAnyH_take (i := 10) (oi := ⟨_, _, _, _, _, _⟩) (v := ?_) rfl (by kernel_rfl) (by kernel_rfl) (by kernel_rfl) (fun _ _ _ h => h) (Or.inl ⟨by rfl, ?_⟩) hH31_1 ?_
          rotate_left
          · intro wS hSw; (try dsimp only at hSw); go_simp; try with_reducible rfl
          try simp only [Act.put, List.setIfInBounds_toArray, List.set_cons_zero, List.set_cons_succ]
          refine wpAnyH_done (by kernel_rfl) ?_ _
          refine NoPanic.normal ?_
          go_wp2
          go_roundw
          case rel =>
            refine ⟨k + 1, s1, a1, n1, c1, t1, d1, e1, f1, by omega, by go_num, ?_⟩
            rw [HT.out, foldQ_snoc, if_neg (take_ne HK0.out hlt)]
            rw [better_no (by rw [HU.out]; exact HW.out)]
            exact Lib.hid (hV31_1.out.pick [0] rfl)
          case measure => simp [intOf]; omega
    · have hn0 : ¬ ((k : Int) < (qs.length : Int)) := by omega
      have HK := Lib.hid (show qs.take k = qs from List.take_of_length_le (by omega))
      have hC_c00 := hC.out.cell 0 0 rfl rfl
      have hC_f00 := hC.out.free 0 0 rfl
      have hC_c01 := hC.out.cell 0 1 rfl rfl
      have hC_f01 := hC.out.free 0 1 rfl
      have hC_c02 := hC.out.cell 0 2 rfl rfl
      have hC_f02 := hC.out.free 0 2 rfl
      have hC_c03 := hC.out.cell 0 3 rfl rfl
      have hC_f03 := hC.out.free 0 3 rfl
      have hC_c10 := hC.out.cell 1 0 rfl rfl
      have hC_f10 := hC.out.free 1 0 rfl
      have hC_c11 := hC.out.cell 1 1 rfl rfl
      have hC_f11 := hC.out.free 1 1 rfl
      have hC_c12 := hC.out.cell 1 2 rfl rfl
      have hC_f12 := hC.out.free 1 2 rfl
      have hC_c13 := hC.out.cell 1 3 rfl rfl
      have hC_f13 := hC.out.free 1 3 rfl
      go_wp2
      refine ret_st (hC.out |>.set 0 rfl |>.set 0 rfl |>.set 0 rfl |>.set 0 rfl) (v := .agg #[.int .i64 s1, .slice a1 n1 c1, .int .i64 t1, .slice d1 e1 f1]) (fun hF => ?_) rfl (fun hF => ⟨_, _, _, _, _, _, _, _, rfl, HK.out ▸ hF.rq 0 rfl, hF.be⟩)
      · have e0 := hF.cell 0 0 rfl rfl
        have e1 := hF.cell 0 1 rfl rfl
        have e2 := hF.cell 0 2 rfl rfl
        have e3 := hF.cell 0 3 rfl rfl
        simp [results, Tryz.results81, go_sem, e0, e1, e2, e3]

set_option maxRecDepth 100000 in
set_option maxHeartbeats 4000000 in
theorem maxN_any (a : Option Addr) (c : Nat) (qs : List Rat) (w : World) (h : RowQ w (.slice a qs.length c) qs) (N : Nat) (hB : ∀ q ∈ qs, Bq N q) (hN : N ≤ 1000) (hl : qs.length ≤ 35) :
    Calls Tryz.prog 83 #[.slice a qs.length c] w (RetNQ w (foldQ (better 1) qs)) := by
  have HR := Lib.hid h
  have HB := Lib.hid hB
  have HBB := Lib.hid (better_bd (way := 1) qs hB)
  clear h hB
  have hC := Lib.hid (((St.enter w).al (w.heap.size) #[.int .i64 0, .slice none 0 0, .int .i64 0, .slice none 0 0] 54 rfl rfl).al (w.heap.size + 1) #[.int .i64 0, .slice none 0 0, .int .i64 0, .slice none 0 0] 54 (by simp) rfl)
  go_enter Tryz.func83, Tryz.ntmps83
  go_wp2
  go_loopw [4] (fun iv wr => ∃ (k : Nat) (s1 : Int) (a1 : Option Addr) (n1 c1 : Nat) (t1 : Int) (d1 : Option Addr) (e1 f1 : Nat), k ≤ qs.length ∧ iv = .int .i64 k ∧ Hid (St w wr [(w.heap.size, #[.int .i64 0, .slice none 0 0, .int .i64 0, .slice none 0 0], 54), (w.heap.size + 1, #[.int .i64 s1, .slice a1 n1 c1, .int .i64 t1, .slice d1 e1 f1], 54)] [fun V => Nq V s1 (.slice a1 n1 c1) t1 (.slice d1 e1 f1) (foldQ (better 1) (qs.take k))])) (fun iv _ => qs.length - (intOf iv).toNat)
  case atStart => exact ⟨0, 0, none, 0, 0, 0, none, 0, 0, by omega, rfl, hC.out.pq Nq.nil⟩
  case round =>
    clear hC
    obtain ⟨k, s1, a1, n1, c1, t1, d1, e1, f1, hk, rfl, hC⟩ := hrel
    by_cases hlt : k < qs.length
    · obtain ⟨_, _, hv, hrow⟩ := HR.out
      simp only [Value.slice.injEq] at hv
      obtain ⟨rfl, _, rfl⟩ := hv
      obtain ⟨g, s2, a2, n2, c2, t2, d2, e2, f2, rfl, hg, hc0, hc1, hc2, hc3, hq⟩ := hrow k hlt
      have HG := Lib.hid hg
      have X0 := Lib.hid hc0
      have X1 := Lib.hid hc1
      have X2 := Lib.hid hc2
      have X3 := Lib.hid hc3
      have hq' := hq.keep (Below.keeps hC.out.be)
      have HT := Lib.hid (show qs.take (k + 1) = qs.take k ++ [qs[k]] from List.take_succ_eq_append_getElem hlt)
      have hi0 : (0 : Int) ≤ (k : Int) := by omega
      have hi1 : (k : Int) < (qs.length : Int) := by omega
      have hC0 := Lib.hid (hC.out.pq hq')
      clear hrow hc0 hc1 hc2 hc3 hq hq' hg hC
      by_cases hk0 : k = 0
      · have i0 : (((k : Nat) : Int) == 0) = true := by simp; omega
        have HK0 := Lib.hid hk0
        clear hk0
        go_wp2_with fail
        refine wp_region_noPanic ?_
        refine wp_region_held_drew (S := (fun w' => w'.cell? ⟨w.heap.size + 1, 0, none⟩ = some (.int .i64 s1) ∧ w'.cell? ⟨w.heap.size + 1, 1, none⟩ = some (.slice a1 n1 c1) ∧ w'.cell? ⟨w.heap.size + 1, 2, none⟩ = some (.int .i64 t1) ∧ w'.cell? ⟨w.heap.size + 1, 3, none⟩ = some (.slice d1 e1 f1) ∧ w'.cell? ⟨g, k * 4, none⟩ = some (.int .i64 s2) ∧ w'.cell? ⟨g, k * 4 + 1, none⟩ = some (.slice a2 n2 c2) ∧ w'.cell? ⟨g, k * 4 + 2, none⟩ = some (.int .i64 t2) ∧ w'.cell? ⟨g, k * 4 + 3, none⟩ = some (.slice d2 e2 f2) ∧ True)) (by kernel_rfl) ⟨hC0.out.drew.cell 1 0 rfl rfl, hC0.out.drew.cell 1 1 rfl rfl, hC0.out.drew.cell 1 2 rfl rfl, hC0.out.drew.cell 1 3 rfl rfl, (hC0.out.drew.be.cell (p := ⟨g, k * 4, none⟩) HG.out).trans X0.out, (hC0.out.drew.be.cell (p := ⟨g, k * 4 + 1, none⟩) HG.out).trans X1.out, (hC0.out.drew.be.cell (p := ⟨g, k * 4 + 2, none⟩) HG.out).trans X2.out, (hC0.out.drew.be.cell (p := ⟨g, k * 4 + 3, none⟩) HG.out).trans X3.out, trivial⟩ (fun hH => ?_)
        refine wpAnyH_gen (show St w _ [(w.heap.size, #[.int .i64 0, .slice none 0 0, .int .i64 0, .slice none 0 0], 54), (w.heap.size + 1, #[.int .i64 s1, .slice a1 n1 c1, .int .i64 t1, .slice d1 e1 f1], 54)] [fun V => Nq V s1 (.slice a1 n1 c1) t1 (.slice d1 e1 f1) (foldQ (better 1) (qs.take k)), fun V => Nq V s2 (.slice a2 n2 c2) t2 (.slice d2 e2 f2) (qs[k])] from hC0.out.drew) hH ?_
        intro V30_0 hc hH30_0
        have hV30_0 := Lib.hid hc
        clear hc hH hC0
        refine wpAnyH_take (i := 0) (oi := ⟨_, _, _, _, _, _⟩) (v := ?_) rfl (by kernel_rfl) (by kernel_rfl) (by kernel_rfl) (fun _ _ _ h => h) (Or.inl ⟨by rfl, ?_⟩) hH30_0 ?_
        rotate_left
        · intro wS hSw; (try dsimp only at hSw); go_simp; try with_reducible rfl
        try simp only [Act.put, List.setIfInBounds_toArray, List.set_cons_zero, List.set_cons_succ]
        refine wpAnyH_take (i := 1) (oi := ⟨_, _, _, _, _, _⟩) (v := ?_) rfl (by kernel_rfl) (by kernel_rfl) (by kernel_rfl) (fun _ _ _ h => h) (Or.inl ⟨by rfl, ?_⟩) hH30_0 ?_
        rotate_left
        · intro wS hSw; (try dsimp only at hSw); go_simp; try with_reducible rfl
        try simp only [Act.put, List.setIfInBounds_toArray, List.set_cons_zero, List.set_cons_succ]
        refine wpAnyH_take (i := 2) (oi := ⟨_, _, _, _, _, _⟩) (v := ?_) rfl (by kernel_rfl) (by kernel_rfl) (by kernel_rfl) (fun _ _ _ h => h) (Or.inl ⟨by rfl, ?_⟩) hH30_0 ?_
        rotate_left
        · intro wS hSw; (try dsimp only at hSw); go_simp; try with_reducible rfl
        try simp only [Act.put, List.setIfInBounds_toArray, List.set_cons_zero, List.set_cons_succ]
        refine wpAnyH_take (i := 3) (oi := ⟨_, _, _, _, _, _⟩) (v := undef) rfl (by kernel_rfl) (by kernel_rfl) (by kernel_rfl) (fun _ _ _ h => h) (Or.inr ⟨by rfl, rfl⟩) hH30_0 ?_
        try simp only [Act.put, List.setIfInBounds_toArray, List.set_cons_zero, List.set_cons_succ]
        refine wpAnyH_take (i := 4) (oi := ⟨_, _, _, _, _, _⟩) (v := undef) rfl (by kernel_rfl) (by kernel_rfl) (by kernel_rfl) (fun _ _ _ h => h) (Or.inr ⟨by rfl, rfl⟩) hH30_0 ?_
        try simp only [Act.put, List.setIfInBounds_toArray, List.set_cons_zero, List.set_cons_succ]
        refine wpAnyH_take (i := 5) (oi := ⟨_, _, _, _, _, _⟩) (v := undef) rfl (by kernel_rfl) (by kernel_rfl) (by kernel_rfl) (fun _ _ _ h => h) (Or.inr ⟨by rfl, rfl⟩) hH30_0 ?_
        try simp only [Act.put, List.setIfInBounds_toArray, List.set_cons_zero, List.set_cons_succ]
        refine wpAnyH_take (i := 6) (oi := ⟨_, _, _, _, _, _⟩) (v := undef) rfl (by kernel_rfl) (by kernel_rfl) (by kernel_rfl) (fun _ _ _ h => h) (Or.inr ⟨by rfl, rfl⟩) hH30_0 ?_
        try simp only [Act.put, List.setIfInBounds_toArray, List.set_cons_zero, List.set_cons_succ]
        refine wpAnyH_take (i := 7) (oi := ⟨_, _, _, _, _, _⟩) (v := undef) rfl (by kernel_rfl) (by kernel_rfl) (by kernel_rfl) (fun _ _ _ h => h) (Or.inr ⟨by rfl, rfl⟩) hH30_0 ?_
        try simp only [Act.put, List.setIfInBounds_toArray, List.set_cons_zero, List.set_cons_succ]
        refine wpAnyH_take (i := 8) (oi := ⟨_, _, _, _, _, _⟩) (v := undef) rfl (by kernel_rfl) (by kernel_rfl) (by kernel_rfl) (fun _ _ _ h => h) (Or.inr ⟨by rfl, rfl⟩) hH30_0 ?_
        try simp only [Act.put, List.setIfInBounds_toArray, List.set_cons_zero, List.set_cons_succ]
        refine wpAnyH_take (i := 9) (oi := ⟨_, _, _, _, _, _⟩) (v := undef) rfl (by kernel_rfl) (by kernel_rfl) (by kernel_rfl) (fun _ _ _ h => h) (Or.inr ⟨by rfl, rfl⟩) hH30_0 ?_
        try simp only [Act.put, List.setIfInBounds_toArray, List.set_cons_zero, List.set_cons_succ]
        refine wpAnyH_take (i := 10) (oi := ⟨_, _, _, _, _, _⟩) (v := ?_) rfl (by kernel_rfl) (by kernel_rfl) (by kernel_rfl) (fun _ _ _ h => h) (Or.inl ⟨by rfl, ?_⟩) hH30_0 ?_
        rotate_left
        · intro wS hSw; (try dsimp only at hSw); go_simp; try with_reducible rfl
        try simp only [Act.put, List.setIfInBounds_toArray, List.set_cons_zero, List.set_cons_succ]
        refine wpAnyH_done (by kernel_rfl) ?_ _
        refine NoPanic.normal ?_
        have x0 := (hV30_0.out.be.cell (p := ⟨g, k * 4, none⟩) HG.out).trans X0.out
        have x1 := (hV30_0.out.be.cell (p := ⟨g, k * 4 + 1, none⟩) HG.out).trans X1.out
        have x2 := (hV30_0.out.be.cell (p := ⟨g, k * 4 + 2, none⟩) HG.out).trans X2.out
        have x3 := (hV30_0.out.be.cell (p := ⟨g, k * 4 + 3, none⟩) HG.out).trans X3.out
        have cQ0 := hV30_0.out.cell 1 0 rfl rfl
        have cQ1 := hV30_0.out.cell 1 1 rfl rfl
        have cQ2 := hV30_0.out.cell 1 2 rfl rfl
        have cQ3 := hV30_0.out.cell 1 3 rfl rfl
        have fQ0 := hV30_0.out.free 1 0 rfl
        have fQ1 := hV30_0.out.free 1 1 rfl
        have fQ2 := hV30_0.out.free 1 2 rfl
        have fQ3 := hV30_0.out.free 1 3 rfl
        go_wp2
        go_roundw
        case rel =>
          refine ⟨k + 1, s2, a2, n2, c2, t2, d2, e2, f2, by omega, by go_num, ?_⟩
          rw [HT.out, foldQ_snoc, if_pos (by rw [HK0.out]; rfl)]
          exact Lib.hid ((hV30_0.out.set4 1 rfl).pick [1] rfl)
        case measure => simp [intOf]; omega
      · have i0 : (((k : Nat) : Int) == 0) = false := by simp; omega
        have HK0 := Lib.hid hk0
        clear hk0
        obtain ⟨u, hu⟩ : ∃ u : Int, cmpQ qs[k] (foldQ (better 1) (qs.take k)) = u := ⟨_, rfl⟩
        have HU := Lib.hid hu
        have hu1 : -1 ≤ u := by rw [← hu]; exact cmpQ_ge1 _ _
        have hu2 : u ≤ 1 := by rw [← hu]; exact cmpQ_le1 _ _
        clear hu
        by_cases hw : u = 1
        · have hd : decide (0 < u) = true := by simp; omega
          have HW := Lib.hid hw
          clear hw
          go_wp2_with fail
          refine wp_region_noPanic ?_
          refine wp_region_held_drew (S := (fun w' => w'.cell? ⟨w.heap.size + 1, 0, none⟩ = some (.int .i64 s1) ∧ w'.cell? ⟨w.heap.size + 1, 1, none⟩ = some (.slice a1 n1 c1) ∧ w'.cell? ⟨w.heap.size + 1, 2, none⟩ = some (.int .i64 t1) ∧ w'.cell? ⟨w.heap.size + 1, 3, none⟩ = some (.slice d1 e1 f1) ∧ w'.cell? ⟨g, k * 4, none⟩ = some (.int .i64 s2) ∧ w'.cell? ⟨g, k * 4 + 1, none⟩ = some (.slice a2 n2 c2) ∧ w'.cell? ⟨g, k * 4 + 2, none⟩ = some (.int .i64 t2) ∧ w'.cell? ⟨g, k * 4 + 3, none⟩ = some (.slice d2 e2 f2) ∧ True)) (by kernel_rfl) ⟨hC0.out.drew.cell 1 0 rfl rfl, hC0.out.drew.cell 1 1 rfl rfl, hC0.out.drew.cell 1 2 rfl rfl, hC0.out.drew.cell 1 3 rfl rfl, (hC0.out.drew.be.cell (p := ⟨g, k * 4, none⟩) HG.out).trans X0.out, (hC0.out.drew.be.cell (p := ⟨g, k * 4 + 1, none⟩) HG.out).trans X1.out, (hC0.out.drew.be.cell (p := ⟨g, k * 4 + 2, none⟩) HG.out).trans X2.out, (hC0.out.drew.be.cell (p := ⟨g, k * 4 + 3, none⟩) HG.out).trans X3.out, trivial⟩ (fun hH => ?_)
          refine wpAnyH_gen (show St w _ [(w.heap.size, #[.int .i64 0, .slice none 0 0, .int .i64 0, .slice none 0 0], 54), (w.heap.size + 1, #[.int .i64 s1, .slice a1 n1 c1, .int .i64 t1, .slice d1 e1 f1], 54)] [fun V => Nq V s1 (.slice a1 n1 c1) t1 (.slice d1 e1 f1) (foldQ (better 1) (qs.take k)), fun V => Nq V s2 (.slice a2 n2 c2) t2 (.slice d2 e2 f2) (qs[k])] from hC0.out.drew) hH ?_
          intro V31_0 hc hH31_0
          have hV31_0 := Lib.hid hc
          clear hc hH hC0
          refine wpAnyH_take (i := 0) (oi := ⟨_, _, _, _, _, _⟩) (v := ?_) rfl (by kernel_rfl) (by kernel_rfl) (by kernel_rfl) (fun _ _ _ h => h) (Or.inl ⟨by rfl, ?_⟩) hH31_0 ?_
          rotate_left
          · intro wS hSw; (try dsimp only at hSw); go_simp; try with_reducible rfl
          try simp only [Act.put, List.setIfInBounds_toArray, List.set_cons_zero, List.set_cons_succ]
          refine wpAnyH_take (i := 1) (oi := ⟨_, _, _, _, _, _⟩) (v := ?_) rfl (by kernel_rfl) (by kernel_rfl) (by kernel_rfl) (fun _ _ _ h => h) (Or.inl ⟨by rfl, ?_⟩) hH31_0 ?_
          rotate_left
          · intro wS hSw; (try dsimp only at hSw); go_simp; try with_reducible rfl
          try simp only [Act.put, List.setIfInBounds_toArray, List.set_cons_zero, List.set_cons_succ]
          refine wpAnyH_take (i := 2) (oi := ⟨_, _, _, _, _, _⟩) (v := ?_) rfl (by kernel_rfl) (by kernel_rfl) (by kernel_rfl) (fun _ _ _ h => h) (Or.inl ⟨by rfl, ?_⟩) hH31_0 ?_
          rotate_left
          · intro wS hSw; (try dsimp only at hSw); go_simp; try with_reducible rfl
          try simp only [Act.put, List.setIfInBounds_toArray, List.set_cons_zero, List.set_cons_succ]
          refine wpAnyH_take (i := 3) (oi := ⟨_, _, _, _, _, _⟩) (v := ?_) rfl (by kernel_rfl) (by kernel_rfl) (by kernel_rfl) (fun _ _ _ h => h) (Or.inl ⟨by rfl, ?_⟩) hH31_0 ?_
          rotate_left
          · intro wS hSw; (try dsimp only at hSw); go_simp; try with_reducible rfl
          try simp only [Act.put, List.setIfInBounds_toArray, List.set_cons_zero, List.set_cons_succ]
          refine wpAnyH_take (i := 4) (oi := ⟨_, _, _, _, _, _⟩) (v := ?_) rfl (by kernel_rfl) (by kernel_rfl) (by kernel_rfl) (fun _ _ _ h => h) (Or.inl ⟨by rfl, ?_⟩) hH31_0 ?_
          rotate_left
          · intro wS hSw; (try dsimp only at hSw); go_simp; try with_reducible rfl
          try simp only [Act.put, List.setIfInBounds_toArray, List.set_cons_zero, List.set_cons_succ]
          refine wpAnyH_take (i := 5) (oi := ⟨_, _, _, _, _, _⟩) (v := ?_) rfl (by kernel_rfl) (by kernel_rfl) (by kernel_rfl) (fun _ _ _ h => h) (Or.inl ⟨by rfl, ?_⟩) hH31_0 ?_
          rotate_left
          · intro wS hSw; (try dsimp only at hSw); go_simp; try with_reducible rfl
          try simp only [Act.put, List.setIfInBounds_toArray, List.set_cons_zero, List.set_cons_succ]
          refine wpAnyH_take (i := 6) (oi := ⟨_, _, _, _, _, _⟩) (v := ?_) rfl (by kernel_rfl) (by kernel_rfl) (by kernel_rfl) (fun _ _ _ h => h) (Or.inl ⟨by rfl, ?_⟩) hH31_0 ?_
          rotate_left
          · intro wS hSw; (try dsimp only at hSw); go_simp; try with_reducible rfl
          try simp only [Act.put, List.setIfInBounds_toArray, List.set_cons_zero, List.set_cons_succ]
          refine wpAnyH_take (i := 7) (oi := ⟨_, _, _, _, _, _⟩) (v := ?_) rfl (by kernel_rfl) (by kernel_rfl) (by kernel_rfl) (fun _ _ _ h => h) (Or.inl ⟨by rfl, ?_⟩) hH31_0 ?_
          rotate_left
          · intro wS hSw; (try dsimp only at hSw); go_simp; try with_reducible rfl
          try simp only [Act.put, List.setIfInBounds_toArray, List.set_cons_zero, List.set_cons_succ]
          refine wpAnyH_ready (rs := [8]) (by kernel_rfl) (by simp) ?_
          refine AllReadyH.cons (o := ⟨_, _, _, _, _, _⟩) rfl (fun Kq hKq => ?_) AllReadyH.nil
          go_simp
          go_at_call 77
          refine (rcmpN_is (hV31_0.out.rq 1 rfl) (hV31_0.out.rq 0 rfl) (HB.out qs[k] (List.getElem_mem hlt)) (HBB.out k hk) (by omega) (by omega) HU.out).mono ?_
          rintro e w30 ⟨rfl, hb⟩
          (try go_wp2_with fail)
          refine stepH hKq (show St w _ [(w.heap.size, #[.int .i64 0, .slice none 0 0, .int .i64 0, .slice none 0 0], 54), (w.heap.size + 1, #[.int .i64 s1, .slice a1 n1 c1, .int .i64 t1, .slice d1 e1 f1], 54)] [fun V => Nq V s1 (.slice a1 n1 c1) t1 (.slice d1 e1 f1) (foldQ (better 1) (qs.take k)), fun V => Nq V s2 (.slice a2 n2 c2) t2 (.slice d2 e2 f2) (qs[k])] from (hV31_0.out.call hb)) (fun _ hX => ⟨hX.cell 1 0 rfl rfl, hX.cell 1 1 rfl rfl, hX.cell 1 2 rfl rfl, hX.cell 1 3 rfl rfl, (hX.be.cell (p := ⟨g, k * 4, none⟩) HG.out).trans X0.out, (hX.be.cell (p := ⟨g, k * 4 + 1, none⟩) HG.out).trans X1.out, (hX.be.cell (p := ⟨g, k * 4 + 2, none⟩) HG.out).trans X2.out, (hX.be.cell (p := ⟨g, k * 4 + 3, none⟩) HG.out).trans X3.out, trivial⟩) ?_
          intro V31_1 hc hH31_1
          have hV31_1 := Lib.hid hc
          clear hc hKq Kq hV31_0 hb hH31_0
          try simp only [Act.put, List.setIfInBounds_toArray, List.set_cons_zero, List.set_cons_succ]
          refine wpAnyH_take (i := 9) (oi := ⟨_, _, _, _, _, _⟩) (v := ?_) rfl (by kernel_rfl) (by kernel_rfl) (by kernel_rfl) (fun _ _ _ h => h) (Or.inl ⟨by rfl, ?_⟩) hH31_1 ?_
          rotate_left
          · intro wS hSw; (try dsimp only at hSw); go_simp; try with_reducible rfl
          try simp only [Act.put, List.setIfInBounds_toArray, List.set_cons_zero, List.set_cons_succ]
          refine wpAnyH_take (i := 10) (oi := ⟨_, _, _, _, _, _⟩) (v := ?_) rfl (by kernel_rfl) (by kernel_rfl) (by kernel_rfl) (fun _ _ _ h => h) (Or.inl ⟨by rfl, ?_⟩) hH31_1 ?_
          rotate_left
          · intro wS hSw; (try dsimp only at hSw); go_simp; try with_reducible rfl
          try simp only [Act.put, List.setIfInBounds_toArray, List.set_cons_zero, List.set_cons_succ]
          refine wpAnyH_done (by kernel_rfl) ?_ _
          refine NoPanic.normal ?_
          have x0 := (hV31_1.out.be.cell (p := ⟨g, k * 4, none⟩) HG.out).trans X0.out
          have x1 := (hV31_1.out.be.cell (p := ⟨g, k * 4 + 1, none⟩) HG.out).trans X1.out
          have x2 := (hV31_1.out.be.cell (p := ⟨g, k * 4 + 2, none⟩) HG.out).trans X2.out
          have x3 := (hV31_1.out.be.cell (p := ⟨g, k * 4 + 3, none⟩) HG.out).trans X3.out
          have cQ0 := hV31_1.out.cell 1 0 rfl rfl
          have cQ1 := hV31_1.out.cell 1 1 rfl rfl
          have cQ2 := hV31_1.out.cell 1 2 rfl rfl
          have cQ3 := hV31_1.out.cell 1 3 rfl rfl
          have fQ0 := hV31_1.out.free 1 0 rfl
          have fQ1 := hV31_1.out.free 1 1 rfl
          have fQ2 := hV31_1.out.free 1 2 rfl
          have fQ3 := hV31_1.out.free 1 3 rfl
          go_wp2
          go_roundw
          case rel =>
            refine ⟨k + 1, s2, a2, n2, c2, t2, d2, e2, f2, by omega, by go_num, ?_⟩
            rw [HT.out, foldQ_snoc, if_neg (take_ne HK0.out hlt)]
            rw [better_yes (HU.out.trans HW.out)]
            exact Lib.hid ((hV31_1.out.set4 1 rfl).pick [1] rfl)
          case measure => simp [intOf]; omega
        · have hd : decide (0 < u) = false := by simp; omega
          have HW := Lib.hid hw
          clear hw
          go_wp2_with fail
          refine wp_region_noPanic ?_
          refine wp_region_held_drew (S := (fun w' => w'.cell? ⟨w.heap.size + 1, 0, none⟩ = some (.int .i64 s1) ∧ w'.cell? ⟨w.heap.size + 1, 1, none⟩ = some (.slice a1 n1 c1) ∧ w'.cell? ⟨w.heap.size + 1, 2, none⟩ = some (.int .i64 t1) ∧ w'.cell? ⟨w.heap.size + 1, 3, none⟩ = some (.slice d1 e1 f1) ∧ w'.cell? ⟨g, k * 4, none⟩ = some (.int .i64 s2) ∧ w'.cell? ⟨g, k * 4 + 1, none⟩ = some (.slice a2 n2 c2) ∧ w'.cell? ⟨g, k * 4 + 2, none⟩ = some (.int .i64 t2) ∧ w'.cell? ⟨g, k * 4 + 3, none⟩ = some (.slice d2 e2 f2) ∧ True)) (by kernel_rfl) ⟨hC0.out.drew.cell 1 0 rfl rfl, hC0.out.drew.cell 1 1 rfl rfl, hC0.out.drew.cell 1 2 rfl rfl, hC0.out.drew.cell 1 3 rfl rfl, (hC0.out.drew.be.cell (p := ⟨g, k * 4, none⟩) HG.out).trans X0.out, (hC0.out.drew.be.cell (p := ⟨g, k * 4 + 1, none⟩) HG.out).trans X1.out, (hC0.out.drew.be.cell (p := ⟨g, k * 4 + 2, none⟩) HG.out).trans X2.out, (hC0.out.drew.be.cell (p := ⟨g, k * 4 + 3, none⟩) HG.out).trans X3.out, trivial⟩ (fun hH => ?_)
          refine wpAnyH_gen (show St w _ [(w.heap.size, #[.int .i64 0, .slice none 0 0, .int .i64 0, .slice none 0 0], 54), (w.heap.size + 1, #[.int .i64 s1, .slice a1 n1 c1, .int .i64 t1, .slice d1 e1 f1], 54)] [fun V => Nq V s1 (.slice a1 n1 c1) t1 (.slice d1 e1 f1) (foldQ (better 1) (qs.take k)), fun V => Nq V s2 (.slice a2 n2 c2) t2 (.slice d2 e2 f2) (qs[k])] from hC0.out.drew) hH ?_
          intro V31_0 hc hH31_0
          have hV31_0 := Lib.hid hc
          clear hc hH hC0
          refine wpAnyH_take (i := 0) (oi := ⟨_, _, _, _, _, _⟩) (v := ?_) rfl (by kernel_rfl) (by kernel_rfl) (by kernel_rfl) (fun _ _ _ h => h) (Or.inl ⟨by rfl, ?_⟩) hH31_0 ?_
          rotate_left
          · intro wS hSw; (try dsimp only at hSw); go_simp; try with_reducible rfl
          try simp only [Act.put, List.setIfInBounds_toArray, List.set_cons_zero, List.set_cons_succ]
          refine wpAnyH_take (i := 1) (oi := ⟨_, _, _, _, _, _⟩) (v := ?_) rfl (by kernel_rfl) (by kernel_rfl) (by kernel_rfl) (fun _ _ _ h => h) (Or.inl ⟨by rfl, ?_⟩) hH31_0 ?_
          rotate_left
          · intro wS hSw; (try dsimp only at hSw); go_simp; try with_reducible rfl
          try simp only [Act.put, List.setIfInBounds_toArray, List.set_cons_zero, List.set_cons_succ]
          refine wpAnyH_take (i := 2) (oi := ⟨_, _, _, _, _, _⟩) (v := ?_) rfl (by kernel_rfl) (by kernel_rfl) (by kernel_rfl) (fun _ _ _ h => h) (Or.inl ⟨by rfl, ?_⟩) hH31_0 ?_
          rotate_left
          · intro wS hSw; (try dsimp only at hSw); go_simp; try with_reducible rfl
          try simp only [Act.put, List.setIfInBounds_toArray, List.set_cons_zero, List.set_cons_succ]
          refine wpAnyH_take (i := 3) (oi := ⟨_, _, _, _, _, _⟩) (v := ?_) rfl (by kernel_rfl) (by kernel_rfl) (by kernel_rfl) (fun _ _ _ h => h) (Or.inl ⟨by rfl, ?_⟩) hH31_0 ?_
          rotate_left
          · intro wS hSw; (try dsimp only at hSw); go_simp; try with_reducible rfl
          try simp only [Act.put, List.setIfInBounds_toArray, List.set_cons_zero, List.set_cons_succ]
          refine wpAnyH_take (i := 4) (oi := ⟨_, _, _, _, _, _⟩) (v := ?_) rfl (by kernel_rfl) (by kernel_rfl) (by kernel_rfl) (fun _ _ _ h => h) (Or.inl ⟨by rfl, ?_⟩) hH31_0 ?_
          rotate_left
          · intro wS hSw; (try dsimp only at hSw); go_simp; try with_reducible rfl
          try simp only [Act.put, List.setIfInBounds_toArray, List.set_cons_zero, List.set_cons_succ]
          refine wpAnyH_take (i := 5) (oi := ⟨_, _, _, _, _, _⟩) (v := ?_) rfl (by kernel_rfl) (by kernel_rfl) (by kernel_rfl) (fun _ _ _ h => h) (Or.inl ⟨by rfl, ?_⟩) hH31_0 ?_
          rotate_left
          · intro wS hSw; (try dsimp only at hSw); go_simp; try with_reducible rfl
          try simp only [Act.put, List.setIfInBounds_toArray, List.set_cons_zero, List.set_cons_succ]
          refine wpAnyH_take (i := 6) (oi := ⟨_, _, _, _, _, _⟩) (v := ?_) rfl (by kernel_rfl) (by kernel_rfl) (by kernel_rfl) (fun _ _ _ h => h) (Or.inl ⟨by rfl, ?_⟩) hH31_0 ?_
          rotate_left
          · intro wS hSw; (try dsimp only at hSw); go_simp; try with_reducible rfl
          try simp only [Act.put, List.setIfInBounds_toArray, List.set_cons_zero, List.set_cons_succ]
          refine wpAnyH_take (i := 7) (oi := ⟨_, _, _, _, _, _⟩) (v := ?_) rfl (by kernel_rfl) (by kernel_rfl) (by kernel_rfl) (fun _ _ _ h => h) (Or.inl ⟨by rfl, ?_⟩) hH31_0 ?_
          rotate_left
          · intro wS hSw; (try dsimp only at hSw); go_simp; try with_reducible rfl
          try simp only [Act.put, List.setIfInBounds_toArray, List.set_cons_zero, List.set_cons_succ]
          refine wpAnyH_ready (rs := [8]) (by kernel_rfl) (by simp) ?_
          refine AllReadyH.cons (o := ⟨_, _, _, _, _, _⟩) rfl (fun Kq hKq => ?_) AllReadyH.nil
          go_simp
          go_at_call 77
          refine (rcmpN_is (hV31_0.out.rq 1 rfl) (hV31_0.out.rq 0 rfl) (HB.out qs[k] (List.getElem_mem hlt)) (HBB.out k hk) (by omega) (by omega) HU.out).mono ?_
          rintro e w30 ⟨rfl, hb⟩
          (try go_wp2_with fail)
          refine stepH hKq (show St w _ [(w.heap.size, #[.int .i64 0, .slice none 0 0, .int .i64 0, .slice none 0 0], 54), (w.heap.size + 1, #[.int .i64 s1, .slice a1 n1 c1, .int .i64 t1, .slice d1 e1 f1], 54)] [fun V => Nq V s1 (.slice a1 n1 c1) t1 (.slice d1 e1 f1) (foldQ (better 1) (qs.take k)), fun V => Nq V s2 (.slice a2 n2 c2) t2 (.slice d2 e2 f2) (qs[k])] from (hV31_0.out.call hb)) (fun _ hX => ⟨hX.cell 1 0 rfl rfl, hX.cell 1 1 rfl rfl, hX.cell 1 2 rfl rfl, hX.cell 1 3 rfl rfl, (hX.be.cell (p := ⟨g, k * 4, none⟩) HG.out).trans X0.out, (hX.be.cell (p := ⟨g, k * 4 + 1, none⟩) HG.out).trans X1.out, (hX.be.cell (p := ⟨g, k * 4 + 2, none⟩) HG.out).trans X2.out, (hX.be.cell (p := ⟨g, k * 4 + 3, none⟩) HG.out).trans X3.out, trivial⟩) ?_
          intro V31_1 hc hH31_1
          have hV31_1 := Lib.hid hc
          clear hc hKq Kq hV31_0 hb hH31_0
          try simp only [Act.put, List.setIfInBounds_toArray, List.set_cons_zero, List.set_cons_succ]
          refine wpAnyH_take (i := 9) (oi := ⟨_, _, _, _, _, _⟩) (v := ?_) rfl (by kernel_rfl) (by kernel_rfl) (by kernel_rfl) (fun _ _ _ h => h) (Or.inl ⟨by rfl, ?_⟩) hH31_1 ?_
          rotate_left
          · intro wS hSw; (try dsimp only at hSw); go_simp; try with_reducible rfl
          try simp only [Act.put, List.setIfInBounds_toArray, List.set_cons_zero, List.set_cons_succ]
          refine wpAnyH_take (i := 10) (oi := ⟨_, _, _, _, _, _⟩) (v := ?_) rfl (by kernel_rfl) (by kernel_rfl) (by kernel_rfl) (fun _ _ _ h => h) (Or.inl ⟨by rfl, ?_⟩) hH31_1 ?_
          rotate_left
          · intro wS hSw; (try dsimp only at hSw); go_simp; try with_reducible rfl
          try simp only [Act.put, List.setIfInBounds_toArray, List.set_cons_zero, List.set_cons_succ]
          refine wpAnyH_done (by kernel_rfl) ?_ _
          refine NoPanic.normal ?_
          go_wp2
          go_roundw
          case rel =>
            refine ⟨k + 1, s1, a1, n1, c1, t1, d1, e1, f1, by omega, by go_num, ?_⟩
            rw [HT.out, foldQ_snoc, if_neg (take_ne HK0.out hlt)]
            rw [better_no (by rw [HU.out]; exact HW.out)]
            exact Lib.hid (hV31_1.out.pick [0] rfl)
          case measure => simp [intOf]; omega
    · have hn0 : ¬ ((k : Int) < (qs.length : Int)) := by omega
      have HK := Lib.hid (show qs.take k = qs from List.take_of_length_le (by omega))
      have hC_c00 := hC.out.cell 0 0 rfl rfl
      have hC_f00 := hC.out.free 0 0 rfl
      have hC_c01 := hC.out.cell 0 1 rfl rfl
      have hC_f01 := hC.out.free 0 1 rfl
      have hC_c02 := hC.out.cell 0 2 rfl rfl
      have hC_f02 := hC.out.free 0 2 rfl
      have hC_c03 := hC.out.cell 0 3 rfl rfl
      have hC_f03 := hC.out.free 0 3 rfl
      have hC_c10 := hC.out.cell 1 0 rfl rfl
      have hC_f10 := hC.out.free 1 0 rfl
      have hC_c11 := hC.out.cell 1 1 rfl rfl
      have hC_f11 := hC.out.free 1 1 rfl
      have hC_c12 := hC.out.cell 1 2 rfl rfl
      have hC_f12 := hC.out.free 1 2 rfl
      have hC_c13 := hC.out.cell 1 3 rfl rfl
      have hC_f13 := hC.out.free 1 3 rfl
      go_wp2
      refine ret_st (hC.out |>.set 0 rfl |>.set 0 rfl |>.set 0 rfl |>.set 0 rfl) (v := .agg #[.int .i64 s1, .slice a1 n1 c1, .int .i64 t1, .slice d1 e1 f1]) (fun hF => ?_) rfl (fun hF => ⟨_, _, _, _, _, _, _, _, rfl, HK.out ▸ hF.rq 0 rfl, hF.be⟩)
      · have e0 := hF.cell 0 0 rfl rfl
        have e1 := hF.cell 0 1 rfl rfl
        have e2 := hF.cell 0 2 rfl rfl
        have e3 := hF.cell 0 3 rfl rfl
        simp [results, Tryz.results83, go_sem, e0, e1, e2, e3]

end Go.Proofs.YtmfplelodnoicaaGreatDoor

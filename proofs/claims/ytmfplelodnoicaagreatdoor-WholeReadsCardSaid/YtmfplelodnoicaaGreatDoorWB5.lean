/- the laws' own Both: a ratio in both ways -/
import Derived.Test.YtmfplelodnoicaaGreatDoorWR
import Derived.Test.YtmfplelodnoicaaGreatDoorWH
namespace Go.Proofs.YtmfplelodnoicaaGreatDoor
open Go.RowKit Dig

/-- the ratio that is handed in -/
def num (N D : Int) : Rat := Rat.divInt N (if D = 0 then 1 else D)
theorem num_bd {N D : Int} (hN : -9223372036854775808 ≤ N ∧ N < 9223372036854775808) (hD : -9223372036854775808 ≤ D ∧ D < 9223372036854775808) : Bq 64 (num N D) := by
  unfold num
  by_cases h : D = 0
  · rw [if_pos h]
    exact Bq.ofInt (Bd.i64 hN) (Bd.i64 (k := 1) (by omega)) (by omega) (Nat.le_refl _) (Nat.le_refl _)
  · rw [if_neg h]
    exact Bq.ofInt (Bd.i64 hN) (Bd.i64 hD) h (Nat.le_refl _) (Nat.le_refl _)
/-- what Both answers: the ratio, and the reference's -/
def RetB2 (w : World) (q : Rat) (e : Ending) (w' : World) : Prop := ∃ a n c m d e' f s a2 n2 c2 t d2 e2 f2, e = .returned (.tuple #[.agg #[.slice a n c, .bool m, .slice d e' f], .agg #[.int .i64 s, .slice a2 n2 c2, .int .i64 t, .slice d2 e2 f2]]) ∧ Rd w' (.slice a n c) m (.slice d e' f) q ∧ Nq w' s (.slice a2 n2 c2) t (.slice d2 e2 f2) q ∧ Below w.heap.size w w'

set_option maxRecDepth 100000 in
set_option maxHeartbeats 2000000 in
theorem both_0 (N D : Int) (w : World) (hN : -9223372036854775808 ≤ N ∧ N < 9223372036854775808) (hD : -9223372036854775808 ≤ D ∧ D < 9223372036854775808) (h0 : D = 0) : Calls Tryz.prog 28 #[.agg #[.int .i64 N, .int .i64 D]] w (RetB2 w (Rat.divInt N 1)) := by
  have HN := Lib.hid hN
  have HD := Lib.hid hD
  have H0 := Lib.hid h0
  subst h0
  clear hN hD
  have hC := Lib.hid ((((St.enter w).al w.heap.size #[.int .i64 N, .int .i64 0] 60 rfl rfl).al (w.heap.size + 1) #[.slice none 0 0, .bool false, .slice none 0 0] 48 (by simp) rfl).al (w.heap.size + 2) #[.int .i64 0, .slice none 0 0, .int .i64 0, .slice none 0 0] 54 (by simp) rfl)
  go_enter Tryz.func28, Tryz.ntmps28
  have hC_c00 := hC.out.cell 0 0 rfl rfl
  have hC_f00 := hC.out.free 0 0 rfl
  have hC_c01 := hC.out.cell 0 1 rfl rfl
  have hC_f01 := hC.out.free 0 1 rfl
  go_upto_region 3 with fail
  first
    | refine wp_gen (hC.out.set (j := 1) (v := .int .i64 1) 0 rfl) ?_
    | refine wp_gen ((((St.enter w).al w.heap.size #[.int .i64 N, .int .i64 1] 60 rfl rfl).al (w.heap.size + 1) #[.slice none 0 0, .bool false, .slice none 0 0] 48 (by simp) rfl).al (w.heap.size + 2) #[.int .i64 0, .slice none 0 0, .int .i64 0, .slice none 0 0] 54 (by simp) rfl) ?_
  intro W hc
  clear hC hC_c00 hC_c01 hC_f00 hC_f01
  have hC := Lib.hid hc
  clear hc
  have y0 := hC.out.cell 0 0 rfl rfl
  have y1 := hC.out.cell 0 1 rfl rfl
  go_wp2_with fail
  refine (ratioI_any N 1 HN.out (by omega) _).mono ?_
  rintro e w3 ⟨a3, n3, c3, m3, d3, e3, f3, rfl, hz, hb⟩
  have hC3 := Lib.hid (((hC.out.call hb).pr hz).al w3.heap.size #[.slice a3 n3 c3, .bool m3, .slice d3 e3 f3] 48 rfl rfl)
  clear hz hb hC y0 y1
  go_upto_region 4 with fail
  refine wp_gen hC3.out ?_
  intro W4 hc
  clear hC3
  have hC := Lib.hid hc
  clear hc
  have hC_c10 := hC.out.cell 1 0 rfl rfl
  have hC_f10 := hC.out.free 1 0 rfl
  have hC_c11 := hC.out.cell 1 1 rfl rfl
  have hC_f11 := hC.out.free 1 1 rfl
  have hC_c12 := hC.out.cell 1 2 rfl rfl
  have hC_f12 := hC.out.free 1 2 rfl
  have hC_c20 := hC.out.cell 2 0 rfl rfl
  have hC_f20 := hC.out.free 2 0 rfl
  have hC_c21 := hC.out.cell 2 1 rfl rfl
  have hC_f21 := hC.out.free 2 1 rfl
  have hC_c22 := hC.out.cell 2 2 rfl rfl
  have hC_f22 := hC.out.free 2 2 rfl
  have hC_c23 := hC.out.cell 2 3 rfl rfl
  have hC_f23 := hC.out.free 2 3 rfl
  go_region_held3 (fun w' => w'.cell? ⟨w.heap.size, 0, none⟩ = some (.int .i64 N) ∧ w'.cell? ⟨w.heap.size, 1, none⟩ = some (.int .i64 1) ∧ w'.cell? ⟨w3.heap.size, 0, none⟩ = some (.slice a3 n3 c3) ∧ w'.cell? ⟨w3.heap.size, 1, none⟩ = some (.bool m3) ∧ w'.cell? ⟨w3.heap.size, 2, none⟩ = some (.slice d3 e3 f3) ∧ True)
    (first
      | (with_reducible refine And.intro (?_ : World.cell? (World.setCell (World.setCell (World.setCell (World.setCell (World.setCell (World.setCell (World.setCell w4 _ _) _ _) _ _) _ _) _ _) _ _) _ _) _ = _) ?_; exact ((hC4.out |>.set 1 rfl |>.set 1 rfl |>.set 1 rfl) |>.set 2 rfl |>.set 2 rfl |>.set 2 rfl |>.set 2 rfl).cell 0 0 rfl rfl; exact ⟨((hC4.out |>.set 1 rfl |>.set 1 rfl |>.set 1 rfl) |>.set 2 rfl |>.set 2 rfl |>.set 2 rfl |>.set 2 rfl).cell 0 1 rfl rfl, ((hC4.out |>.set 1 rfl |>.set 1 rfl |>.set 1 rfl) |>.set 2 rfl |>.set 2 rfl |>.set 2 rfl |>.set 2 rfl).cell 3 0 rfl rfl, ((hC4.out |>.set 1 rfl |>.set 1 rfl |>.set 1 rfl) |>.set 2 rfl |>.set 2 rfl |>.set 2 rfl |>.set 2 rfl).cell 3 1 rfl rfl, ((hC4.out |>.set 1 rfl |>.set 1 rfl |>.set 1 rfl) |>.set 2 rfl |>.set 2 rfl |>.set 2 rfl |>.set 2 rfl).cell 3 2 rfl rfl, trivial⟩)
      | (with_reducible refine And.intro (?_ : World.cell? (World.setCell (World.setCell (World.setCell (World.setCell (World.setCell (World.setCell (World.setCell w4 _ _) _ _) _ _) _ _) _ _) _ _) _ _) _ = _) ?_; exact ((hC4.out |>.set 2 rfl |>.set 2 rfl |>.set 2 rfl |>.set 2 rfl) |>.set 1 rfl |>.set 1 rfl |>.set 1 rfl).cell 0 0 rfl rfl; exact ⟨((hC4.out |>.set 2 rfl |>.set 2 rfl |>.set 2 rfl |>.set 2 rfl) |>.set 1 rfl |>.set 1 rfl |>.set 1 rfl).cell 0 1 rfl rfl, ((hC4.out |>.set 2 rfl |>.set 2 rfl |>.set 2 rfl |>.set 2 rfl) |>.set 1 rfl |>.set 1 rfl |>.set 1 rfl).cell 3 0 rfl rfl, ((hC4.out |>.set 2 rfl |>.set 2 rfl |>.set 2 rfl |>.set 2 rfl) |>.set 1 rfl |>.set 1 rfl |>.set 1 rfl).cell 3 1 rfl rfl, ((hC4.out |>.set 2 rfl |>.set 2 rfl |>.set 2 rfl |>.set 2 rfl) |>.set 1 rfl |>.set 1 rfl |>.set 1 rfl).cell 3 2 rfl rfl, trivial⟩)
      | (with_reducible refine And.intro (?_ : World.cell? (World.setCell (World.setCell (World.setCell (World.setCell w4 _ _) _ _) _ _) _ _) _ = _) ?_; exact (hC4.out |>.set 2 rfl |>.set 2 rfl |>.set 2 rfl |>.set 2 rfl).cell 0 0 rfl rfl; exact ⟨(hC4.out |>.set 2 rfl |>.set 2 rfl |>.set 2 rfl |>.set 2 rfl).cell 0 1 rfl rfl, (hC4.out |>.set 2 rfl |>.set 2 rfl |>.set 2 rfl |>.set 2 rfl).cell 3 0 rfl rfl, (hC4.out |>.set 2 rfl |>.set 2 rfl |>.set 2 rfl |>.set 2 rfl).cell 3 1 rfl rfl, (hC4.out |>.set 2 rfl |>.set 2 rfl |>.set 2 rfl |>.set 2 rfl).cell 3 2 rfl rfl, trivial⟩)
      | (with_reducible refine And.intro (?_ : World.cell? (World.setCell (World.setCell (World.setCell w4 _ _) _ _) _ _) _ = _) ?_; exact (hC4.out |>.set 1 rfl |>.set 1 rfl |>.set 1 rfl).cell 0 0 rfl rfl; exact ⟨(hC4.out |>.set 1 rfl |>.set 1 rfl |>.set 1 rfl).cell 0 1 rfl rfl, (hC4.out |>.set 1 rfl |>.set 1 rfl |>.set 1 rfl).cell 3 0 rfl rfl, (hC4.out |>.set 1 rfl |>.set 1 rfl |>.set 1 rfl).cell 3 1 rfl rfl, (hC4.out |>.set 1 rfl |>.set 1 rfl |>.set 1 rfl).cell 3 2 rfl rfl, trivial⟩)
      | (with_reducible refine And.intro (?_ : World.cell? w4 _ = _) ?_; exact hC4.out.cell 0 0 rfl rfl; exact ⟨hC4.out.cell 0 1 rfl rfl, hC4.out.cell 3 0 rfl rfl, hC4.out.cell 3 1 rfl rfl, hC4.out.cell 3 2 rfl rfl, trivial⟩)
      | (with_reducible refine And.intro (?_ : World.cell? (World.drew (World.setCell (World.setCell (World.setCell W4 _ _) _ _) _ _)) _ = _) ?_; exact (hC.out |>.set 1 rfl |>.set 1 rfl |>.set 1 rfl).drew.cell 0 0 rfl rfl; exact ⟨(hC.out |>.set 1 rfl |>.set 1 rfl |>.set 1 rfl).drew.cell 0 1 rfl rfl, (hC.out |>.set 1 rfl |>.set 1 rfl |>.set 1 rfl).drew.cell 3 0 rfl rfl, (hC.out |>.set 1 rfl |>.set 1 rfl |>.set 1 rfl).drew.cell 3 1 rfl rfl, (hC.out |>.set 1 rfl |>.set 1 rfl |>.set 1 rfl).drew.cell 3 2 rfl rfl, trivial⟩)
      | (with_reducible refine And.intro (?_ : World.cell? (World.drew W4) _ = _) ?_; exact hC.out.drew.cell 0 0 rfl rfl; exact ⟨hC.out.drew.cell 0 1 rfl rfl, hC.out.drew.cell 3 0 rfl rfl, hC.out.drew.cell 3 1 rfl rfl, hC.out.drew.cell 3 2 rfl rfl, trivial⟩))
    (first
      | (have _t := hC; go_at_call 53; (first | ((with_reducible refine (ratioN_any N 1 HN.out (by omega) (by omega) (World.drew W4)).mono ?_); rintro e w4 ⟨s4, a4, n4, c4, t4, d4, e4, f4, rfl, hz, hb⟩; have hC4 := Lib.hid ((hC.out.drew.call hb).pq hz); clear hz hb) | ((with_reducible refine (ratioN_any N 1 HN.out (by omega) (by omega) (World.drew (World.setCell (World.setCell (World.setCell W4 _ _) _ _) _ _))).mono ?_); rintro e w4 ⟨s4, a4, n4, c4, t4, d4, e4, f4, rfl, hz, hb⟩; have hC4 := Lib.hid ((((hC.out |>.set 1 rfl |>.set 1 rfl |>.set 1 rfl)).drew.call hb).pq hz); clear hz hb)); clear hC_c10 hC_c11 hC_c12 hC_c20 hC_c21 hC_c22 hC_c23 hC_f10 hC_f11 hC_f12 hC_f20 hC_f21 hC_f22 hC_f23; have hC4_c10 := hC4.out.cell 1 0 rfl rfl; have hC4_f10 := hC4.out.free 1 0 rfl; have hC4_c11 := hC4.out.cell 1 1 rfl rfl; have hC4_f11 := hC4.out.free 1 1 rfl; have hC4_c12 := hC4.out.cell 1 2 rfl rfl; have hC4_f12 := hC4.out.free 1 2 rfl; have hC4_c20 := hC4.out.cell 2 0 rfl rfl; have hC4_f20 := hC4.out.free 2 0 rfl; have hC4_c21 := hC4.out.cell 2 1 rfl rfl; have hC4_f21 := hC4.out.free 2 1 rfl; have hC4_c22 := hC4.out.cell 2 2 rfl rfl; have hC4_f22 := hC4.out.free 2 2 rfl; have hC4_c23 := hC4.out.cell 2 3 rfl rfl; have hC4_f23 := hC4.out.free 2 3 rfl; clear _t hC)
      | fail)
  all_goals go_wp2
  all_goals (first
    | (refine ret_st ((hC4.out |>.set 1 rfl |>.set 1 rfl |>.set 1 rfl) |>.set 2 rfl |>.set 2 rfl |>.set 2 rfl |>.set 2 rfl) (v := .tuple #[.agg #[.slice a3 n3 c3, .bool m3, .slice d3 e3 f3], .agg #[.int .i64 s4, .slice a4 n4 c4, .int .i64 t4, .slice d4 e4 f4]]) (fun hF => ?_) rfl (fun hF => ⟨_, _, _, _, _, _, _, _, _, _, _, _, _, _, _, rfl, hF.r 0 rfl, hF.rq 1 rfl, hF.be⟩); have e0 := hF.cell 1 0 rfl rfl; have e1 := hF.cell 1 1 rfl rfl; have e2 := hF.cell 1 2 rfl rfl; have e3 := hF.cell 2 0 rfl rfl; have e4 := hF.cell 2 1 rfl rfl; have e5 := hF.cell 2 2 rfl rfl; have e6 := hF.cell 2 3 rfl rfl; simp [results, Tryz.results28, go_sem, e0, e1, e2, e3, e4, e5, e6])
    | (refine ret_st ((hC4.out |>.set 2 rfl |>.set 2 rfl |>.set 2 rfl |>.set 2 rfl) |>.set 1 rfl |>.set 1 rfl |>.set 1 rfl) (v := .tuple #[.agg #[.slice a3 n3 c3, .bool m3, .slice d3 e3 f3], .agg #[.int .i64 s4, .slice a4 n4 c4, .int .i64 t4, .slice d4 e4 f4]]) (fun hF => ?_) rfl (fun hF => ⟨_, _, _, _, _, _, _, _, _, _, _, _, _, _, _, rfl, hF.r 0 rfl, hF.rq 1 rfl, hF.be⟩); have e0 := hF.cell 1 0 rfl rfl; have e1 := hF.cell 1 1 rfl rfl; have e2 := hF.cell 1 2 rfl rfl; have e3 := hF.cell 2 0 rfl rfl; have e4 := hF.cell 2 1 rfl rfl; have e5 := hF.cell 2 2 rfl rfl; have e6 := hF.cell 2 3 rfl rfl; simp [results, Tryz.results28, go_sem, e0, e1, e2, e3, e4, e5, e6])
    | (refine ret_st (hC4.out |>.set 2 rfl |>.set 2 rfl |>.set 2 rfl |>.set 2 rfl) (v := .tuple #[.agg #[.slice a3 n3 c3, .bool m3, .slice d3 e3 f3], .agg #[.int .i64 s4, .slice a4 n4 c4, .int .i64 t4, .slice d4 e4 f4]]) (fun hF => ?_) rfl (fun hF => ⟨_, _, _, _, _, _, _, _, _, _, _, _, _, _, _, rfl, hF.r 0 rfl, hF.rq 1 rfl, hF.be⟩); have e0 := hF.cell 1 0 rfl rfl; have e1 := hF.cell 1 1 rfl rfl; have e2 := hF.cell 1 2 rfl rfl; have e3 := hF.cell 2 0 rfl rfl; have e4 := hF.cell 2 1 rfl rfl; have e5 := hF.cell 2 2 rfl rfl; have e6 := hF.cell 2 3 rfl rfl; simp [results, Tryz.results28, go_sem, e0, e1, e2, e3, e4, e5, e6]))

set_option maxRecDepth 100000 in
set_option maxHeartbeats 2000000 in
theorem both_n (N D : Int) (w : World) (hN : -9223372036854775808 ≤ N ∧ N < 9223372036854775808) (hD : -9223372036854775808 ≤ D ∧ D < 9223372036854775808) (h0 : D ≠ 0) : Calls Tryz.prog 28 #[.agg #[.int .i64 N, .int .i64 D]] w (RetB2 w (Rat.divInt N D)) := by
  have HN := Lib.hid hN
  have HD := Lib.hid hD
  have H0 := Lib.hid h0
  have d0 : (D == 0) = false := by simpa using h0
  clear h0
  clear hN hD
  have hC := Lib.hid ((((St.enter w).al w.heap.size #[.int .i64 N, .int .i64 D] 60 rfl rfl).al (w.heap.size + 1) #[.slice none 0 0, .bool false, .slice none 0 0] 48 (by simp) rfl).al (w.heap.size + 2) #[.int .i64 0, .slice none 0 0, .int .i64 0, .slice none 0 0] 54 (by simp) rfl)
  go_enter Tryz.func28, Tryz.ntmps28
  go_upto_region 3 with fail
  refine wp_gen hC.out ?_
  intro W hc
  clear hC d0
  have hC := Lib.hid hc
  clear hc
  have y0 := hC.out.cell 0 0 rfl rfl
  have y1 := hC.out.cell 0 1 rfl rfl
  go_wp2_with fail
  refine (ratioI_any N D HN.out HD.out _).mono ?_
  rintro e w3 ⟨a3, n3, c3, m3, d3, e3, f3, rfl, hz, hb⟩
  have hC3 := Lib.hid (((hC.out.call hb).pr hz).al w3.heap.size #[.slice a3 n3 c3, .bool m3, .slice d3 e3 f3] 48 rfl rfl)
  clear hz hb hC y0 y1
  go_upto_region 4 with fail
  refine wp_gen hC3.out ?_
  intro W4 hc
  clear hC3
  have hC := Lib.hid hc
  clear hc
  have hC_c10 := hC.out.cell 1 0 rfl rfl
  have hC_f10 := hC.out.free 1 0 rfl
  have hC_c11 := hC.out.cell 1 1 rfl rfl
  have hC_f11 := hC.out.free 1 1 rfl
  have hC_c12 := hC.out.cell 1 2 rfl rfl
  have hC_f12 := hC.out.free 1 2 rfl
  have hC_c20 := hC.out.cell 2 0 rfl rfl
  have hC_f20 := hC.out.free 2 0 rfl
  have hC_c21 := hC.out.cell 2 1 rfl rfl
  have hC_f21 := hC.out.free 2 1 rfl
  have hC_c22 := hC.out.cell 2 2 rfl rfl
  have hC_f22 := hC.out.free 2 2 rfl
  have hC_c23 := hC.out.cell 2 3 rfl rfl
  have hC_f23 := hC.out.free 2 3 rfl
  go_region_held3 (fun w' => w'.cell? ⟨w.heap.size, 0, none⟩ = some (.int .i64 N) ∧ w'.cell? ⟨w.heap.size, 1, none⟩ = some (.int .i64 D) ∧ w'.cell? ⟨w3.heap.size, 0, none⟩ = some (.slice a3 n3 c3) ∧ w'.cell? ⟨w3.heap.size, 1, none⟩ = some (.bool m3) ∧ w'.cell? ⟨w3.heap.size, 2, none⟩ = some (.slice d3 e3 f3) ∧ True)
    (first
      | (with_reducible refine And.intro (?_ : World.cell? (World.setCell (World.setCell (World.setCell (World.setCell (World.setCell (World.setCell (World.setCell w4 _ _) _ _) _ _) _ _) _ _) _ _) _ _) _ = _) ?_; exact ((hC4.out |>.set 1 rfl |>.set 1 rfl |>.set 1 rfl) |>.set 2 rfl |>.set 2 rfl |>.set 2 rfl |>.set 2 rfl).cell 0 0 rfl rfl; exact ⟨((hC4.out |>.set 1 rfl |>.set 1 rfl |>.set 1 rfl) |>.set 2 rfl |>.set 2 rfl |>.set 2 rfl |>.set 2 rfl).cell 0 1 rfl rfl, ((hC4.out |>.set 1 rfl |>.set 1 rfl |>.set 1 rfl) |>.set 2 rfl |>.set 2 rfl |>.set 2 rfl |>.set 2 rfl).cell 3 0 rfl rfl, ((hC4.out |>.set 1 rfl |>.set 1 rfl |>.set 1 rfl) |>.set 2 rfl |>.set 2 rfl |>.set 2 rfl |>.set 2 rfl).cell 3 1 rfl rfl, ((hC4.out |>.set 1 rfl |>.set 1 rfl |>.set 1 rfl) |>.set 2 rfl |>.set 2 rfl |>.set 2 rfl |>.set 2 rfl).cell 3 2 rfl rfl, trivial⟩)
      | (with_reducible refine And.intro (?_ : World.cell? (World.setCell (World.setCell (World.setCell (World.setCell (World.setCell (World.setCell (World.setCell w4 _ _) _ _) _ _) _ _) _ _) _ _) _ _) _ = _) ?_; exact ((hC4.out |>.set 2 rfl |>.set 2 rfl |>.set 2 rfl |>.set 2 rfl) |>.set 1 rfl |>.set 1 rfl |>.set 1 rfl).cell 0 0 rfl rfl; exact ⟨((hC4.out |>.set 2 rfl |>.set 2 rfl |>.set 2 rfl |>.set 2 rfl) |>.set 1 rfl |>.set 1 rfl |>.set 1 rfl).cell 0 1 rfl rfl, ((hC4.out |>.set 2 rfl |>.set 2 rfl |>.set 2 rfl |>.set 2 rfl) |>.set 1 rfl |>.set 1 rfl |>.set 1 rfl).cell 3 0 rfl rfl, ((hC4.out |>.set 2 rfl |>.set 2 rfl |>.set 2 rfl |>.set 2 rfl) |>.set 1 rfl |>.set 1 rfl |>.set 1 rfl).cell 3 1 rfl rfl, ((hC4.out |>.set 2 rfl |>.set 2 rfl |>.set 2 rfl |>.set 2 rfl) |>.set 1 rfl |>.set 1 rfl |>.set 1 rfl).cell 3 2 rfl rfl, trivial⟩)
      | (with_reducible refine And.intro (?_ : World.cell? (World.setCell (World.setCell (World.setCell (World.setCell w4 _ _) _ _) _ _) _ _) _ = _) ?_; exact (hC4.out |>.set 2 rfl |>.set 2 rfl |>.set 2 rfl |>.set 2 rfl).cell 0 0 rfl rfl; exact ⟨(hC4.out |>.set 2 rfl |>.set 2 rfl |>.set 2 rfl |>.set 2 rfl).cell 0 1 rfl rfl, (hC4.out |>.set 2 rfl |>.set 2 rfl |>.set 2 rfl |>.set 2 rfl).cell 3 0 rfl rfl, (hC4.out |>.set 2 rfl |>.set 2 rfl |>.set 2 rfl |>.set 2 rfl).cell 3 1 rfl rfl, (hC4.out |>.set 2 rfl |>.set 2 rfl |>.set 2 rfl |>.set 2 rfl).cell 3 2 rfl rfl, trivial⟩)
      | (with_reducible refine And.intro (?_ : World.cell? (World.setCell (World.setCell (World.setCell w4 _ _) _ _) _ _) _ = _) ?_; exact (hC4.out |>.set 1 rfl |>.set 1 rfl |>.set 1 rfl).cell 0 0 rfl rfl; exact ⟨(hC4.out |>.set 1 rfl |>.set 1 rfl |>.set 1 rfl).cell 0 1 rfl rfl, (hC4.out |>.set 1 rfl |>.set 1 rfl |>.set 1 rfl).cell 3 0 rfl rfl, (hC4.out |>.set 1 rfl |>.set 1 rfl |>.set 1 rfl).cell 3 1 rfl rfl, (hC4.out |>.set 1 rfl |>.set 1 rfl |>.set 1 rfl).cell 3 2 rfl rfl, trivial⟩)
      | (with_reducible refine And.intro (?_ : World.cell? w4 _ = _) ?_; exact hC4.out.cell 0 0 rfl rfl; exact ⟨hC4.out.cell 0 1 rfl rfl, hC4.out.cell 3 0 rfl rfl, hC4.out.cell 3 1 rfl rfl, hC4.out.cell 3 2 rfl rfl, trivial⟩)
      | (with_reducible refine And.intro (?_ : World.cell? (World.drew (World.setCell (World.setCell (World.setCell W4 _ _) _ _) _ _)) _ = _) ?_; exact (hC.out |>.set 1 rfl |>.set 1 rfl |>.set 1 rfl).drew.cell 0 0 rfl rfl; exact ⟨(hC.out |>.set 1 rfl |>.set 1 rfl |>.set 1 rfl).drew.cell 0 1 rfl rfl, (hC.out |>.set 1 rfl |>.set 1 rfl |>.set 1 rfl).drew.cell 3 0 rfl rfl, (hC.out |>.set 1 rfl |>.set 1 rfl |>.set 1 rfl).drew.cell 3 1 rfl rfl, (hC.out |>.set 1 rfl |>.set 1 rfl |>.set 1 rfl).drew.cell 3 2 rfl rfl, trivial⟩)
      | (with_reducible refine And.intro (?_ : World.cell? (World.drew W4) _ = _) ?_; exact hC.out.drew.cell 0 0 rfl rfl; exact ⟨hC.out.drew.cell 0 1 rfl rfl, hC.out.drew.cell 3 0 rfl rfl, hC.out.drew.cell 3 1 rfl rfl, hC.out.drew.cell 3 2 rfl rfl, trivial⟩))
    (first
      | (have _t := hC; go_at_call 53; (first | ((with_reducible refine (ratioN_any N D HN.out HD.out H0.out (World.drew W4)).mono ?_); rintro e w4 ⟨s4, a4, n4, c4, t4, d4, e4, f4, rfl, hz, hb⟩; have hC4 := Lib.hid ((hC.out.drew.call hb).pq hz); clear hz hb) | ((with_reducible refine (ratioN_any N D HN.out HD.out H0.out (World.drew (World.setCell (World.setCell (World.setCell W4 _ _) _ _) _ _))).mono ?_); rintro e w4 ⟨s4, a4, n4, c4, t4, d4, e4, f4, rfl, hz, hb⟩; have hC4 := Lib.hid ((((hC.out |>.set 1 rfl |>.set 1 rfl |>.set 1 rfl)).drew.call hb).pq hz); clear hz hb)); clear hC_c10 hC_c11 hC_c12 hC_c20 hC_c21 hC_c22 hC_c23 hC_f10 hC_f11 hC_f12 hC_f20 hC_f21 hC_f22 hC_f23; have hC4_c10 := hC4.out.cell 1 0 rfl rfl; have hC4_f10 := hC4.out.free 1 0 rfl; have hC4_c11 := hC4.out.cell 1 1 rfl rfl; have hC4_f11 := hC4.out.free 1 1 rfl; have hC4_c12 := hC4.out.cell 1 2 rfl rfl; have hC4_f12 := hC4.out.free 1 2 rfl; have hC4_c20 := hC4.out.cell 2 0 rfl rfl; have hC4_f20 := hC4.out.free 2 0 rfl; have hC4_c21 := hC4.out.cell 2 1 rfl rfl; have hC4_f21 := hC4.out.free 2 1 rfl; have hC4_c22 := hC4.out.cell 2 2 rfl rfl; have hC4_f22 := hC4.out.free 2 2 rfl; have hC4_c23 := hC4.out.cell 2 3 rfl rfl; have hC4_f23 := hC4.out.free 2 3 rfl; clear _t hC)
      | fail)
  all_goals go_wp2
  all_goals (first
    | (refine ret_st ((hC4.out |>.set 1 rfl |>.set 1 rfl |>.set 1 rfl) |>.set 2 rfl |>.set 2 rfl |>.set 2 rfl |>.set 2 rfl) (v := .tuple #[.agg #[.slice a3 n3 c3, .bool m3, .slice d3 e3 f3], .agg #[.int .i64 s4, .slice a4 n4 c4, .int .i64 t4, .slice d4 e4 f4]]) (fun hF => ?_) rfl (fun hF => ⟨_, _, _, _, _, _, _, _, _, _, _, _, _, _, _, rfl, hF.r 0 rfl, hF.rq 1 rfl, hF.be⟩); have e0 := hF.cell 1 0 rfl rfl; have e1 := hF.cell 1 1 rfl rfl; have e2 := hF.cell 1 2 rfl rfl; have e3 := hF.cell 2 0 rfl rfl; have e4 := hF.cell 2 1 rfl rfl; have e5 := hF.cell 2 2 rfl rfl; have e6 := hF.cell 2 3 rfl rfl; simp [results, Tryz.results28, go_sem, e0, e1, e2, e3, e4, e5, e6])
    | (refine ret_st ((hC4.out |>.set 2 rfl |>.set 2 rfl |>.set 2 rfl |>.set 2 rfl) |>.set 1 rfl |>.set 1 rfl |>.set 1 rfl) (v := .tuple #[.agg #[.slice a3 n3 c3, .bool m3, .slice d3 e3 f3], .agg #[.int .i64 s4, .slice a4 n4 c4, .int .i64 t4, .slice d4 e4 f4]]) (fun hF => ?_) rfl (fun hF => ⟨_, _, _, _, _, _, _, _, _, _, _, _, _, _, _, rfl, hF.r 0 rfl, hF.rq 1 rfl, hF.be⟩); have e0 := hF.cell 1 0 rfl rfl; have e1 := hF.cell 1 1 rfl rfl; have e2 := hF.cell 1 2 rfl rfl; have e3 := hF.cell 2 0 rfl rfl; have e4 := hF.cell 2 1 rfl rfl; have e5 := hF.cell 2 2 rfl rfl; have e6 := hF.cell 2 3 rfl rfl; simp [results, Tryz.results28, go_sem, e0, e1, e2, e3, e4, e5, e6])
    | (refine ret_st (hC4.out |>.set 2 rfl |>.set 2 rfl |>.set 2 rfl |>.set 2 rfl) (v := .tuple #[.agg #[.slice a3 n3 c3, .bool m3, .slice d3 e3 f3], .agg #[.int .i64 s4, .slice a4 n4 c4, .int .i64 t4, .slice d4 e4 f4]]) (fun hF => ?_) rfl (fun hF => ⟨_, _, _, _, _, _, _, _, _, _, _, _, _, _, _, rfl, hF.r 0 rfl, hF.rq 1 rfl, hF.be⟩); have e0 := hF.cell 1 0 rfl rfl; have e1 := hF.cell 1 1 rfl rfl; have e2 := hF.cell 1 2 rfl rfl; have e3 := hF.cell 2 0 rfl rfl; have e4 := hF.cell 2 1 rfl rfl; have e5 := hF.cell 2 2 rfl rfl; have e6 := hF.cell 2 3 rfl rfl; simp [results, Tryz.results28, go_sem, e0, e1, e2, e3, e4, e5, e6]))

theorem both_any (N D : Int) (w : World) (hN : -9223372036854775808 ≤ N ∧ N < 9223372036854775808) (hD : -9223372036854775808 ≤ D ∧ D < 9223372036854775808) : Calls Tryz.prog 28 #[.agg #[.int .i64 N, .int .i64 D]] w (RetB2 w (num N D)) := by
  unfold num
  by_cases h : D = 0
  · rw [if_pos h]; exact both_0 N D w hN hD h
  · rw [if_neg h]; exact both_n N D w hN hD h

end Go.Proofs.YtmfplelodnoicaaGreatDoor

/- the reference's pairs: VAdd, VSub, VScale, Dot, Cross, Same, VText -/
import Derived.Test.YtmfplelodnoicaaGreatDoorWR
import Derived.Test.YtmfplelodnoicaaGreatDoorWN22
import Derived.Test.YtmfplelodnoicaaGreatDoorWV2
import Derived.Test.YtmfplelodnoicaaGreatDoorWS2
import Derived.Test.YtmfplelodnoicaaGreatDoorWN23
namespace Go.Proofs.YtmfplelodnoicaaGreatDoor
open Go.RowKit Dig

set_option maxRecDepth 100000 in
set_option maxHeartbeats 2000000 in
theorem vaddN_any (s1 : Int) (a1 : Option Addr) (n1 c1 : Nat) (t1 : Int) (d1 : Option Addr) (e1 f1 : Nat) (p1 : Int) (u1 : Option Addr) (x1 y1 : Nat) (g1 : Int) (i1 : Option Addr) (o1 l1 : Nat) (v1 : Rat × Rat) (s2 : Int) (a2 : Option Addr) (n2 c2 : Nat) (t2 : Int) (d2 : Option Addr) (e2 f2 : Nat) (p2 : Int) (u2 : Option Addr) (x2 y2 : Nat) (g2 : Int) (i2 : Option Addr) (o2 l2 : Nat) (v2 : Rat × Rat) (w : World) (h1 : Nv w s1 (.slice a1 n1 c1) t1 (.slice d1 e1 f1) p1 (.slice u1 x1 y1) g1 (.slice i1 o1 l1) v1) (h2 : Nv w s2 (.slice a2 n2 c2) t2 (.slice d2 e2 f2) p2 (.slice u2 x2 y2) g2 (.slice i2 o2 l2) v2) (k1 k2 : Nat) (b1 : Bv k1 v1) (b2 : Bv k2 v2) (hk1 : k1 ≤ 10000) (hk2 : k2 ≤ 10000) :
    Calls Tryz.prog 87 #[.agg #[.int .i64 s1, .slice a1 n1 c1, .int .i64 t1, .slice d1 e1 f1, .int .i64 p1, .slice u1 x1 y1, .int .i64 g1, .slice i1 o1 l1], .agg #[.int .i64 s2, .slice a2 n2 c2, .int .i64 t2, .slice d2 e2 f2, .int .i64 p2, .slice u2 x2 y2, .int .i64 g2, .slice i2 o2 l2]] w (RetNV w (v1.1 + v2.1, v1.2 + v2.2)) := by
  have B1 := Lib.hid b1
  have B2 := Lib.hid b2
  clear b1 b2
  have hC := Lib.hid ((((((St.enter w).pp h1).pp h2).al (w.heap.size) #[.int .i64 s1, .slice a1 n1 c1, .int .i64 t1, .slice d1 e1 f1, .int .i64 p1, .slice u1 x1 y1, .int .i64 g1, .slice i1 o1 l1] 105 rfl rfl).al (w.heap.size + 1) #[.int .i64 s2, .slice a2 n2 c2, .int .i64 t2, .slice d2 e2 f2, .int .i64 p2, .slice u2 x2 y2, .int .i64 g2, .slice i2 o2 l2] 105 (by simp) rfl).al (w.heap.size + 2) #[.int .i64 0, .slice none 0 0, .int .i64 0, .slice none 0 0, .int .i64 0, .slice none 0 0, .int .i64 0, .slice none 0 0] 105 (by simp) rfl)
  clear h1 h2
  go_enter Tryz.func87, Tryz.ntmps87
  go_wp2
  refine wp_region_held_drew (S := (fun w' => w'.cell? ⟨w.heap.size, 0, none⟩ = some (.int .i64 s1) ∧ w'.cell? ⟨w.heap.size, 1, none⟩ = some (.slice a1 n1 c1) ∧ w'.cell? ⟨w.heap.size, 2, none⟩ = some (.int .i64 t1) ∧ w'.cell? ⟨w.heap.size, 3, none⟩ = some (.slice d1 e1 f1) ∧ w'.cell? ⟨w.heap.size, 4, none⟩ = some (.int .i64 p1) ∧ w'.cell? ⟨w.heap.size, 5, none⟩ = some (.slice u1 x1 y1) ∧ w'.cell? ⟨w.heap.size, 6, none⟩ = some (.int .i64 g1) ∧ w'.cell? ⟨w.heap.size, 7, none⟩ = some (.slice i1 o1 l1) ∧ w'.cell? ⟨w.heap.size + 1, 0, none⟩ = some (.int .i64 s2) ∧ w'.cell? ⟨w.heap.size + 1, 1, none⟩ = some (.slice a2 n2 c2) ∧ w'.cell? ⟨w.heap.size + 1, 2, none⟩ = some (.int .i64 t2) ∧ w'.cell? ⟨w.heap.size + 1, 3, none⟩ = some (.slice d2 e2 f2) ∧ w'.cell? ⟨w.heap.size + 1, 4, none⟩ = some (.int .i64 p2) ∧ w'.cell? ⟨w.heap.size + 1, 5, none⟩ = some (.slice u2 x2 y2) ∧ w'.cell? ⟨w.heap.size + 1, 6, none⟩ = some (.int .i64 g2) ∧ w'.cell? ⟨w.heap.size + 1, 7, none⟩ = some (.slice i2 o2 l2) ∧ True)) (by kernel_rfl) ?_ (fun hH0 => ?_)
  · (try dsimp only)
    all_goals (with_reducible refine And.intro (?_ : World.cell? _ _ = _) ?_; exact hC.out.drew.cell 0 0 rfl rfl; exact ⟨hC.out.drew.cell 0 1 rfl rfl, hC.out.drew.cell 0 2 rfl rfl, hC.out.drew.cell 0 3 rfl rfl, hC.out.drew.cell 0 4 rfl rfl, hC.out.drew.cell 0 5 rfl rfl, hC.out.drew.cell 0 6 rfl rfl, hC.out.drew.cell 0 7 rfl rfl, hC.out.drew.cell 1 0 rfl rfl, hC.out.drew.cell 1 1 rfl rfl, hC.out.drew.cell 1 2 rfl rfl, hC.out.drew.cell 1 3 rfl rfl, hC.out.drew.cell 1 4 rfl rfl, hC.out.drew.cell 1 5 rfl rfl, hC.out.drew.cell 1 6 rfl rfl, hC.out.drew.cell 1 7 rfl rfl, trivial⟩)
  refine wpAnyH_take (i := 0) (oi := ⟨_, _, _, _, _, _⟩) (v := ?_) rfl (by kernel_rfl) (by kernel_rfl) (by kernel_rfl) (fun _ _ _ h => h) (Or.inl ⟨by rfl, ?_⟩) hH0 ?_
  rotate_left
  · intro wS hSw; (try dsimp only at hSw); go_simp; try with_reducible rfl
  try simp only [Act.put, List.setIfInBounds_toArray, List.set_cons_zero, List.set_cons_succ]
  refine wpAnyH_take (i := 1) (oi := ⟨_, _, _, _, _, _⟩) (v := ?_) rfl (by kernel_rfl) (by kernel_rfl) (by kernel_rfl) (fun _ _ _ h => h) (Or.inl ⟨by rfl, ?_⟩) hH0 ?_
  rotate_left
  · intro wS hSw; (try dsimp only at hSw); go_simp; try with_reducible rfl
  try simp only [Act.put, List.setIfInBounds_toArray, List.set_cons_zero, List.set_cons_succ]
  refine wpAnyH_take (i := 2) (oi := ⟨_, _, _, _, _, _⟩) (v := ?_) rfl (by kernel_rfl) (by kernel_rfl) (by kernel_rfl) (fun _ _ _ h => h) (Or.inl ⟨by rfl, ?_⟩) hH0 ?_
  rotate_left
  · intro wS hSw; (try dsimp only at hSw); go_simp; try with_reducible rfl
  try simp only [Act.put, List.setIfInBounds_toArray, List.set_cons_zero, List.set_cons_succ]
  refine wpAnyH_take (i := 3) (oi := ⟨_, _, _, _, _, _⟩) (v := ?_) rfl (by kernel_rfl) (by kernel_rfl) (by kernel_rfl) (fun _ _ _ h => h) (Or.inl ⟨by rfl, ?_⟩) hH0 ?_
  rotate_left
  · intro wS hSw; (try dsimp only at hSw); go_simp; try with_reducible rfl
  try simp only [Act.put, List.setIfInBounds_toArray, List.set_cons_zero, List.set_cons_succ]
  refine wpAnyH_take (i := 5) (oi := ⟨_, _, _, _, _, _⟩) (v := ?_) rfl (by kernel_rfl) (by kernel_rfl) (by kernel_rfl) (fun _ _ _ h => h) (Or.inl ⟨by rfl, ?_⟩) hH0 ?_
  rotate_left
  · intro wS hSw; (try dsimp only at hSw); go_simp; try with_reducible rfl
  try simp only [Act.put, List.setIfInBounds_toArray, List.set_cons_zero, List.set_cons_succ]
  refine wpAnyH_take (i := 6) (oi := ⟨_, _, _, _, _, _⟩) (v := ?_) rfl (by kernel_rfl) (by kernel_rfl) (by kernel_rfl) (fun _ _ _ h => h) (Or.inl ⟨by rfl, ?_⟩) hH0 ?_
  rotate_left
  · intro wS hSw; (try dsimp only at hSw); go_simp; try with_reducible rfl
  try simp only [Act.put, List.setIfInBounds_toArray, List.set_cons_zero, List.set_cons_succ]
  refine wpAnyH_take (i := 7) (oi := ⟨_, _, _, _, _, _⟩) (v := ?_) rfl (by kernel_rfl) (by kernel_rfl) (by kernel_rfl) (fun _ _ _ h => h) (Or.inl ⟨by rfl, ?_⟩) hH0 ?_
  rotate_left
  · intro wS hSw; (try dsimp only at hSw); go_simp; try with_reducible rfl
  try simp only [Act.put, List.setIfInBounds_toArray, List.set_cons_zero, List.set_cons_succ]
  refine wpAnyH_take (i := 8) (oi := ⟨_, _, _, _, _, _⟩) (v := ?_) rfl (by kernel_rfl) (by kernel_rfl) (by kernel_rfl) (fun _ _ _ h => h) (Or.inl ⟨by rfl, ?_⟩) hH0 ?_
  rotate_left
  · intro wS hSw; (try dsimp only at hSw); go_simp; try with_reducible rfl
  try simp only [Act.put, List.setIfInBounds_toArray, List.set_cons_zero, List.set_cons_succ]
  refine wpAnyH_ready (rs := [4]) (by kernel_rfl) (by simp) ?_
  refine AllReadyH.cons (o := ⟨_, _, _, _, _, _⟩) rfl (fun Kq hKq => ?_) AllReadyH.nil
  go_simp
  (have _t := hC; go_at_call 68; refine (raddN_b (hC.out.drew.vp 0 rfl).x (hC.out.drew.vp 1 rfl).x B1.out.1 B2.out.1 (by omega) (by omega)).mono ?_; rintro e w3 ⟨s3, a3, n3, c3, t3, d3, e3, f3, rfl, hz, hb⟩; have hC3 := Lib.hid ((hC.out.drew.call hb).pq hz); clear hb hz; clear _t hC)
  (try go_wp2_with fail)
  refine hKq.out _ _ ?_ (fun hH1 => ?_)
  · (try dsimp only)
    all_goals (with_reducible refine And.intro (?_ : World.cell? w3 _ = _) ?_; exact hC3.out.cell 0 0 rfl rfl; exact ⟨hC3.out.cell 0 1 rfl rfl, hC3.out.cell 0 2 rfl rfl, hC3.out.cell 0 3 rfl rfl, hC3.out.cell 0 4 rfl rfl, hC3.out.cell 0 5 rfl rfl, hC3.out.cell 0 6 rfl rfl, hC3.out.cell 0 7 rfl rfl, hC3.out.cell 1 0 rfl rfl, hC3.out.cell 1 1 rfl rfl, hC3.out.cell 1 2 rfl rfl, hC3.out.cell 1 3 rfl rfl, hC3.out.cell 1 4 rfl rfl, hC3.out.cell 1 5 rfl rfl, hC3.out.cell 1 6 rfl rfl, hC3.out.cell 1 7 rfl rfl, trivial⟩)
  clear hKq Kq hH0
  try simp only [Act.put, List.setIfInBounds_toArray, List.set_cons_zero, List.set_cons_succ]
  refine wpAnyH_ready (rs := [9]) (by kernel_rfl) (by simp) ?_
  refine AllReadyH.cons (o := ⟨_, _, _, _, _, _⟩) rfl (fun Kq hKq => ?_) AllReadyH.nil
  go_simp
  (have _t := hC3; go_at_call 68; refine (raddN_b (hC3.out.vp 0 rfl).y (hC3.out.vp 1 rfl).y B1.out.2 B2.out.2 (by omega) (by omega)).mono ?_; rintro e w4 ⟨s4, a4, n4, c4, t4, d4, e4, f4, rfl, hz, hb⟩; have hC4 := Lib.hid ((hC3.out.call hb).pq hz); clear hb hz; have hC4_c20 := hC4.out.cell 2 0 rfl rfl; have hC4_f20 := hC4.out.free 2 0 rfl; have hC4_c21 := hC4.out.cell 2 1 rfl rfl; have hC4_f21 := hC4.out.free 2 1 rfl; have hC4_c22 := hC4.out.cell 2 2 rfl rfl; have hC4_f22 := hC4.out.free 2 2 rfl; have hC4_c23 := hC4.out.cell 2 3 rfl rfl; have hC4_f23 := hC4.out.free 2 3 rfl; have hC4_c24 := hC4.out.cell 2 4 rfl rfl; have hC4_f24 := hC4.out.free 2 4 rfl; have hC4_c25 := hC4.out.cell 2 5 rfl rfl; have hC4_f25 := hC4.out.free 2 5 rfl; have hC4_c26 := hC4.out.cell 2 6 rfl rfl; have hC4_f26 := hC4.out.free 2 6 rfl; have hC4_c27 := hC4.out.cell 2 7 rfl rfl; have hC4_f27 := hC4.out.free 2 7 rfl; clear _t hC3)
  (try go_wp2_with fail)
  refine hKq.out _ _ ?_ (fun hH2 => ?_)
  · (try dsimp only)
    all_goals (with_reducible refine And.intro (?_ : World.cell? w4 _ = _) ?_; exact hC4.out.cell 0 0 rfl rfl; exact ⟨hC4.out.cell 0 1 rfl rfl, hC4.out.cell 0 2 rfl rfl, hC4.out.cell 0 3 rfl rfl, hC4.out.cell 0 4 rfl rfl, hC4.out.cell 0 5 rfl rfl, hC4.out.cell 0 6 rfl rfl, hC4.out.cell 0 7 rfl rfl, hC4.out.cell 1 0 rfl rfl, hC4.out.cell 1 1 rfl rfl, hC4.out.cell 1 2 rfl rfl, hC4.out.cell 1 3 rfl rfl, hC4.out.cell 1 4 rfl rfl, hC4.out.cell 1 5 rfl rfl, hC4.out.cell 1 6 rfl rfl, hC4.out.cell 1 7 rfl rfl, trivial⟩)
  clear hKq Kq hH1
  try simp only [Act.put, List.setIfInBounds_toArray, List.set_cons_zero, List.set_cons_succ]
  refine wpAnyH_take (i := 10) (oi := ⟨_, _, _, _, _, _⟩) (v := ?_) rfl (by kernel_rfl) (by kernel_rfl) (by kernel_rfl) (fun _ _ _ h => h) (Or.inl ⟨by rfl, ?_⟩) hH2 ?_
  rotate_left
  · intro wS hSw; (try dsimp only at hSw); go_simp; try with_reducible rfl
  try simp only [Act.put, List.setIfInBounds_toArray, List.set_cons_zero, List.set_cons_succ]
  refine wpAnyH_ready (rs := [11]) (by kernel_rfl) (by simp) ?_
  refine AllReadyH.cons (o := ⟨_, _, _, _, _, _⟩) rfl (fun Kq hKq => ?_) AllReadyH.nil
  go_simp
  refine hKq.out _ _ ?_ (fun hH3 => ?_)
  · (try dsimp only)
    all_goals (first
      | (with_reducible refine (?_ : World.cell? (World.setCell (World.setCell (World.setCell (World.setCell (World.setCell (World.setCell (World.setCell (World.setCell w4 _ _) _ _) _ _) _ _) _ _) _ _) _ _) _ _) _ = _ ∧ _); have T : St w _ [(w.heap.size, #[.int .i64 s1, .slice a1 n1 c1, .int .i64 t1, .slice d1 e1 f1, .int .i64 p1, .slice u1 x1 y1, .int .i64 g1, .slice i1 o1 l1], 105), (w.heap.size + 1, #[.int .i64 s2, .slice a2 n2 c2, .int .i64 t2, .slice d2 e2 f2, .int .i64 p2, .slice u2 x2 y2, .int .i64 g2, .slice i2 o2 l2], 105), (w.heap.size + 2, #[.int .i64 s3, .slice a3 n3 c3, .int .i64 t3, .slice d3 e3 f3, .int .i64 s4, .slice a4 n4 c4, .int .i64 t4, .slice d4 e4 f4], 105)] _ := (hC4.out.set8 2 rfl); exact ⟨T.cell 0 0 rfl rfl, T.cell 0 1 rfl rfl, T.cell 0 2 rfl rfl, T.cell 0 3 rfl rfl, T.cell 0 4 rfl rfl, T.cell 0 5 rfl rfl, T.cell 0 6 rfl rfl, T.cell 0 7 rfl rfl, T.cell 1 0 rfl rfl, T.cell 1 1 rfl rfl, T.cell 1 2 rfl rfl, T.cell 1 3 rfl rfl, T.cell 1 4 rfl rfl, T.cell 1 5 rfl rfl, T.cell 1 6 rfl rfl, T.cell 1 7 rfl rfl, trivial⟩)
      | fail)
  clear hKq Kq hH2
  try simp only [Act.put, List.setIfInBounds_toArray, List.set_cons_zero, List.set_cons_succ]
  refine wpAnyH_done (by kernel_rfl) ?_ _
  go_wp2
  refine ret_st (show St w _ [(w.heap.size, #[.int .i64 s1, .slice a1 n1 c1, .int .i64 t1, .slice d1 e1 f1, .int .i64 p1, .slice u1 x1 y1, .int .i64 g1, .slice i1 o1 l1], 105), (w.heap.size + 1, #[.int .i64 s2, .slice a2 n2 c2, .int .i64 t2, .slice d2 e2 f2, .int .i64 p2, .slice u2 x2 y2, .int .i64 g2, .slice i2 o2 l2], 105), (w.heap.size + 2, #[.int .i64 s3, .slice a3 n3 c3, .int .i64 t3, .slice d3 e3 f3, .int .i64 s4, .slice a4 n4 c4, .int .i64 t4, .slice d4 e4 f4], 105)] _ from (hC4.out.set8 2 rfl)) (v := .agg #[.int .i64 s3, .slice a3 n3 c3, .int .i64 t3, .slice d3 e3 f3, .int .i64 s4, .slice a4 n4 c4, .int .i64 t4, .slice d4 e4 f4]) (fun hF => ?_) rfl (fun hF => ⟨_, _, _, _, _, _, _, _, _, _, _, _, _, _, _, _, rfl, ⟨hF.rq 2 rfl, hF.rq 3 rfl⟩, hF.be⟩)
  · have e0 := hF.cell 2 0 rfl rfl
    have e1 := hF.cell 2 1 rfl rfl
    have e2 := hF.cell 2 2 rfl rfl
    have e3 := hF.cell 2 3 rfl rfl
    have e4 := hF.cell 2 4 rfl rfl
    have e5 := hF.cell 2 5 rfl rfl
    have e6 := hF.cell 2 6 rfl rfl
    have e7 := hF.cell 2 7 rfl rfl
    simp [results, Tryz.results87, go_sem, e0, e1, e2, e3, e4, e5, e6, e7]

set_option maxRecDepth 100000 in
set_option maxHeartbeats 2000000 in
theorem vsubN_any (s1 : Int) (a1 : Option Addr) (n1 c1 : Nat) (t1 : Int) (d1 : Option Addr) (e1 f1 : Nat) (p1 : Int) (u1 : Option Addr) (x1 y1 : Nat) (g1 : Int) (i1 : Option Addr) (o1 l1 : Nat) (v1 : Rat × Rat) (s2 : Int) (a2 : Option Addr) (n2 c2 : Nat) (t2 : Int) (d2 : Option Addr) (e2 f2 : Nat) (p2 : Int) (u2 : Option Addr) (x2 y2 : Nat) (g2 : Int) (i2 : Option Addr) (o2 l2 : Nat) (v2 : Rat × Rat) (w : World) (h1 : Nv w s1 (.slice a1 n1 c1) t1 (.slice d1 e1 f1) p1 (.slice u1 x1 y1) g1 (.slice i1 o1 l1) v1) (h2 : Nv w s2 (.slice a2 n2 c2) t2 (.slice d2 e2 f2) p2 (.slice u2 x2 y2) g2 (.slice i2 o2 l2) v2) (k1 k2 : Nat) (b1 : Bv k1 v1) (b2 : Bv k2 v2) (hk1 : k1 ≤ 10000) (hk2 : k2 ≤ 10000) :
    Calls Tryz.prog 89 #[.agg #[.int .i64 s1, .slice a1 n1 c1, .int .i64 t1, .slice d1 e1 f1, .int .i64 p1, .slice u1 x1 y1, .int .i64 g1, .slice i1 o1 l1], .agg #[.int .i64 s2, .slice a2 n2 c2, .int .i64 t2, .slice d2 e2 f2, .int .i64 p2, .slice u2 x2 y2, .int .i64 g2, .slice i2 o2 l2]] w (RetNV w (v1.1 - v2.1, v1.2 - v2.2)) := by
  have B1 := Lib.hid b1
  have B2 := Lib.hid b2
  clear b1 b2
  have hC := Lib.hid ((((((St.enter w).pp h1).pp h2).al (w.heap.size) #[.int .i64 s1, .slice a1 n1 c1, .int .i64 t1, .slice d1 e1 f1, .int .i64 p1, .slice u1 x1 y1, .int .i64 g1, .slice i1 o1 l1] 105 rfl rfl).al (w.heap.size + 1) #[.int .i64 s2, .slice a2 n2 c2, .int .i64 t2, .slice d2 e2 f2, .int .i64 p2, .slice u2 x2 y2, .int .i64 g2, .slice i2 o2 l2] 105 (by simp) rfl).al (w.heap.size + 2) #[.int .i64 0, .slice none 0 0, .int .i64 0, .slice none 0 0, .int .i64 0, .slice none 0 0, .int .i64 0, .slice none 0 0] 105 (by simp) rfl)
  clear h1 h2
  go_enter Tryz.func89, Tryz.ntmps89
  go_wp2
  refine wp_region_held_drew (S := (fun w' => w'.cell? ⟨w.heap.size, 0, none⟩ = some (.int .i64 s1) ∧ w'.cell? ⟨w.heap.size, 1, none⟩ = some (.slice a1 n1 c1) ∧ w'.cell? ⟨w.heap.size, 2, none⟩ = some (.int .i64 t1) ∧ w'.cell? ⟨w.heap.size, 3, none⟩ = some (.slice d1 e1 f1) ∧ w'.cell? ⟨w.heap.size, 4, none⟩ = some (.int .i64 p1) ∧ w'.cell? ⟨w.heap.size, 5, none⟩ = some (.slice u1 x1 y1) ∧ w'.cell? ⟨w.heap.size, 6, none⟩ = some (.int .i64 g1) ∧ w'.cell? ⟨w.heap.size, 7, none⟩ = some (.slice i1 o1 l1) ∧ w'.cell? ⟨w.heap.size + 1, 0, none⟩ = some (.int .i64 s2) ∧ w'.cell? ⟨w.heap.size + 1, 1, none⟩ = some (.slice a2 n2 c2) ∧ w'.cell? ⟨w.heap.size + 1, 2, none⟩ = some (.int .i64 t2) ∧ w'.cell? ⟨w.heap.size + 1, 3, none⟩ = some (.slice d2 e2 f2) ∧ w'.cell? ⟨w.heap.size + 1, 4, none⟩ = some (.int .i64 p2) ∧ w'.cell? ⟨w.heap.size + 1, 5, none⟩ = some (.slice u2 x2 y2) ∧ w'.cell? ⟨w.heap.size + 1, 6, none⟩ = some (.int .i64 g2) ∧ w'.cell? ⟨w.heap.size + 1, 7, none⟩ = some (.slice i2 o2 l2) ∧ True)) (by kernel_rfl) ?_ (fun hH0 => ?_)
  · (try dsimp only)
    all_goals (with_reducible refine And.intro (?_ : World.cell? _ _ = _) ?_; exact hC.out.drew.cell 0 0 rfl rfl; exact ⟨hC.out.drew.cell 0 1 rfl rfl, hC.out.drew.cell 0 2 rfl rfl, hC.out.drew.cell 0 3 rfl rfl, hC.out.drew.cell 0 4 rfl rfl, hC.out.drew.cell 0 5 rfl rfl, hC.out.drew.cell 0 6 rfl rfl, hC.out.drew.cell 0 7 rfl rfl, hC.out.drew.cell 1 0 rfl rfl, hC.out.drew.cell 1 1 rfl rfl, hC.out.drew.cell 1 2 rfl rfl, hC.out.drew.cell 1 3 rfl rfl, hC.out.drew.cell 1 4 rfl rfl, hC.out.drew.cell 1 5 rfl rfl, hC.out.drew.cell 1 6 rfl rfl, hC.out.drew.cell 1 7 rfl rfl, trivial⟩)
  refine wpAnyH_take (i := 0) (oi := ⟨_, _, _, _, _, _⟩) (v := ?_) rfl (by kernel_rfl) (by kernel_rfl) (by kernel_rfl) (fun _ _ _ h => h) (Or.inl ⟨by rfl, ?_⟩) hH0 ?_
  rotate_left
  · intro wS hSw; (try dsimp only at hSw); go_simp; try with_reducible rfl
  try simp only [Act.put, List.setIfInBounds_toArray, List.set_cons_zero, List.set_cons_succ]
  refine wpAnyH_take (i := 1) (oi := ⟨_, _, _, _, _, _⟩) (v := ?_) rfl (by kernel_rfl) (by kernel_rfl) (by kernel_rfl) (fun _ _ _ h => h) (Or.inl ⟨by rfl, ?_⟩) hH0 ?_
  rotate_left
  · intro wS hSw; (try dsimp only at hSw); go_simp; try with_reducible rfl
  try simp only [Act.put, List.setIfInBounds_toArray, List.set_cons_zero, List.set_cons_succ]
  refine wpAnyH_take (i := 2) (oi := ⟨_, _, _, _, _, _⟩) (v := ?_) rfl (by kernel_rfl) (by kernel_rfl) (by kernel_rfl) (fun _ _ _ h => h) (Or.inl ⟨by rfl, ?_⟩) hH0 ?_
  rotate_left
  · intro wS hSw; (try dsimp only at hSw); go_simp; try with_reducible rfl
  try simp only [Act.put, List.setIfInBounds_toArray, List.set_cons_zero, List.set_cons_succ]
  refine wpAnyH_take (i := 3) (oi := ⟨_, _, _, _, _, _⟩) (v := ?_) rfl (by kernel_rfl) (by kernel_rfl) (by kernel_rfl) (fun _ _ _ h => h) (Or.inl ⟨by rfl, ?_⟩) hH0 ?_
  rotate_left
  · intro wS hSw; (try dsimp only at hSw); go_simp; try with_reducible rfl
  try simp only [Act.put, List.setIfInBounds_toArray, List.set_cons_zero, List.set_cons_succ]
  refine wpAnyH_take (i := 5) (oi := ⟨_, _, _, _, _, _⟩) (v := ?_) rfl (by kernel_rfl) (by kernel_rfl) (by kernel_rfl) (fun _ _ _ h => h) (Or.inl ⟨by rfl, ?_⟩) hH0 ?_
  rotate_left
  · intro wS hSw; (try dsimp only at hSw); go_simp; try with_reducible rfl
  try simp only [Act.put, List.setIfInBounds_toArray, List.set_cons_zero, List.set_cons_succ]
  refine wpAnyH_take (i := 6) (oi := ⟨_, _, _, _, _, _⟩) (v := ?_) rfl (by kernel_rfl) (by kernel_rfl) (by kernel_rfl) (fun _ _ _ h => h) (Or.inl ⟨by rfl, ?_⟩) hH0 ?_
  rotate_left
  · intro wS hSw; (try dsimp only at hSw); go_simp; try with_reducible rfl
  try simp only [Act.put, List.setIfInBounds_toArray, List.set_cons_zero, List.set_cons_succ]
  refine wpAnyH_take (i := 7) (oi := ⟨_, _, _, _, _, _⟩) (v := ?_) rfl (by kernel_rfl) (by kernel_rfl) (by kernel_rfl) (fun _ _ _ h => h) (Or.inl ⟨by rfl, ?_⟩) hH0 ?_
  rotate_left
  · intro wS hSw; (try dsimp only at hSw); go_simp; try with_reducible rfl
  try simp only [Act.put, List.setIfInBounds_toArray, List.set_cons_zero, List.set_cons_succ]
  refine wpAnyH_take (i := 8) (oi := ⟨_, _, _, _, _, _⟩) (v := ?_) rfl (by kernel_rfl) (by kernel_rfl) (by kernel_rfl) (fun _ _ _ h => h) (Or.inl ⟨by rfl, ?_⟩) hH0 ?_
  rotate_left
  · intro wS hSw; (try dsimp only at hSw); go_simp; try with_reducible rfl
  try simp only [Act.put, List.setIfInBounds_toArray, List.set_cons_zero, List.set_cons_succ]
  refine wpAnyH_ready (rs := [4]) (by kernel_rfl) (by simp) ?_
  refine AllReadyH.cons (o := ⟨_, _, _, _, _, _⟩) rfl (fun Kq hKq => ?_) AllReadyH.nil
  go_simp
  (have _t := hC; go_at_call 70; refine (rsubN_b (hC.out.drew.vp 0 rfl).x (hC.out.drew.vp 1 rfl).x B1.out.1 B2.out.1 (by omega) (by omega)).mono ?_; rintro e w3 ⟨s3, a3, n3, c3, t3, d3, e3, f3, rfl, hz, hb⟩; have hC3 := Lib.hid ((hC.out.drew.call hb).pq hz); clear hb hz; clear _t hC)
  (try go_wp2_with fail)
  refine hKq.out _ _ ?_ (fun hH1 => ?_)
  · (try dsimp only)
    all_goals (with_reducible refine And.intro (?_ : World.cell? w3 _ = _) ?_; exact hC3.out.cell 0 0 rfl rfl; exact ⟨hC3.out.cell 0 1 rfl rfl, hC3.out.cell 0 2 rfl rfl, hC3.out.cell 0 3 rfl rfl, hC3.out.cell 0 4 rfl rfl, hC3.out.cell 0 5 rfl rfl, hC3.out.cell 0 6 rfl rfl, hC3.out.cell 0 7 rfl rfl, hC3.out.cell 1 0 rfl rfl, hC3.out.cell 1 1 rfl rfl, hC3.out.cell 1 2 rfl rfl, hC3.out.cell 1 3 rfl rfl, hC3.out.cell 1 4 rfl rfl, hC3.out.cell 1 5 rfl rfl, hC3.out.cell 1 6 rfl rfl, hC3.out.cell 1 7 rfl rfl, trivial⟩)
  clear hKq Kq hH0
  try simp only [Act.put, List.setIfInBounds_toArray, List.set_cons_zero, List.set_cons_succ]
  refine wpAnyH_ready (rs := [9]) (by kernel_rfl) (by simp) ?_
  refine AllReadyH.cons (o := ⟨_, _, _, _, _, _⟩) rfl (fun Kq hKq => ?_) AllReadyH.nil
  go_simp
  (have _t := hC3; go_at_call 70; refine (rsubN_b (hC3.out.vp 0 rfl).y (hC3.out.vp 1 rfl).y B1.out.2 B2.out.2 (by omega) (by omega)).mono ?_; rintro e w4 ⟨s4, a4, n4, c4, t4, d4, e4, f4, rfl, hz, hb⟩; have hC4 := Lib.hid ((hC3.out.call hb).pq hz); clear hb hz; have hC4_c20 := hC4.out.cell 2 0 rfl rfl; have hC4_f20 := hC4.out.free 2 0 rfl; have hC4_c21 := hC4.out.cell 2 1 rfl rfl; have hC4_f21 := hC4.out.free 2 1 rfl; have hC4_c22 := hC4.out.cell 2 2 rfl rfl; have hC4_f22 := hC4.out.free 2 2 rfl; have hC4_c23 := hC4.out.cell 2 3 rfl rfl; have hC4_f23 := hC4.out.free 2 3 rfl; have hC4_c24 := hC4.out.cell 2 4 rfl rfl; have hC4_f24 := hC4.out.free 2 4 rfl; have hC4_c25 := hC4.out.cell 2 5 rfl rfl; have hC4_f25 := hC4.out.free 2 5 rfl; have hC4_c26 := hC4.out.cell 2 6 rfl rfl; have hC4_f26 := hC4.out.free 2 6 rfl; have hC4_c27 := hC4.out.cell 2 7 rfl rfl; have hC4_f27 := hC4.out.free 2 7 rfl; clear _t hC3)
  (try go_wp2_with fail)
  refine hKq.out _ _ ?_ (fun hH2 => ?_)
  · (try dsimp only)
    all_goals (with_reducible refine And.intro (?_ : World.cell? w4 _ = _) ?_; exact hC4.out.cell 0 0 rfl rfl; exact ⟨hC4.out.cell 0 1 rfl rfl, hC4.out.cell 0 2 rfl rfl, hC4.out.cell 0 3 rfl rfl, hC4.out.cell 0 4 rfl rfl, hC4.out.cell 0 5 rfl rfl, hC4.out.cell 0 6 rfl rfl, hC4.out.cell 0 7 rfl rfl, hC4.out.cell 1 0 rfl rfl, hC4.out.cell 1 1 rfl rfl, hC4.out.cell 1 2 rfl rfl, hC4.out.cell 1 3 rfl rfl, hC4.out.cell 1 4 rfl rfl, hC4.out.cell 1 5 rfl rfl, hC4.out.cell 1 6 rfl rfl, hC4.out.cell 1 7 rfl rfl, trivial⟩)
  clear hKq Kq hH1
  try simp only [Act.put, List.setIfInBounds_toArray, List.set_cons_zero, List.set_cons_succ]
  refine wpAnyH_take (i := 10) (oi := ⟨_, _, _, _, _, _⟩) (v := ?_) rfl (by kernel_rfl) (by kernel_rfl) (by kernel_rfl) (fun _ _ _ h => h) (Or.inl ⟨by rfl, ?_⟩) hH2 ?_
  rotate_left
  · intro wS hSw; (try dsimp only at hSw); go_simp; try with_reducible rfl
  try simp only [Act.put, List.setIfInBounds_toArray, List.set_cons_zero, List.set_cons_succ]
  refine wpAnyH_ready (rs := [11]) (by kernel_rfl) (by simp) ?_
  refine AllReadyH.cons (o := ⟨_, _, _, _, _, _⟩) rfl (fun Kq hKq => ?_) AllReadyH.nil
  go_simp
  refine hKq.out _ _ ?_ (fun hH3 => ?_)
  · (try dsimp only)
    all_goals (first
      | (with_reducible refine (?_ : World.cell? (World.setCell (World.setCell (World.setCell (World.setCell (World.setCell (World.setCell (World.setCell (World.setCell w4 _ _) _ _) _ _) _ _) _ _) _ _) _ _) _ _) _ = _ ∧ _); have T : St w _ [(w.heap.size, #[.int .i64 s1, .slice a1 n1 c1, .int .i64 t1, .slice d1 e1 f1, .int .i64 p1, .slice u1 x1 y1, .int .i64 g1, .slice i1 o1 l1], 105), (w.heap.size + 1, #[.int .i64 s2, .slice a2 n2 c2, .int .i64 t2, .slice d2 e2 f2, .int .i64 p2, .slice u2 x2 y2, .int .i64 g2, .slice i2 o2 l2], 105), (w.heap.size + 2, #[.int .i64 s3, .slice a3 n3 c3, .int .i64 t3, .slice d3 e3 f3, .int .i64 s4, .slice a4 n4 c4, .int .i64 t4, .slice d4 e4 f4], 105)] _ := (hC4.out.set8 2 rfl); exact ⟨T.cell 0 0 rfl rfl, T.cell 0 1 rfl rfl, T.cell 0 2 rfl rfl, T.cell 0 3 rfl rfl, T.cell 0 4 rfl rfl, T.cell 0 5 rfl rfl, T.cell 0 6 rfl rfl, T.cell 0 7 rfl rfl, T.cell 1 0 rfl rfl, T.cell 1 1 rfl rfl, T.cell 1 2 rfl rfl, T.cell 1 3 rfl rfl, T.cell 1 4 rfl rfl, T.cell 1 5 rfl rfl, T.cell 1 6 rfl rfl, T.cell 1 7 rfl rfl, trivial⟩)
      | fail)
  clear hKq Kq hH2
  try simp only [Act.put, List.setIfInBounds_toArray, List.set_cons_zero, List.set_cons_succ]
  refine wpAnyH_done (by kernel_rfl) ?_ _
  go_wp2
  refine ret_st (show St w _ [(w.heap.size, #[.int .i64 s1, .slice a1 n1 c1, .int .i64 t1, .slice d1 e1 f1, .int .i64 p1, .slice u1 x1 y1, .int .i64 g1, .slice i1 o1 l1], 105), (w.heap.size + 1, #[.int .i64 s2, .slice a2 n2 c2, .int .i64 t2, .slice d2 e2 f2, .int .i64 p2, .slice u2 x2 y2, .int .i64 g2, .slice i2 o2 l2], 105), (w.heap.size + 2, #[.int .i64 s3, .slice a3 n3 c3, .int .i64 t3, .slice d3 e3 f3, .int .i64 s4, .slice a4 n4 c4, .int .i64 t4, .slice d4 e4 f4], 105)] _ from (hC4.out.set8 2 rfl)) (v := .agg #[.int .i64 s3, .slice a3 n3 c3, .int .i64 t3, .slice d3 e3 f3, .int .i64 s4, .slice a4 n4 c4, .int .i64 t4, .slice d4 e4 f4]) (fun hF => ?_) rfl (fun hF => ⟨_, _, _, _, _, _, _, _, _, _, _, _, _, _, _, _, rfl, ⟨hF.rq 2 rfl, hF.rq 3 rfl⟩, hF.be⟩)
  · have e0 := hF.cell 2 0 rfl rfl
    have e1 := hF.cell 2 1 rfl rfl
    have e2 := hF.cell 2 2 rfl rfl
    have e3 := hF.cell 2 3 rfl rfl
    have e4 := hF.cell 2 4 rfl rfl
    have e5 := hF.cell 2 5 rfl rfl
    have e6 := hF.cell 2 6 rfl rfl
    have e7 := hF.cell 2 7 rfl rfl
    simp [results, Tryz.results89, go_sem, e0, e1, e2, e3, e4, e5, e6, e7]

set_option maxRecDepth 100000 in
set_option maxHeartbeats 2000000 in
theorem vscaleN_any (s1 : Int) (a1 : Option Addr) (n1 c1 : Nat) (t1 : Int) (d1 : Option Addr) (e1 f1 : Nat) (p1 : Int) (u1 : Option Addr) (x1 y1 : Nat) (g1 : Int) (i1 : Option Addr) (o1 l1 : Nat) (v1 : Rat × Rat) (s2 : Int) (a2 : Option Addr) (n2 c2 : Nat) (t2 : Int) (d2 : Option Addr) (e2 f2 : Nat) (q2 : Rat) (w : World) (h1 : Nv w s1 (.slice a1 n1 c1) t1 (.slice d1 e1 f1) p1 (.slice u1 x1 y1) g1 (.slice i1 o1 l1) v1) (h2 : Nq w s2 (.slice a2 n2 c2) t2 (.slice d2 e2 f2) q2) (k1 k2 : Nat) (b1 : Bv k1 v1) (b2 : Bq k2 q2) (hk1 : k1 ≤ 10000) (hk2 : k2 ≤ 10000) :
    Calls Tryz.prog 91 #[.agg #[.int .i64 s1, .slice a1 n1 c1, .int .i64 t1, .slice d1 e1 f1, .int .i64 p1, .slice u1 x1 y1, .int .i64 g1, .slice i1 o1 l1], .agg #[.int .i64 s2, .slice a2 n2 c2, .int .i64 t2, .slice d2 e2 f2]] w (RetNV w (v1.1 * q2, v1.2 * q2)) := by
  have B1 := Lib.hid b1
  have B2 := Lib.hid b2
  clear b1 b2
  have hC := Lib.hid ((((((St.enter w).pp h1).pq h2).al (w.heap.size) #[.int .i64 s1, .slice a1 n1 c1, .int .i64 t1, .slice d1 e1 f1, .int .i64 p1, .slice u1 x1 y1, .int .i64 g1, .slice i1 o1 l1] 105 rfl rfl).al (w.heap.size + 1) #[.int .i64 s2, .slice a2 n2 c2, .int .i64 t2, .slice d2 e2 f2] 54 (by simp) rfl).al (w.heap.size + 2) #[.int .i64 0, .slice none 0 0, .int .i64 0, .slice none 0 0, .int .i64 0, .slice none 0 0, .int .i64 0, .slice none 0 0] 105 (by simp) rfl)
  clear h1 h2
  go_enter Tryz.func91, Tryz.ntmps91
  go_wp2
  refine wp_region_held_drew (S := (fun w' => w'.cell? ⟨w.heap.size, 0, none⟩ = some (.int .i64 s1) ∧ w'.cell? ⟨w.heap.size, 1, none⟩ = some (.slice a1 n1 c1) ∧ w'.cell? ⟨w.heap.size, 2, none⟩ = some (.int .i64 t1) ∧ w'.cell? ⟨w.heap.size, 3, none⟩ = some (.slice d1 e1 f1) ∧ w'.cell? ⟨w.heap.size, 4, none⟩ = some (.int .i64 p1) ∧ w'.cell? ⟨w.heap.size, 5, none⟩ = some (.slice u1 x1 y1) ∧ w'.cell? ⟨w.heap.size, 6, none⟩ = some (.int .i64 g1) ∧ w'.cell? ⟨w.heap.size, 7, none⟩ = some (.slice i1 o1 l1) ∧ w'.cell? ⟨w.heap.size + 1, 0, none⟩ = some (.int .i64 s2) ∧ w'.cell? ⟨w.heap.size + 1, 1, none⟩ = some (.slice a2 n2 c2) ∧ w'.cell? ⟨w.heap.size + 1, 2, none⟩ = some (.int .i64 t2) ∧ w'.cell? ⟨w.heap.size + 1, 3, none⟩ = some (.slice d2 e2 f2) ∧ True)) (by kernel_rfl) ?_ (fun hH0 => ?_)
  · (try dsimp only)
    all_goals (with_reducible refine And.intro (?_ : World.cell? _ _ = _) ?_; exact hC.out.drew.cell 0 0 rfl rfl; exact ⟨hC.out.drew.cell 0 1 rfl rfl, hC.out.drew.cell 0 2 rfl rfl, hC.out.drew.cell 0 3 rfl rfl, hC.out.drew.cell 0 4 rfl rfl, hC.out.drew.cell 0 5 rfl rfl, hC.out.drew.cell 0 6 rfl rfl, hC.out.drew.cell 0 7 rfl rfl, hC.out.drew.cell 1 0 rfl rfl, hC.out.drew.cell 1 1 rfl rfl, hC.out.drew.cell 1 2 rfl rfl, hC.out.drew.cell 1 3 rfl rfl, trivial⟩)
  refine wpAnyH_take (i := 0) (oi := ⟨_, _, _, _, _, _⟩) (v := ?_) rfl (by kernel_rfl) (by kernel_rfl) (by kernel_rfl) (fun _ _ _ h => h) (Or.inl ⟨by rfl, ?_⟩) hH0 ?_
  rotate_left
  · intro wS hSw; (try dsimp only at hSw); go_simp; try with_reducible rfl
  try simp only [Act.put, List.setIfInBounds_toArray, List.set_cons_zero, List.set_cons_succ]
  refine wpAnyH_take (i := 1) (oi := ⟨_, _, _, _, _, _⟩) (v := ?_) rfl (by kernel_rfl) (by kernel_rfl) (by kernel_rfl) (fun _ _ _ h => h) (Or.inl ⟨by rfl, ?_⟩) hH0 ?_
  rotate_left
  · intro wS hSw; (try dsimp only at hSw); go_simp; try with_reducible rfl
  try simp only [Act.put, List.setIfInBounds_toArray, List.set_cons_zero, List.set_cons_succ]
  refine wpAnyH_take (i := 2) (oi := ⟨_, _, _, _, _, _⟩) (v := ?_) rfl (by kernel_rfl) (by kernel_rfl) (by kernel_rfl) (fun _ _ _ h => h) (Or.inl ⟨by rfl, ?_⟩) hH0 ?_
  rotate_left
  · intro wS hSw; (try dsimp only at hSw); go_simp; try with_reducible rfl
  try simp only [Act.put, List.setIfInBounds_toArray, List.set_cons_zero, List.set_cons_succ]
  refine wpAnyH_take (i := 4) (oi := ⟨_, _, _, _, _, _⟩) (v := ?_) rfl (by kernel_rfl) (by kernel_rfl) (by kernel_rfl) (fun _ _ _ h => h) (Or.inl ⟨by rfl, ?_⟩) hH0 ?_
  rotate_left
  · intro wS hSw; (try dsimp only at hSw); go_simp; try with_reducible rfl
  try simp only [Act.put, List.setIfInBounds_toArray, List.set_cons_zero, List.set_cons_succ]
  refine wpAnyH_take (i := 5) (oi := ⟨_, _, _, _, _, _⟩) (v := ?_) rfl (by kernel_rfl) (by kernel_rfl) (by kernel_rfl) (fun _ _ _ h => h) (Or.inl ⟨by rfl, ?_⟩) hH0 ?_
  rotate_left
  · intro wS hSw; (try dsimp only at hSw); go_simp; try with_reducible rfl
  try simp only [Act.put, List.setIfInBounds_toArray, List.set_cons_zero, List.set_cons_succ]
  refine wpAnyH_take (i := 6) (oi := ⟨_, _, _, _, _, _⟩) (v := ?_) rfl (by kernel_rfl) (by kernel_rfl) (by kernel_rfl) (fun _ _ _ h => h) (Or.inl ⟨by rfl, ?_⟩) hH0 ?_
  rotate_left
  · intro wS hSw; (try dsimp only at hSw); go_simp; try with_reducible rfl
  try simp only [Act.put, List.setIfInBounds_toArray, List.set_cons_zero, List.set_cons_succ]
  refine wpAnyH_ready (rs := [3]) (by kernel_rfl) (by simp) ?_
  refine AllReadyH.cons (o := ⟨_, _, _, _, _, _⟩) rfl (fun Kq hKq => ?_) AllReadyH.nil
  go_simp
  (have _t := hC; go_at_call 72; refine (rmulN_b (hC.out.drew.vp 0 rfl).x (hC.out.drew.rq 1 rfl) B1.out.1 B2.out (by omega) (by omega)).mono ?_; rintro e w3 ⟨s3, a3, n3, c3, t3, d3, e3, f3, rfl, hz, hb⟩; have hC3 := Lib.hid ((hC.out.drew.call hb).pq hz); clear hb hz; clear _t hC)
  (try go_wp2_with fail)
  refine hKq.out _ _ ?_ (fun hH1 => ?_)
  · (try dsimp only)
    all_goals (with_reducible refine And.intro (?_ : World.cell? w3 _ = _) ?_; exact hC3.out.cell 0 0 rfl rfl; exact ⟨hC3.out.cell 0 1 rfl rfl, hC3.out.cell 0 2 rfl rfl, hC3.out.cell 0 3 rfl rfl, hC3.out.cell 0 4 rfl rfl, hC3.out.cell 0 5 rfl rfl, hC3.out.cell 0 6 rfl rfl, hC3.out.cell 0 7 rfl rfl, hC3.out.cell 1 0 rfl rfl, hC3.out.cell 1 1 rfl rfl, hC3.out.cell 1 2 rfl rfl, hC3.out.cell 1 3 rfl rfl, trivial⟩)
  clear hKq Kq hH0
  try simp only [Act.put, List.setIfInBounds_toArray, List.set_cons_zero, List.set_cons_succ]
  refine wpAnyH_ready (rs := [7]) (by kernel_rfl) (by simp) ?_
  refine AllReadyH.cons (o := ⟨_, _, _, _, _, _⟩) rfl (fun Kq hKq => ?_) AllReadyH.nil
  go_simp
  (have _t := hC3; go_at_call 72; refine (rmulN_b (hC3.out.vp 0 rfl).y (hC3.out.rq 1 rfl) B1.out.2 B2.out (by omega) (by omega)).mono ?_; rintro e w4 ⟨s4, a4, n4, c4, t4, d4, e4, f4, rfl, hz, hb⟩; have hC4 := Lib.hid ((hC3.out.call hb).pq hz); clear hb hz; have hC4_c20 := hC4.out.cell 2 0 rfl rfl; have hC4_f20 := hC4.out.free 2 0 rfl; have hC4_c21 := hC4.out.cell 2 1 rfl rfl; have hC4_f21 := hC4.out.free 2 1 rfl; have hC4_c22 := hC4.out.cell 2 2 rfl rfl; have hC4_f22 := hC4.out.free 2 2 rfl; have hC4_c23 := hC4.out.cell 2 3 rfl rfl; have hC4_f23 := hC4.out.free 2 3 rfl; have hC4_c24 := hC4.out.cell 2 4 rfl rfl; have hC4_f24 := hC4.out.free 2 4 rfl; have hC4_c25 := hC4.out.cell 2 5 rfl rfl; have hC4_f25 := hC4.out.free 2 5 rfl; have hC4_c26 := hC4.out.cell 2 6 rfl rfl; have hC4_f26 := hC4.out.free 2 6 rfl; have hC4_c27 := hC4.out.cell 2 7 rfl rfl; have hC4_f27 := hC4.out.free 2 7 rfl; clear _t hC3)
  (try go_wp2_with fail)
  refine hKq.out _ _ ?_ (fun hH2 => ?_)
  · (try dsimp only)
    all_goals (with_reducible refine And.intro (?_ : World.cell? w4 _ = _) ?_; exact hC4.out.cell 0 0 rfl rfl; exact ⟨hC4.out.cell 0 1 rfl rfl, hC4.out.cell 0 2 rfl rfl, hC4.out.cell 0 3 rfl rfl, hC4.out.cell 0 4 rfl rfl, hC4.out.cell 0 5 rfl rfl, hC4.out.cell 0 6 rfl rfl, hC4.out.cell 0 7 rfl rfl, hC4.out.cell 1 0 rfl rfl, hC4.out.cell 1 1 rfl rfl, hC4.out.cell 1 2 rfl rfl, hC4.out.cell 1 3 rfl rfl, trivial⟩)
  clear hKq Kq hH1
  try simp only [Act.put, List.setIfInBounds_toArray, List.set_cons_zero, List.set_cons_succ]
  refine wpAnyH_take (i := 8) (oi := ⟨_, _, _, _, _, _⟩) (v := ?_) rfl (by kernel_rfl) (by kernel_rfl) (by kernel_rfl) (fun _ _ _ h => h) (Or.inl ⟨by rfl, ?_⟩) hH2 ?_
  rotate_left
  · intro wS hSw; (try dsimp only at hSw); go_simp; try with_reducible rfl
  try simp only [Act.put, List.setIfInBounds_toArray, List.set_cons_zero, List.set_cons_succ]
  refine wpAnyH_ready (rs := [9]) (by kernel_rfl) (by simp) ?_
  refine AllReadyH.cons (o := ⟨_, _, _, _, _, _⟩) rfl (fun Kq hKq => ?_) AllReadyH.nil
  go_simp
  refine hKq.out _ _ ?_ (fun hH3 => ?_)
  · (try dsimp only)
    all_goals (first
      | (with_reducible refine (?_ : World.cell? (World.setCell (World.setCell (World.setCell (World.setCell (World.setCell (World.setCell (World.setCell (World.setCell w4 _ _) _ _) _ _) _ _) _ _) _ _) _ _) _ _) _ = _ ∧ _); have T : St w _ [(w.heap.size, #[.int .i64 s1, .slice a1 n1 c1, .int .i64 t1, .slice d1 e1 f1, .int .i64 p1, .slice u1 x1 y1, .int .i64 g1, .slice i1 o1 l1], 105), (w.heap.size + 1, #[.int .i64 s2, .slice a2 n2 c2, .int .i64 t2, .slice d2 e2 f2], 54), (w.heap.size + 2, #[.int .i64 s3, .slice a3 n3 c3, .int .i64 t3, .slice d3 e3 f3, .int .i64 s4, .slice a4 n4 c4, .int .i64 t4, .slice d4 e4 f4], 105)] _ := (hC4.out.set8 2 rfl); exact ⟨T.cell 0 0 rfl rfl, T.cell 0 1 rfl rfl, T.cell 0 2 rfl rfl, T.cell 0 3 rfl rfl, T.cell 0 4 rfl rfl, T.cell 0 5 rfl rfl, T.cell 0 6 rfl rfl, T.cell 0 7 rfl rfl, T.cell 1 0 rfl rfl, T.cell 1 1 rfl rfl, T.cell 1 2 rfl rfl, T.cell 1 3 rfl rfl, trivial⟩)
      | fail)
  clear hKq Kq hH2
  try simp only [Act.put, List.setIfInBounds_toArray, List.set_cons_zero, List.set_cons_succ]
  refine wpAnyH_done (by kernel_rfl) ?_ _
  go_wp2
  refine ret_st (show St w _ [(w.heap.size, #[.int .i64 s1, .slice a1 n1 c1, .int .i64 t1, .slice d1 e1 f1, .int .i64 p1, .slice u1 x1 y1, .int .i64 g1, .slice i1 o1 l1], 105), (w.heap.size + 1, #[.int .i64 s2, .slice a2 n2 c2, .int .i64 t2, .slice d2 e2 f2], 54), (w.heap.size + 2, #[.int .i64 s3, .slice a3 n3 c3, .int .i64 t3, .slice d3 e3 f3, .int .i64 s4, .slice a4 n4 c4, .int .i64 t4, .slice d4 e4 f4], 105)] _ from (hC4.out.set8 2 rfl)) (v := .agg #[.int .i64 s3, .slice a3 n3 c3, .int .i64 t3, .slice d3 e3 f3, .int .i64 s4, .slice a4 n4 c4, .int .i64 t4, .slice d4 e4 f4]) (fun hF => ?_) rfl (fun hF => ⟨_, _, _, _, _, _, _, _, _, _, _, _, _, _, _, _, rfl, ⟨hF.rq 2 rfl, hF.rq 3 rfl⟩, hF.be⟩)
  · have e0 := hF.cell 2 0 rfl rfl
    have e1 := hF.cell 2 1 rfl rfl
    have e2 := hF.cell 2 2 rfl rfl
    have e3 := hF.cell 2 3 rfl rfl
    have e4 := hF.cell 2 4 rfl rfl
    have e5 := hF.cell 2 5 rfl rfl
    have e6 := hF.cell 2 6 rfl rfl
    have e7 := hF.cell 2 7 rfl rfl
    simp [results, Tryz.results91, go_sem, e0, e1, e2, e3, e4, e5, e6, e7]

set_option maxRecDepth 100000 in
set_option maxHeartbeats 2000000 in
theorem vdotN_any (s1 : Int) (a1 : Option Addr) (n1 c1 : Nat) (t1 : Int) (d1 : Option Addr) (e1 f1 : Nat) (p1 : Int) (u1 : Option Addr) (x1 y1 : Nat) (g1 : Int) (i1 : Option Addr) (o1 l1 : Nat) (v1 : Rat × Rat) (s2 : Int) (a2 : Option Addr) (n2 c2 : Nat) (t2 : Int) (d2 : Option Addr) (e2 f2 : Nat) (p2 : Int) (u2 : Option Addr) (x2 y2 : Nat) (g2 : Int) (i2 : Option Addr) (o2 l2 : Nat) (v2 : Rat × Rat) (w : World) (h1 : Nv w s1 (.slice a1 n1 c1) t1 (.slice d1 e1 f1) p1 (.slice u1 x1 y1) g1 (.slice i1 o1 l1) v1) (h2 : Nv w s2 (.slice a2 n2 c2) t2 (.slice d2 e2 f2) p2 (.slice u2 x2 y2) g2 (.slice i2 o2 l2) v2) (k1 k2 : Nat) (b1 : Bv k1 v1) (b2 : Bv k2 v2) (hk1 : k1 ≤ 10000) (hk2 : k2 ≤ 10000) :
    Calls Tryz.prog 93 #[.agg #[.int .i64 s1, .slice a1 n1 c1, .int .i64 t1, .slice d1 e1 f1, .int .i64 p1, .slice u1 x1 y1, .int .i64 g1, .slice i1 o1 l1], .agg #[.int .i64 s2, .slice a2 n2 c2, .int .i64 t2, .slice d2 e2 f2, .int .i64 p2, .slice u2 x2 y2, .int .i64 g2, .slice i2 o2 l2]] w (RetNQ w (v1.1 * v2.1 + v1.2 * v2.2)) := by
  have B1 := Lib.hid b1
  have B2 := Lib.hid b2
  clear b1 b2
  have hC := Lib.hid ((((((St.enter w).pp h1).pp h2).al (w.heap.size) #[.int .i64 s1, .slice a1 n1 c1, .int .i64 t1, .slice d1 e1 f1, .int .i64 p1, .slice u1 x1 y1, .int .i64 g1, .slice i1 o1 l1] 105 rfl rfl).al (w.heap.size + 1) #[.int .i64 s2, .slice a2 n2 c2, .int .i64 t2, .slice d2 e2 f2, .int .i64 p2, .slice u2 x2 y2, .int .i64 g2, .slice i2 o2 l2] 105 (by simp) rfl).al (w.heap.size + 2) #[.int .i64 0, .slice none 0 0, .int .i64 0, .slice none 0 0] 54 (by simp) rfl)
  clear h1 h2
  go_enter Tryz.func93, Tryz.ntmps93
  go_wp2
  go_region_held3 (fun w' => w'.cell? ⟨w.heap.size, 0, none⟩ = some (.int .i64 s1) ∧ w'.cell? ⟨w.heap.size, 1, none⟩ = some (.slice a1 n1 c1) ∧ w'.cell? ⟨w.heap.size, 2, none⟩ = some (.int .i64 t1) ∧ w'.cell? ⟨w.heap.size, 3, none⟩ = some (.slice d1 e1 f1) ∧ w'.cell? ⟨w.heap.size, 4, none⟩ = some (.int .i64 p1) ∧ w'.cell? ⟨w.heap.size, 5, none⟩ = some (.slice u1 x1 y1) ∧ w'.cell? ⟨w.heap.size, 6, none⟩ = some (.int .i64 g1) ∧ w'.cell? ⟨w.heap.size, 7, none⟩ = some (.slice i1 o1 l1) ∧ w'.cell? ⟨w.heap.size + 1, 0, none⟩ = some (.int .i64 s2) ∧ w'.cell? ⟨w.heap.size + 1, 1, none⟩ = some (.slice a2 n2 c2) ∧ w'.cell? ⟨w.heap.size + 1, 2, none⟩ = some (.int .i64 t2) ∧ w'.cell? ⟨w.heap.size + 1, 3, none⟩ = some (.slice d2 e2 f2) ∧ w'.cell? ⟨w.heap.size + 1, 4, none⟩ = some (.int .i64 p2) ∧ w'.cell? ⟨w.heap.size + 1, 5, none⟩ = some (.slice u2 x2 y2) ∧ w'.cell? ⟨w.heap.size + 1, 6, none⟩ = some (.int .i64 g2) ∧ w'.cell? ⟨w.heap.size + 1, 7, none⟩ = some (.slice i2 o2 l2) ∧ True)
    (first
      | (with_reducible refine And.intro (?_ : World.cell? (World.setCell (World.setCell (World.setCell (World.setCell w5 _ _) _ _) _ _) _ _) _ = _) ?_; exact (hC5.out |>.set 2 rfl |>.set 2 rfl |>.set 2 rfl |>.set 2 rfl).cell 0 0 rfl rfl; exact ⟨(hC5.out |>.set 2 rfl |>.set 2 rfl |>.set 2 rfl |>.set 2 rfl).cell 0 1 rfl rfl, (hC5.out |>.set 2 rfl |>.set 2 rfl |>.set 2 rfl |>.set 2 rfl).cell 0 2 rfl rfl, (hC5.out |>.set 2 rfl |>.set 2 rfl |>.set 2 rfl |>.set 2 rfl).cell 0 3 rfl rfl, (hC5.out |>.set 2 rfl |>.set 2 rfl |>.set 2 rfl |>.set 2 rfl).cell 0 4 rfl rfl, (hC5.out |>.set 2 rfl |>.set 2 rfl |>.set 2 rfl |>.set 2 rfl).cell 0 5 rfl rfl, (hC5.out |>.set 2 rfl |>.set 2 rfl |>.set 2 rfl |>.set 2 rfl).cell 0 6 rfl rfl, (hC5.out |>.set 2 rfl |>.set 2 rfl |>.set 2 rfl |>.set 2 rfl).cell 0 7 rfl rfl, (hC5.out |>.set 2 rfl |>.set 2 rfl |>.set 2 rfl |>.set 2 rfl).cell 1 0 rfl rfl, (hC5.out |>.set 2 rfl |>.set 2 rfl |>.set 2 rfl |>.set 2 rfl).cell 1 1 rfl rfl, (hC5.out |>.set 2 rfl |>.set 2 rfl |>.set 2 rfl |>.set 2 rfl).cell 1 2 rfl rfl, (hC5.out |>.set 2 rfl |>.set 2 rfl |>.set 2 rfl |>.set 2 rfl).cell 1 3 rfl rfl, (hC5.out |>.set 2 rfl |>.set 2 rfl |>.set 2 rfl |>.set 2 rfl).cell 1 4 rfl rfl, (hC5.out |>.set 2 rfl |>.set 2 rfl |>.set 2 rfl |>.set 2 rfl).cell 1 5 rfl rfl, (hC5.out |>.set 2 rfl |>.set 2 rfl |>.set 2 rfl |>.set 2 rfl).cell 1 6 rfl rfl, (hC5.out |>.set 2 rfl |>.set 2 rfl |>.set 2 rfl |>.set 2 rfl).cell 1 7 rfl rfl, trivial⟩)
      | (with_reducible refine And.intro (?_ : World.cell? w5 _ = _) ?_; exact hC5.out.cell 0 0 rfl rfl; exact ⟨hC5.out.cell 0 1 rfl rfl, hC5.out.cell 0 2 rfl rfl, hC5.out.cell 0 3 rfl rfl, hC5.out.cell 0 4 rfl rfl, hC5.out.cell 0 5 rfl rfl, hC5.out.cell 0 6 rfl rfl, hC5.out.cell 0 7 rfl rfl, hC5.out.cell 1 0 rfl rfl, hC5.out.cell 1 1 rfl rfl, hC5.out.cell 1 2 rfl rfl, hC5.out.cell 1 3 rfl rfl, hC5.out.cell 1 4 rfl rfl, hC5.out.cell 1 5 rfl rfl, hC5.out.cell 1 6 rfl rfl, hC5.out.cell 1 7 rfl rfl, trivial⟩)
      | (with_reducible refine And.intro (?_ : World.cell? w4 _ = _) ?_; exact hC4.out.cell 0 0 rfl rfl; exact ⟨hC4.out.cell 0 1 rfl rfl, hC4.out.cell 0 2 rfl rfl, hC4.out.cell 0 3 rfl rfl, hC4.out.cell 0 4 rfl rfl, hC4.out.cell 0 5 rfl rfl, hC4.out.cell 0 6 rfl rfl, hC4.out.cell 0 7 rfl rfl, hC4.out.cell 1 0 rfl rfl, hC4.out.cell 1 1 rfl rfl, hC4.out.cell 1 2 rfl rfl, hC4.out.cell 1 3 rfl rfl, hC4.out.cell 1 4 rfl rfl, hC4.out.cell 1 5 rfl rfl, hC4.out.cell 1 6 rfl rfl, hC4.out.cell 1 7 rfl rfl, trivial⟩)
      | (with_reducible refine And.intro (?_ : World.cell? w3 _ = _) ?_; exact hC3.out.cell 0 0 rfl rfl; exact ⟨hC3.out.cell 0 1 rfl rfl, hC3.out.cell 0 2 rfl rfl, hC3.out.cell 0 3 rfl rfl, hC3.out.cell 0 4 rfl rfl, hC3.out.cell 0 5 rfl rfl, hC3.out.cell 0 6 rfl rfl, hC3.out.cell 0 7 rfl rfl, hC3.out.cell 1 0 rfl rfl, hC3.out.cell 1 1 rfl rfl, hC3.out.cell 1 2 rfl rfl, hC3.out.cell 1 3 rfl rfl, hC3.out.cell 1 4 rfl rfl, hC3.out.cell 1 5 rfl rfl, hC3.out.cell 1 6 rfl rfl, hC3.out.cell 1 7 rfl rfl, trivial⟩)
      | (with_reducible refine And.intro (?_ : World.cell? _ _ = _) ?_; exact hC.out.drew.cell 0 0 rfl rfl; exact ⟨hC.out.drew.cell 0 1 rfl rfl, hC.out.drew.cell 0 2 rfl rfl, hC.out.drew.cell 0 3 rfl rfl, hC.out.drew.cell 0 4 rfl rfl, hC.out.drew.cell 0 5 rfl rfl, hC.out.drew.cell 0 6 rfl rfl, hC.out.drew.cell 0 7 rfl rfl, hC.out.drew.cell 1 0 rfl rfl, hC.out.drew.cell 1 1 rfl rfl, hC.out.drew.cell 1 2 rfl rfl, hC.out.drew.cell 1 3 rfl rfl, hC.out.drew.cell 1 4 rfl rfl, hC.out.drew.cell 1 5 rfl rfl, hC.out.drew.cell 1 6 rfl rfl, hC.out.drew.cell 1 7 rfl rfl, trivial⟩))
    (first
      | (have _t := hC4; go_at_call 68; refine (raddN_b (hC4.out.rq 2 rfl) (hC4.out.rq 3 rfl) (B1.out.1.mul B2.out.1) (B1.out.2.mul B2.out.2) (by omega) (by omega)).mono ?_; rintro e w5 ⟨s5, a5, n5, c5, t5, d5, e5, f5, rfl, hz, hb⟩; have hC5 := Lib.hid ((hC4.out.call hb).pq hz); clear hb hz; have hC5_c20 := hC5.out.cell 2 0 rfl rfl; have hC5_f20 := hC5.out.free 2 0 rfl; have hC5_c21 := hC5.out.cell 2 1 rfl rfl; have hC5_f21 := hC5.out.free 2 1 rfl; have hC5_c22 := hC5.out.cell 2 2 rfl rfl; have hC5_f22 := hC5.out.free 2 2 rfl; have hC5_c23 := hC5.out.cell 2 3 rfl rfl; have hC5_f23 := hC5.out.free 2 3 rfl; clear _t hC4)
      | (have _t := hC3; go_at_call 72; refine (rmulN_b (hC3.out.vp 0 rfl).y (hC3.out.vp 1 rfl).y B1.out.2 B2.out.2 (by omega) (by omega)).mono ?_; rintro e w4 ⟨s4, a4, n4, c4, t4, d4, e4, f4, rfl, hz, hb⟩; have hC4 := Lib.hid ((hC3.out.call hb).pq hz); clear hb hz; clear _t hC3)
      | (have _t := hC; go_at_call 72; refine (rmulN_b (hC.out.drew.vp 0 rfl).x (hC.out.drew.vp 1 rfl).x B1.out.1 B2.out.1 (by omega) (by omega)).mono ?_; rintro e w3 ⟨s3, a3, n3, c3, t3, d3, e3, f3, rfl, hz, hb⟩; have hC3 := Lib.hid ((hC.out.drew.call hb).pq hz); clear hb hz; clear _t hC)
      | fail)
  go_wp2
  refine ret_st (hC5.out |>.set 2 rfl |>.set 2 rfl |>.set 2 rfl |>.set 2 rfl) (v := .agg #[.int .i64 s5, .slice a5 n5 c5, .int .i64 t5, .slice d5 e5 f5]) (fun hF => ?_) rfl (fun hF => ⟨_, _, _, _, _, _, _, _, rfl, hF.rq 4 rfl, hF.be⟩)
  · have e0 := hF.cell 2 0 rfl rfl
    have e1 := hF.cell 2 1 rfl rfl
    have e2 := hF.cell 2 2 rfl rfl
    have e3 := hF.cell 2 3 rfl rfl
    simp [results, Tryz.results93, go_sem, e0, e1, e2, e3]

set_option maxRecDepth 100000 in
set_option maxHeartbeats 2000000 in
theorem vcrossN_any (s1 : Int) (a1 : Option Addr) (n1 c1 : Nat) (t1 : Int) (d1 : Option Addr) (e1 f1 : Nat) (p1 : Int) (u1 : Option Addr) (x1 y1 : Nat) (g1 : Int) (i1 : Option Addr) (o1 l1 : Nat) (v1 : Rat × Rat) (s2 : Int) (a2 : Option Addr) (n2 c2 : Nat) (t2 : Int) (d2 : Option Addr) (e2 f2 : Nat) (p2 : Int) (u2 : Option Addr) (x2 y2 : Nat) (g2 : Int) (i2 : Option Addr) (o2 l2 : Nat) (v2 : Rat × Rat) (w : World) (h1 : Nv w s1 (.slice a1 n1 c1) t1 (.slice d1 e1 f1) p1 (.slice u1 x1 y1) g1 (.slice i1 o1 l1) v1) (h2 : Nv w s2 (.slice a2 n2 c2) t2 (.slice d2 e2 f2) p2 (.slice u2 x2 y2) g2 (.slice i2 o2 l2) v2) (k1 k2 : Nat) (b1 : Bv k1 v1) (b2 : Bv k2 v2) (hk1 : k1 ≤ 10000) (hk2 : k2 ≤ 10000) :
    Calls Tryz.prog 95 #[.agg #[.int .i64 s1, .slice a1 n1 c1, .int .i64 t1, .slice d1 e1 f1, .int .i64 p1, .slice u1 x1 y1, .int .i64 g1, .slice i1 o1 l1], .agg #[.int .i64 s2, .slice a2 n2 c2, .int .i64 t2, .slice d2 e2 f2, .int .i64 p2, .slice u2 x2 y2, .int .i64 g2, .slice i2 o2 l2]] w (RetNQ w (v1.1 * v2.2 - v1.2 * v2.1)) := by
  have B1 := Lib.hid b1
  have B2 := Lib.hid b2
  clear b1 b2
  have hC := Lib.hid ((((((St.enter w).pp h1).pp h2).al (w.heap.size) #[.int .i64 s1, .slice a1 n1 c1, .int .i64 t1, .slice d1 e1 f1, .int .i64 p1, .slice u1 x1 y1, .int .i64 g1, .slice i1 o1 l1] 105 rfl rfl).al (w.heap.size + 1) #[.int .i64 s2, .slice a2 n2 c2, .int .i64 t2, .slice d2 e2 f2, .int .i64 p2, .slice u2 x2 y2, .int .i64 g2, .slice i2 o2 l2] 105 (by simp) rfl).al (w.heap.size + 2) #[.int .i64 0, .slice none 0 0, .int .i64 0, .slice none 0 0] 54 (by simp) rfl)
  clear h1 h2
  go_enter Tryz.func95, Tryz.ntmps95
  go_wp2
  go_region_held3 (fun w' => w'.cell? ⟨w.heap.size, 0, none⟩ = some (.int .i64 s1) ∧ w'.cell? ⟨w.heap.size, 1, none⟩ = some (.slice a1 n1 c1) ∧ w'.cell? ⟨w.heap.size, 2, none⟩ = some (.int .i64 t1) ∧ w'.cell? ⟨w.heap.size, 3, none⟩ = some (.slice d1 e1 f1) ∧ w'.cell? ⟨w.heap.size, 4, none⟩ = some (.int .i64 p1) ∧ w'.cell? ⟨w.heap.size, 5, none⟩ = some (.slice u1 x1 y1) ∧ w'.cell? ⟨w.heap.size, 6, none⟩ = some (.int .i64 g1) ∧ w'.cell? ⟨w.heap.size, 7, none⟩ = some (.slice i1 o1 l1) ∧ w'.cell? ⟨w.heap.size + 1, 0, none⟩ = some (.int .i64 s2) ∧ w'.cell? ⟨w.heap.size + 1, 1, none⟩ = some (.slice a2 n2 c2) ∧ w'.cell? ⟨w.heap.size + 1, 2, none⟩ = some (.int .i64 t2) ∧ w'.cell? ⟨w.heap.size + 1, 3, none⟩ = some (.slice d2 e2 f2) ∧ w'.cell? ⟨w.heap.size + 1, 4, none⟩ = some (.int .i64 p2) ∧ w'.cell? ⟨w.heap.size + 1, 5, none⟩ = some (.slice u2 x2 y2) ∧ w'.cell? ⟨w.heap.size + 1, 6, none⟩ = some (.int .i64 g2) ∧ w'.cell? ⟨w.heap.size + 1, 7, none⟩ = some (.slice i2 o2 l2) ∧ True)
    (first
      | (with_reducible refine And.intro (?_ : World.cell? (World.setCell (World.setCell (World.setCell (World.setCell w5 _ _) _ _) _ _) _ _) _ = _) ?_; exact (hC5.out |>.set 2 rfl |>.set 2 rfl |>.set 2 rfl |>.set 2 rfl).cell 0 0 rfl rfl; exact ⟨(hC5.out |>.set 2 rfl |>.set 2 rfl |>.set 2 rfl |>.set 2 rfl).cell 0 1 rfl rfl, (hC5.out |>.set 2 rfl |>.set 2 rfl |>.set 2 rfl |>.set 2 rfl).cell 0 2 rfl rfl, (hC5.out |>.set 2 rfl |>.set 2 rfl |>.set 2 rfl |>.set 2 rfl).cell 0 3 rfl rfl, (hC5.out |>.set 2 rfl |>.set 2 rfl |>.set 2 rfl |>.set 2 rfl).cell 0 4 rfl rfl, (hC5.out |>.set 2 rfl |>.set 2 rfl |>.set 2 rfl |>.set 2 rfl).cell 0 5 rfl rfl, (hC5.out |>.set 2 rfl |>.set 2 rfl |>.set 2 rfl |>.set 2 rfl).cell 0 6 rfl rfl, (hC5.out |>.set 2 rfl |>.set 2 rfl |>.set 2 rfl |>.set 2 rfl).cell 0 7 rfl rfl, (hC5.out |>.set 2 rfl |>.set 2 rfl |>.set 2 rfl |>.set 2 rfl).cell 1 0 rfl rfl, (hC5.out |>.set 2 rfl |>.set 2 rfl |>.set 2 rfl |>.set 2 rfl).cell 1 1 rfl rfl, (hC5.out |>.set 2 rfl |>.set 2 rfl |>.set 2 rfl |>.set 2 rfl).cell 1 2 rfl rfl, (hC5.out |>.set 2 rfl |>.set 2 rfl |>.set 2 rfl |>.set 2 rfl).cell 1 3 rfl rfl, (hC5.out |>.set 2 rfl |>.set 2 rfl |>.set 2 rfl |>.set 2 rfl).cell 1 4 rfl rfl, (hC5.out |>.set 2 rfl |>.set 2 rfl |>.set 2 rfl |>.set 2 rfl).cell 1 5 rfl rfl, (hC5.out |>.set 2 rfl |>.set 2 rfl |>.set 2 rfl |>.set 2 rfl).cell 1 6 rfl rfl, (hC5.out |>.set 2 rfl |>.set 2 rfl |>.set 2 rfl |>.set 2 rfl).cell 1 7 rfl rfl, trivial⟩)
      | (with_reducible refine And.intro (?_ : World.cell? w5 _ = _) ?_; exact hC5.out.cell 0 0 rfl rfl; exact ⟨hC5.out.cell 0 1 rfl rfl, hC5.out.cell 0 2 rfl rfl, hC5.out.cell 0 3 rfl rfl, hC5.out.cell 0 4 rfl rfl, hC5.out.cell 0 5 rfl rfl, hC5.out.cell 0 6 rfl rfl, hC5.out.cell 0 7 rfl rfl, hC5.out.cell 1 0 rfl rfl, hC5.out.cell 1 1 rfl rfl, hC5.out.cell 1 2 rfl rfl, hC5.out.cell 1 3 rfl rfl, hC5.out.cell 1 4 rfl rfl, hC5.out.cell 1 5 rfl rfl, hC5.out.cell 1 6 rfl rfl, hC5.out.cell 1 7 rfl rfl, trivial⟩)
      | (with_reducible refine And.intro (?_ : World.cell? w4 _ = _) ?_; exact hC4.out.cell 0 0 rfl rfl; exact ⟨hC4.out.cell 0 1 rfl rfl, hC4.out.cell 0 2 rfl rfl, hC4.out.cell 0 3 rfl rfl, hC4.out.cell 0 4 rfl rfl, hC4.out.cell 0 5 rfl rfl, hC4.out.cell 0 6 rfl rfl, hC4.out.cell 0 7 rfl rfl, hC4.out.cell 1 0 rfl rfl, hC4.out.cell 1 1 rfl rfl, hC4.out.cell 1 2 rfl rfl, hC4.out.cell 1 3 rfl rfl, hC4.out.cell 1 4 rfl rfl, hC4.out.cell 1 5 rfl rfl, hC4.out.cell 1 6 rfl rfl, hC4.out.cell 1 7 rfl rfl, trivial⟩)
      | (with_reducible refine And.intro (?_ : World.cell? w3 _ = _) ?_; exact hC3.out.cell 0 0 rfl rfl; exact ⟨hC3.out.cell 0 1 rfl rfl, hC3.out.cell 0 2 rfl rfl, hC3.out.cell 0 3 rfl rfl, hC3.out.cell 0 4 rfl rfl, hC3.out.cell 0 5 rfl rfl, hC3.out.cell 0 6 rfl rfl, hC3.out.cell 0 7 rfl rfl, hC3.out.cell 1 0 rfl rfl, hC3.out.cell 1 1 rfl rfl, hC3.out.cell 1 2 rfl rfl, hC3.out.cell 1 3 rfl rfl, hC3.out.cell 1 4 rfl rfl, hC3.out.cell 1 5 rfl rfl, hC3.out.cell 1 6 rfl rfl, hC3.out.cell 1 7 rfl rfl, trivial⟩)
      | (with_reducible refine And.intro (?_ : World.cell? _ _ = _) ?_; exact hC.out.drew.cell 0 0 rfl rfl; exact ⟨hC.out.drew.cell 0 1 rfl rfl, hC.out.drew.cell 0 2 rfl rfl, hC.out.drew.cell 0 3 rfl rfl, hC.out.drew.cell 0 4 rfl rfl, hC.out.drew.cell 0 5 rfl rfl, hC.out.drew.cell 0 6 rfl rfl, hC.out.drew.cell 0 7 rfl rfl, hC.out.drew.cell 1 0 rfl rfl, hC.out.drew.cell 1 1 rfl rfl, hC.out.drew.cell 1 2 rfl rfl, hC.out.drew.cell 1 3 rfl rfl, hC.out.drew.cell 1 4 rfl rfl, hC.out.drew.cell 1 5 rfl rfl, hC.out.drew.cell 1 6 rfl rfl, hC.out.drew.cell 1 7 rfl rfl, trivial⟩))
    (first
      | (have _t := hC4; go_at_call 70; refine (rsubN_b (hC4.out.rq 2 rfl) (hC4.out.rq 3 rfl) (B1.out.1.mul B2.out.2) (B1.out.2.mul B2.out.1) (by omega) (by omega)).mono ?_; rintro e w5 ⟨s5, a5, n5, c5, t5, d5, e5, f5, rfl, hz, hb⟩; have hC5 := Lib.hid ((hC4.out.call hb).pq hz); clear hb hz; have hC5_c20 := hC5.out.cell 2 0 rfl rfl; have hC5_f20 := hC5.out.free 2 0 rfl; have hC5_c21 := hC5.out.cell 2 1 rfl rfl; have hC5_f21 := hC5.out.free 2 1 rfl; have hC5_c22 := hC5.out.cell 2 2 rfl rfl; have hC5_f22 := hC5.out.free 2 2 rfl; have hC5_c23 := hC5.out.cell 2 3 rfl rfl; have hC5_f23 := hC5.out.free 2 3 rfl; clear _t hC4)
      | (have _t := hC3; go_at_call 72; refine (rmulN_b (hC3.out.vp 0 rfl).y (hC3.out.vp 1 rfl).x B1.out.2 B2.out.1 (by omega) (by omega)).mono ?_; rintro e w4 ⟨s4, a4, n4, c4, t4, d4, e4, f4, rfl, hz, hb⟩; have hC4 := Lib.hid ((hC3.out.call hb).pq hz); clear hb hz; clear _t hC3)
      | (have _t := hC; go_at_call 72; refine (rmulN_b (hC.out.drew.vp 0 rfl).x (hC.out.drew.vp 1 rfl).y B1.out.1 B2.out.2 (by omega) (by omega)).mono ?_; rintro e w3 ⟨s3, a3, n3, c3, t3, d3, e3, f3, rfl, hz, hb⟩; have hC3 := Lib.hid ((hC.out.drew.call hb).pq hz); clear hb hz; clear _t hC)
      | fail)
  go_wp2
  refine ret_st (hC5.out |>.set 2 rfl |>.set 2 rfl |>.set 2 rfl |>.set 2 rfl) (v := .agg #[.int .i64 s5, .slice a5 n5 c5, .int .i64 t5, .slice d5 e5 f5]) (fun hF => ?_) rfl (fun hF => ⟨_, _, _, _, _, _, _, _, rfl, hF.rq 4 rfl, hF.be⟩)
  · have e0 := hF.cell 2 0 rfl rfl
    have e1 := hF.cell 2 1 rfl rfl
    have e2 := hF.cell 2 2 rfl rfl
    have e3 := hF.cell 2 3 rfl rfl
    simp [results, Tryz.results95, go_sem, e0, e1, e2, e3]

set_option maxRecDepth 100000 in
set_option maxHeartbeats 1000000 in
theorem vsameN_no (s1 : Int) (a1 : Option Addr) (n1 c1 : Nat) (t1 : Int) (d1 : Option Addr) (e1 f1 : Nat) (p1 : Int) (u1 : Option Addr) (x1 y1 : Nat) (g1 : Int) (i1 : Option Addr) (o1 l1 : Nat) (v1 : Rat × Rat) (s2 : Int) (a2 : Option Addr) (n2 c2 : Nat) (t2 : Int) (d2 : Option Addr) (e2 f2 : Nat) (p2 : Int) (u2 : Option Addr) (x2 y2 : Nat) (g2 : Int) (i2 : Option Addr) (o2 l2 : Nat) (v2 : Rat × Rat) (w : World) (h1 : Nv w s1 (.slice a1 n1 c1) t1 (.slice d1 e1 f1) p1 (.slice u1 x1 y1) g1 (.slice i1 o1 l1) v1) (h2 : Nv w s2 (.slice a2 n2 c2) t2 (.slice d2 e2 f2) p2 (.slice u2 x2 y2) g2 (.slice i2 o2 l2) v2) (k1 k2 : Nat) (b1 : Bv k1 v1) (b2 : Bv k2 v2) (hk1 : k1 ≤ 10000) (hk2 : k2 ≤ 10000) (c : Int) (hc : cmpQ v1.1 v2.1 = c) (hi : (c == 0) = false) :
    Calls Tryz.prog 97 #[.agg #[.int .i64 s1, .slice a1 n1 c1, .int .i64 t1, .slice d1 e1 f1, .int .i64 p1, .slice u1 x1 y1, .int .i64 g1, .slice i1 o1 l1], .agg #[.int .i64 s2, .slice a2 n2 c2, .int .i64 t2, .slice d2 e2 f2, .int .i64 p2, .slice u2 x2 y2, .int .i64 g2, .slice i2 o2 l2]] w (fun e w' => e = .returned (.bool false) ∧ Below w.heap.size w w') := by
  have E1 := Lib.hid hc
  clear hc
  have B1 := Lib.hid b1
  have B2 := Lib.hid b2
  clear b1 b2
  have hC := Lib.hid (((((St.enter w).pp h1).pp h2).al (w.heap.size) #[.int .i64 s1, .slice a1 n1 c1, .int .i64 t1, .slice d1 e1 f1, .int .i64 p1, .slice u1 x1 y1, .int .i64 g1, .slice i1 o1 l1] 105 rfl rfl).al (w.heap.size + 1) #[.int .i64 s2, .slice a2 n2 c2, .int .i64 t2, .slice d2 e2 f2, .int .i64 p2, .slice u2 x2 y2, .int .i64 g2, .slice i2 o2 l2] 105 (by simp) rfl)
  clear h1 h2
  go_enter Tryz.func97, Tryz.ntmps97
  have hC_c00 := hC.out.cell 0 0 rfl rfl
  have hC_f00 := hC.out.free 0 0 rfl
  have hC_c01 := hC.out.cell 0 1 rfl rfl
  have hC_f01 := hC.out.free 0 1 rfl
  have hC_c02 := hC.out.cell 0 2 rfl rfl
  have hC_f02 := hC.out.free 0 2 rfl
  have hC_c03 := hC.out.cell 0 3 rfl rfl
  have hC_f03 := hC.out.free 0 3 rfl
  have hC_c10 := hC.out.cell 1 0 rfl rfl
  have hC_f10 := hC.out.free 1 0 rfl
  have hC_c11 := hC.out.cell 1 1 rfl rfl
  have hC_f11 := hC.out.free 1 1 rfl
  have hC_c12 := hC.out.cell 1 2 rfl rfl
  have hC_f12 := hC.out.free 1 2 rfl
  have hC_c13 := hC.out.cell 1 3 rfl rfl
  have hC_f13 := hC.out.free 1 3 rfl
  go_wp2_with fail
  refine (rcmpN_is (hC.out.vp 0 rfl).x (hC.out.vp 1 rfl).x B1.out.1 B2.out.1 (by omega) (by omega) E1.out).mono ?_
  rintro e w3 ⟨rfl, hb⟩
  have hC3 := Lib.hid (hC.out.call hb)
  clear hb hC
  go_wp2
  go_ret
  exact ⟨rfl, hC3.out.be⟩

set_option maxRecDepth 100000 in
set_option maxHeartbeats 1000000 in
theorem vsameN_yes (s1 : Int) (a1 : Option Addr) (n1 c1 : Nat) (t1 : Int) (d1 : Option Addr) (e1 f1 : Nat) (p1 : Int) (u1 : Option Addr) (x1 y1 : Nat) (g1 : Int) (i1 : Option Addr) (o1 l1 : Nat) (v1 : Rat × Rat) (s2 : Int) (a2 : Option Addr) (n2 c2 : Nat) (t2 : Int) (d2 : Option Addr) (e2 f2 : Nat) (p2 : Int) (u2 : Option Addr) (x2 y2 : Nat) (g2 : Int) (i2 : Option Addr) (o2 l2 : Nat) (v2 : Rat × Rat) (w : World) (h1 : Nv w s1 (.slice a1 n1 c1) t1 (.slice d1 e1 f1) p1 (.slice u1 x1 y1) g1 (.slice i1 o1 l1) v1) (h2 : Nv w s2 (.slice a2 n2 c2) t2 (.slice d2 e2 f2) p2 (.slice u2 x2 y2) g2 (.slice i2 o2 l2) v2) (k1 k2 : Nat) (b1 : Bv k1 v1) (b2 : Bv k2 v2) (hk1 : k1 ≤ 10000) (hk2 : k2 ≤ 10000) (hc : cmpQ v1.1 v2.1 = 0) (c : Int) (hd : cmpQ v1.2 v2.2 = c) :
    Calls Tryz.prog 97 #[.agg #[.int .i64 s1, .slice a1 n1 c1, .int .i64 t1, .slice d1 e1 f1, .int .i64 p1, .slice u1 x1 y1, .int .i64 g1, .slice i1 o1 l1], .agg #[.int .i64 s2, .slice a2 n2 c2, .int .i64 t2, .slice d2 e2 f2, .int .i64 p2, .slice u2 x2 y2, .int .i64 g2, .slice i2 o2 l2]] w (fun e w' => e = .returned (.bool (c == 0)) ∧ Below w.heap.size w w') := by
  have E1 := Lib.hid hc
  clear hc
  have E2 := Lib.hid hd
  clear hd
  have B1 := Lib.hid b1
  have B2 := Lib.hid b2
  clear b1 b2
  have hC := Lib.hid (((((St.enter w).pp h1).pp h2).al (w.heap.size) #[.int .i64 s1, .slice a1 n1 c1, .int .i64 t1, .slice d1 e1 f1, .int .i64 p1, .slice u1 x1 y1, .int .i64 g1, .slice i1 o1 l1] 105 rfl rfl).al (w.heap.size + 1) #[.int .i64 s2, .slice a2 n2 c2, .int .i64 t2, .slice d2 e2 f2, .int .i64 p2, .slice u2 x2 y2, .int .i64 g2, .slice i2 o2 l2] 105 (by simp) rfl)
  clear h1 h2
  go_enter Tryz.func97, Tryz.ntmps97
  have hC_c00 := hC.out.cell 0 0 rfl rfl
  have hC_f00 := hC.out.free 0 0 rfl
  have hC_c01 := hC.out.cell 0 1 rfl rfl
  have hC_f01 := hC.out.free 0 1 rfl
  have hC_c02 := hC.out.cell 0 2 rfl rfl
  have hC_f02 := hC.out.free 0 2 rfl
  have hC_c03 := hC.out.cell 0 3 rfl rfl
  have hC_f03 := hC.out.free 0 3 rfl
  have hC_c10 := hC.out.cell 1 0 rfl rfl
  have hC_f10 := hC.out.free 1 0 rfl
  have hC_c11 := hC.out.cell 1 1 rfl rfl
  have hC_f11 := hC.out.free 1 1 rfl
  have hC_c12 := hC.out.cell 1 2 rfl rfl
  have hC_f12 := hC.out.free 1 2 rfl
  have hC_c13 := hC.out.cell 1 3 rfl rfl
  have hC_f13 := hC.out.free 1 3 rfl
  go_wp2_with fail
  refine (rcmpN_is (hC.out.vp 0 rfl).x (hC.out.vp 1 rfl).x B1.out.1 B2.out.1 (by omega) (by omega) E1.out).mono ?_
  rintro e w3 ⟨rfl, hb⟩
  have hC3 := Lib.hid (hC.out.call hb)
  clear hb hC
  have hC3_c04 := hC3.out.cell 0 4 rfl rfl
  have hC3_f04 := hC3.out.free 0 4 rfl
  have hC3_c05 := hC3.out.cell 0 5 rfl rfl
  have hC3_f05 := hC3.out.free 0 5 rfl
  have hC3_c06 := hC3.out.cell 0 6 rfl rfl
  have hC3_f06 := hC3.out.free 0 6 rfl
  have hC3_c07 := hC3.out.cell 0 7 rfl rfl
  have hC3_f07 := hC3.out.free 0 7 rfl
  have hC3_c14 := hC3.out.cell 1 4 rfl rfl
  have hC3_f14 := hC3.out.free 1 4 rfl
  have hC3_c15 := hC3.out.cell 1 5 rfl rfl
  have hC3_f15 := hC3.out.free 1 5 rfl
  have hC3_c16 := hC3.out.cell 1 6 rfl rfl
  have hC3_f16 := hC3.out.free 1 6 rfl
  have hC3_c17 := hC3.out.cell 1 7 rfl rfl
  have hC3_f17 := hC3.out.free 1 7 rfl
  go_wp2_with fail
  refine (rcmpN_is (hC3.out.vp 0 rfl).y (hC3.out.vp 1 rfl).y B1.out.2 B2.out.2 (by omega) (by omega) E2.out).mono ?_
  rintro e w4 ⟨rfl, hb⟩
  have hC4 := Lib.hid (hC3.out.call hb)
  clear hb hC3
  go_wp2
  go_ret
  exact ⟨rfl, hC4.out.be⟩

set_option maxRecDepth 100000 in
set_option maxHeartbeats 1000000 in
theorem vtextN_any (s1 : Int) (a1 : Option Addr) (n1 c1 : Nat) (t1 : Int) (d1 : Option Addr) (e1 f1 : Nat) (p1 : Int) (u1 : Option Addr) (x1 y1 : Nat) (g1 : Int) (i1 : Option Addr) (o1 l1 : Nat) (v1 : Rat × Rat) (w : World) (h1 : Nv w s1 (.slice a1 n1 c1) t1 (.slice d1 e1 f1) p1 (.slice u1 x1 y1) g1 (.slice i1 o1 l1) v1) (k1 : Nat) (b1 : Bv k1 v1) (hk1 : k1 ≤ 10000) :
    Calls Tryz.prog 99 #[.agg #[.int .i64 s1, .slice a1 n1 c1, .int .i64 t1, .slice d1 e1 f1, .int .i64 p1, .slice u1 x1 y1, .int .i64 g1, .slice i1 o1 l1]] w (fun e w' => e = .returned (.string ⟨(vtext v1).toArray⟩) ∧ Below w.heap.size w w') := by
  have hl1 := rtext_len b1.1 (by omega)
  have hl2 := rtext_len b1.2 (by omega)
  obtain ⟨T1, hT1⟩ : ∃ T : ByteArray, T = ⟨(rtext v1.1).toArray⟩ := ⟨_, rfl⟩
  obtain ⟨T2, hT2⟩ : ∃ T : ByteArray, T = ⟨(rtext v1.2).toArray⟩ := ⟨_, rfl⟩
  have hs1 : T1.size ≤ 3000000 := by rw [hT1]; show (rtext v1.1).toArray.size ≤ _; simpa using hl1
  have hs2 : T2.size ≤ 3000000 := by rw [hT2]; show (rtext v1.2).toArray.size ≤ _; simpa using hl2
  have hb1 : ¬ 9223372036854775807 < 1 + T1.size := by omega
  have hb2 : ¬ 9223372036854775807 < 1 + T1.size + 2 := by omega
  have hb3 : ¬ 9223372036854775807 < 1 + T1.size + 2 + T2.size := by omega
  have hb4 : ¬ 9223372036854775807 < 1 + T1.size + 2 + T2.size + 1 := by omega
  have HT1 := Lib.hid (show rtext v1.1 = T1.data.toList from by rw [hT1])
  have HT2 := Lib.hid (show rtext v1.2 = T2.data.toList from by rw [hT2])
  have HE1 := Lib.hid hT1
  have HE2 := Lib.hid hT2
  clear hT1 hT2 hl1 hl2
  have B1 := Lib.hid b1
  clear b1
  have hC := Lib.hid (((St.enter w).pp h1).al (w.heap.size) #[.int .i64 s1, .slice a1 n1 c1, .int .i64 t1, .slice d1 e1 f1, .int .i64 p1, .slice u1 x1 y1, .int .i64 g1, .slice i1 o1 l1] 105 rfl rfl)
  clear h1
  go_enter Tryz.func99, Tryz.ntmps99
  go_wp2
  go_region_held3 (fun w' => w'.cell? ⟨w.heap.size, 0, none⟩ = some (.int .i64 s1) ∧ w'.cell? ⟨w.heap.size, 1, none⟩ = some (.slice a1 n1 c1) ∧ w'.cell? ⟨w.heap.size, 2, none⟩ = some (.int .i64 t1) ∧ w'.cell? ⟨w.heap.size, 3, none⟩ = some (.slice d1 e1 f1) ∧ w'.cell? ⟨w.heap.size, 4, none⟩ = some (.int .i64 p1) ∧ w'.cell? ⟨w.heap.size, 5, none⟩ = some (.slice u1 x1 y1) ∧ w'.cell? ⟨w.heap.size, 6, none⟩ = some (.int .i64 g1) ∧ w'.cell? ⟨w.heap.size, 7, none⟩ = some (.slice i1 o1 l1) ∧ True)
    (first
      | (with_reducible refine And.intro (?_ : World.cell? w5 _ = _) ?_; exact hC5.out.cell 0 0 rfl rfl; exact ⟨hC5.out.cell 0 1 rfl rfl, hC5.out.cell 0 2 rfl rfl, hC5.out.cell 0 3 rfl rfl, hC5.out.cell 0 4 rfl rfl, hC5.out.cell 0 5 rfl rfl, hC5.out.cell 0 6 rfl rfl, hC5.out.cell 0 7 rfl rfl, trivial⟩)
      | (with_reducible refine And.intro (?_ : World.cell? w4 _ = _) ?_; exact hC4.out.cell 0 0 rfl rfl; exact ⟨hC4.out.cell 0 1 rfl rfl, hC4.out.cell 0 2 rfl rfl, hC4.out.cell 0 3 rfl rfl, hC4.out.cell 0 4 rfl rfl, hC4.out.cell 0 5 rfl rfl, hC4.out.cell 0 6 rfl rfl, hC4.out.cell 0 7 rfl rfl, trivial⟩)
      | (with_reducible refine And.intro (?_ : World.cell? _ _ = _) ?_; exact hC.out.drew.cell 0 0 rfl rfl; exact ⟨hC.out.drew.cell 0 1 rfl rfl, hC.out.drew.cell 0 2 rfl rfl, hC.out.drew.cell 0 3 rfl rfl, hC.out.drew.cell 0 4 rfl rfl, hC.out.drew.cell 0 5 rfl rfl, hC.out.drew.cell 0 6 rfl rfl, hC.out.drew.cell 0 7 rfl rfl, trivial⟩))
    (first
      | (have _t := hC4; go_at_call 115; refine (rtextN_is (hC4.out.vp 0 rfl).y B1.out.2 (by omega) HT2.out).mono ?_; rintro e w5 ⟨rfl, hb⟩; have hC5 := Lib.hid ((hC4.out.call hb)); clear hb; clear _t hC4)
      | (have _t := hC; go_at_call 115; refine (rtextN_is (hC.out.drew.vp 0 rfl).x B1.out.1 (by omega) HT1.out).mono ?_; rintro e w4 ⟨rfl, hb⟩; have hC4 := Lib.hid ((hC.out.drew.call hb)); clear hb; clear _t hC)
      | fail)
  go_wp2
  go_ret
  exact ⟨by unfold vtext; rw [← ba_append, ← ba_append, ← ba_append, ← ba_append, ← HE1.out, ← HE2.out]; rfl, hC5.out.be⟩

end Go.Proofs.YtmfplelodnoicaaGreatDoor

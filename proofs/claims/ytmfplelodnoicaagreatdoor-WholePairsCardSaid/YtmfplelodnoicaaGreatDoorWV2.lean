/- pairs: both, Add, Sub, Scale, Same, Text -/
import Derived.Test.YtmfplelodnoicaaGreatDoorWL
namespace Go.Proofs.YtmfplelodnoicaaGreatDoor
open Go.RowKit Dig

set_option maxRecDepth 100000 in
set_option maxHeartbeats 1000000 in
theorem both_add (a1 : Option Addr) (n1 c1 : Nat) (m1 : Bool) (d1 : Option Addr) (e1 f1 : Nat) (u1 : Option Addr) (x1 y1 : Nat) (p1 : Bool) (t1 : Option Addr) (o1 l1 : Nat) (v1 : Rat × Rat) (a2 : Option Addr) (n2 c2 : Nat) (m2 : Bool) (d2 : Option Addr) (e2 f2 : Nat) (u2 : Option Addr) (x2 y2 : Nat) (p2 : Bool) (t2 : Option Addr) (o2 l2 : Nat) (v2 : Rat × Rat) (w : World) (h1 : Vd w (.slice a1 n1 c1) m1 (.slice d1 e1 f1) (.slice u1 x1 y1) p1 (.slice t1 o1 l1) v1) (h2 : Vd w (.slice a2 n2 c2) m2 (.slice d2 e2 f2) (.slice u2 x2 y2) p2 (.slice t2 o2 l2) v2) (k1 k2 : Nat) (b1 : Bv k1 v1) (b2 : Bv k2 v2) (hk1 : k1 ≤ 10000) (hk2 : k2 ≤ 10000) :
    Calls Tryz.prog 126 #[.func (Fn.func 67) #[] #[], .agg #[.slice a1 n1 c1, .bool m1, .slice d1 e1 f1, .slice u1 x1 y1, .bool p1, .slice t1 o1 l1], .agg #[.slice a2 n2 c2, .bool m2, .slice d2 e2 f2, .slice u2 x2 y2, .bool p2, .slice t2 o2 l2]] w (RetV w (v1.1 + v2.1, v1.2 + v2.2)) := by
  have B1 := Lib.hid b1
  have B2 := Lib.hid b2
  clear b1 b2
  have hC := Lib.hid ((((((St.enter w).pv h1).pv h2).al (w.heap.size) #[.slice a1 n1 c1, .bool m1, .slice d1 e1 f1, .slice u1 x1 y1, .bool p1, .slice t1 o1 l1] 103 rfl rfl).al (w.heap.size + 1) #[.slice a2 n2 c2, .bool m2, .slice d2 e2 f2, .slice u2 x2 y2, .bool p2, .slice t2 o2 l2] 103 (by simp) rfl).al (w.heap.size + 2) #[.slice none 0 0, .bool false, .slice none 0 0, .slice none 0 0, .bool false, .slice none 0 0] 103 (by simp) rfl)
  clear h1 h2
  go_enter Tryz.func126, Tryz.ntmps126
  go_wp2
  go_region_held3 (fun w' => w'.cell? ⟨w.heap.size, 0, none⟩ = some (.slice a1 n1 c1) ∧ w'.cell? ⟨w.heap.size, 1, none⟩ = some (.bool m1) ∧ w'.cell? ⟨w.heap.size, 2, none⟩ = some (.slice d1 e1 f1) ∧ w'.cell? ⟨w.heap.size, 3, none⟩ = some (.slice u1 x1 y1) ∧ w'.cell? ⟨w.heap.size, 4, none⟩ = some (.bool p1) ∧ w'.cell? ⟨w.heap.size, 5, none⟩ = some (.slice t1 o1 l1) ∧ w'.cell? ⟨w.heap.size + 1, 0, none⟩ = some (.slice a2 n2 c2) ∧ w'.cell? ⟨w.heap.size + 1, 1, none⟩ = some (.bool m2) ∧ w'.cell? ⟨w.heap.size + 1, 2, none⟩ = some (.slice d2 e2 f2) ∧ w'.cell? ⟨w.heap.size + 1, 3, none⟩ = some (.slice u2 x2 y2) ∧ w'.cell? ⟨w.heap.size + 1, 4, none⟩ = some (.bool p2) ∧ w'.cell? ⟨w.heap.size + 1, 5, none⟩ = some (.slice t2 o2 l2) ∧ True)
    (first
      | (with_reducible refine And.intro (?_ : World.cell? (World.setCell (World.setCell (World.setCell (World.setCell (World.setCell (World.setCell w4 _ _) _ _) _ _) _ _) _ _) _ _) _ = _) ?_; exact (hC4.out |>.set 2 rfl |>.set 2 rfl |>.set 2 rfl |>.set 2 rfl |>.set 2 rfl |>.set 2 rfl).cell 0 0 rfl rfl; exact ⟨(hC4.out |>.set 2 rfl |>.set 2 rfl |>.set 2 rfl |>.set 2 rfl |>.set 2 rfl |>.set 2 rfl).cell 0 1 rfl rfl, (hC4.out |>.set 2 rfl |>.set 2 rfl |>.set 2 rfl |>.set 2 rfl |>.set 2 rfl |>.set 2 rfl).cell 0 2 rfl rfl, (hC4.out |>.set 2 rfl |>.set 2 rfl |>.set 2 rfl |>.set 2 rfl |>.set 2 rfl |>.set 2 rfl).cell 0 3 rfl rfl, (hC4.out |>.set 2 rfl |>.set 2 rfl |>.set 2 rfl |>.set 2 rfl |>.set 2 rfl |>.set 2 rfl).cell 0 4 rfl rfl, (hC4.out |>.set 2 rfl |>.set 2 rfl |>.set 2 rfl |>.set 2 rfl |>.set 2 rfl |>.set 2 rfl).cell 0 5 rfl rfl, (hC4.out |>.set 2 rfl |>.set 2 rfl |>.set 2 rfl |>.set 2 rfl |>.set 2 rfl |>.set 2 rfl).cell 1 0 rfl rfl, (hC4.out |>.set 2 rfl |>.set 2 rfl |>.set 2 rfl |>.set 2 rfl |>.set 2 rfl |>.set 2 rfl).cell 1 1 rfl rfl, (hC4.out |>.set 2 rfl |>.set 2 rfl |>.set 2 rfl |>.set 2 rfl |>.set 2 rfl |>.set 2 rfl).cell 1 2 rfl rfl, (hC4.out |>.set 2 rfl |>.set 2 rfl |>.set 2 rfl |>.set 2 rfl |>.set 2 rfl |>.set 2 rfl).cell 1 3 rfl rfl, (hC4.out |>.set 2 rfl |>.set 2 rfl |>.set 2 rfl |>.set 2 rfl |>.set 2 rfl |>.set 2 rfl).cell 1 4 rfl rfl, (hC4.out |>.set 2 rfl |>.set 2 rfl |>.set 2 rfl |>.set 2 rfl |>.set 2 rfl |>.set 2 rfl).cell 1 5 rfl rfl, trivial⟩)
      | (with_reducible refine And.intro (?_ : World.cell? w4 _ = _) ?_; exact hC4.out.cell 0 0 rfl rfl; exact ⟨hC4.out.cell 0 1 rfl rfl, hC4.out.cell 0 2 rfl rfl, hC4.out.cell 0 3 rfl rfl, hC4.out.cell 0 4 rfl rfl, hC4.out.cell 0 5 rfl rfl, hC4.out.cell 1 0 rfl rfl, hC4.out.cell 1 1 rfl rfl, hC4.out.cell 1 2 rfl rfl, hC4.out.cell 1 3 rfl rfl, hC4.out.cell 1 4 rfl rfl, hC4.out.cell 1 5 rfl rfl, trivial⟩)
      | (with_reducible refine And.intro (?_ : World.cell? w3 _ = _) ?_; exact hC3.out.cell 0 0 rfl rfl; exact ⟨hC3.out.cell 0 1 rfl rfl, hC3.out.cell 0 2 rfl rfl, hC3.out.cell 0 3 rfl rfl, hC3.out.cell 0 4 rfl rfl, hC3.out.cell 0 5 rfl rfl, hC3.out.cell 1 0 rfl rfl, hC3.out.cell 1 1 rfl rfl, hC3.out.cell 1 2 rfl rfl, hC3.out.cell 1 3 rfl rfl, hC3.out.cell 1 4 rfl rfl, hC3.out.cell 1 5 rfl rfl, trivial⟩)
      | (with_reducible refine And.intro (?_ : World.cell? _ _ = _) ?_; exact hC.out.drew.cell 0 0 rfl rfl; exact ⟨hC.out.drew.cell 0 1 rfl rfl, hC.out.drew.cell 0 2 rfl rfl, hC.out.drew.cell 0 3 rfl rfl, hC.out.drew.cell 0 4 rfl rfl, hC.out.drew.cell 0 5 rfl rfl, hC.out.drew.cell 1 0 rfl rfl, hC.out.drew.cell 1 1 rfl rfl, hC.out.drew.cell 1 2 rfl rfl, hC.out.drew.cell 1 3 rfl rfl, hC.out.drew.cell 1 4 rfl rfl, hC.out.drew.cell 1 5 rfl rfl, trivial⟩))
    (first
      | (have _t := hC3; go_at_call 67; refine (radd_b (hC3.out.v 0 rfl).y (hC3.out.v 1 rfl).y B1.out.2 B2.out.2 (by omega) (by omega)).mono ?_; rintro e w4 ⟨a4, n4, c4, m4, d4, e4, f4, rfl, hz, hb⟩; have hC4 := Lib.hid ((hC3.out.call hb).pr hz); clear hb hz; have hC4_c20 := hC4.out.cell 2 0 rfl rfl; have hC4_f20 := hC4.out.free 2 0 rfl; have hC4_c21 := hC4.out.cell 2 1 rfl rfl; have hC4_f21 := hC4.out.free 2 1 rfl; have hC4_c22 := hC4.out.cell 2 2 rfl rfl; have hC4_f22 := hC4.out.free 2 2 rfl; have hC4_c23 := hC4.out.cell 2 3 rfl rfl; have hC4_f23 := hC4.out.free 2 3 rfl; have hC4_c24 := hC4.out.cell 2 4 rfl rfl; have hC4_f24 := hC4.out.free 2 4 rfl; have hC4_c25 := hC4.out.cell 2 5 rfl rfl; have hC4_f25 := hC4.out.free 2 5 rfl; clear _t hC3)
      | (have _t := hC; go_at_call 67; refine (radd_b (hC.out.drew.v 0 rfl).x (hC.out.drew.v 1 rfl).x B1.out.1 B2.out.1 (by omega) (by omega)).mono ?_; rintro e w3 ⟨a3, n3, c3, m3, d3, e3, f3, rfl, hz, hb⟩; have hC3 := Lib.hid ((hC.out.drew.call hb).pr hz); clear hb hz; clear _t hC)
      | fail)
  go_wp2
  refine ret_st (hC4.out |>.set 2 rfl |>.set 2 rfl |>.set 2 rfl |>.set 2 rfl |>.set 2 rfl |>.set 2 rfl) (v := .agg #[.slice a3 n3 c3, .bool m3, .slice d3 e3 f3, .slice a4 n4 c4, .bool m4, .slice d4 e4 f4]) (fun hF => ?_) rfl (fun hF => ⟨_, _, _, _, _, _, _, _, _, _, _, _, _, _, rfl, ⟨hF.r 2 rfl, hF.r 3 rfl⟩, hF.be⟩)
  · have e0 := hF.cell 2 0 rfl rfl
    have e1 := hF.cell 2 1 rfl rfl
    have e2 := hF.cell 2 2 rfl rfl
    have e3 := hF.cell 2 3 rfl rfl
    have e4 := hF.cell 2 4 rfl rfl
    have e5 := hF.cell 2 5 rfl rfl
    simp [results, Tryz.results126, go_sem, e0, e1, e2, e3, e4, e5]

set_option maxRecDepth 100000 in
set_option maxHeartbeats 1000000 in
theorem both_sub (a1 : Option Addr) (n1 c1 : Nat) (m1 : Bool) (d1 : Option Addr) (e1 f1 : Nat) (u1 : Option Addr) (x1 y1 : Nat) (p1 : Bool) (t1 : Option Addr) (o1 l1 : Nat) (v1 : Rat × Rat) (a2 : Option Addr) (n2 c2 : Nat) (m2 : Bool) (d2 : Option Addr) (e2 f2 : Nat) (u2 : Option Addr) (x2 y2 : Nat) (p2 : Bool) (t2 : Option Addr) (o2 l2 : Nat) (v2 : Rat × Rat) (w : World) (h1 : Vd w (.slice a1 n1 c1) m1 (.slice d1 e1 f1) (.slice u1 x1 y1) p1 (.slice t1 o1 l1) v1) (h2 : Vd w (.slice a2 n2 c2) m2 (.slice d2 e2 f2) (.slice u2 x2 y2) p2 (.slice t2 o2 l2) v2) (k1 k2 : Nat) (b1 : Bv k1 v1) (b2 : Bv k2 v2) (hk1 : k1 ≤ 10000) (hk2 : k2 ≤ 10000) :
    Calls Tryz.prog 126 #[.func (Fn.func 69) #[] #[], .agg #[.slice a1 n1 c1, .bool m1, .slice d1 e1 f1, .slice u1 x1 y1, .bool p1, .slice t1 o1 l1], .agg #[.slice a2 n2 c2, .bool m2, .slice d2 e2 f2, .slice u2 x2 y2, .bool p2, .slice t2 o2 l2]] w (RetV w (v1.1 - v2.1, v1.2 - v2.2)) := by
  have B1 := Lib.hid b1
  have B2 := Lib.hid b2
  clear b1 b2
  have hC := Lib.hid ((((((St.enter w).pv h1).pv h2).al (w.heap.size) #[.slice a1 n1 c1, .bool m1, .slice d1 e1 f1, .slice u1 x1 y1, .bool p1, .slice t1 o1 l1] 103 rfl rfl).al (w.heap.size + 1) #[.slice a2 n2 c2, .bool m2, .slice d2 e2 f2, .slice u2 x2 y2, .bool p2, .slice t2 o2 l2] 103 (by simp) rfl).al (w.heap.size + 2) #[.slice none 0 0, .bool false, .slice none 0 0, .slice none 0 0, .bool false, .slice none 0 0] 103 (by simp) rfl)
  clear h1 h2
  go_enter Tryz.func126, Tryz.ntmps126
  go_wp2
  go_region_held3 (fun w' => w'.cell? ⟨w.heap.size, 0, none⟩ = some (.slice a1 n1 c1) ∧ w'.cell? ⟨w.heap.size, 1, none⟩ = some (.bool m1) ∧ w'.cell? ⟨w.heap.size, 2, none⟩ = some (.slice d1 e1 f1) ∧ w'.cell? ⟨w.heap.size, 3, none⟩ = some (.slice u1 x1 y1) ∧ w'.cell? ⟨w.heap.size, 4, none⟩ = some (.bool p1) ∧ w'.cell? ⟨w.heap.size, 5, none⟩ = some (.slice t1 o1 l1) ∧ w'.cell? ⟨w.heap.size + 1, 0, none⟩ = some (.slice a2 n2 c2) ∧ w'.cell? ⟨w.heap.size + 1, 1, none⟩ = some (.bool m2) ∧ w'.cell? ⟨w.heap.size + 1, 2, none⟩ = some (.slice d2 e2 f2) ∧ w'.cell? ⟨w.heap.size + 1, 3, none⟩ = some (.slice u2 x2 y2) ∧ w'.cell? ⟨w.heap.size + 1, 4, none⟩ = some (.bool p2) ∧ w'.cell? ⟨w.heap.size + 1, 5, none⟩ = some (.slice t2 o2 l2) ∧ True)
    (first
      | (with_reducible refine And.intro (?_ : World.cell? (World.setCell (World.setCell (World.setCell (World.setCell (World.setCell (World.setCell w4 _ _) _ _) _ _) _ _) _ _) _ _) _ = _) ?_; exact (hC4.out |>.set 2 rfl |>.set 2 rfl |>.set 2 rfl |>.set 2 rfl |>.set 2 rfl |>.set 2 rfl).cell 0 0 rfl rfl; exact ⟨(hC4.out |>.set 2 rfl |>.set 2 rfl |>.set 2 rfl |>.set 2 rfl |>.set 2 rfl |>.set 2 rfl).cell 0 1 rfl rfl, (hC4.out |>.set 2 rfl |>.set 2 rfl |>.set 2 rfl |>.set 2 rfl |>.set 2 rfl |>.set 2 rfl).cell 0 2 rfl rfl, (hC4.out |>.set 2 rfl |>.set 2 rfl |>.set 2 rfl |>.set 2 rfl |>.set 2 rfl |>.set 2 rfl).cell 0 3 rfl rfl, (hC4.out |>.set 2 rfl |>.set 2 rfl |>.set 2 rfl |>.set 2 rfl |>.set 2 rfl |>.set 2 rfl).cell 0 4 rfl rfl, (hC4.out |>.set 2 rfl |>.set 2 rfl |>.set 2 rfl |>.set 2 rfl |>.set 2 rfl |>.set 2 rfl).cell 0 5 rfl rfl, (hC4.out |>.set 2 rfl |>.set 2 rfl |>.set 2 rfl |>.set 2 rfl |>.set 2 rfl |>.set 2 rfl).cell 1 0 rfl rfl, (hC4.out |>.set 2 rfl |>.set 2 rfl |>.set 2 rfl |>.set 2 rfl |>.set 2 rfl |>.set 2 rfl).cell 1 1 rfl rfl, (hC4.out |>.set 2 rfl |>.set 2 rfl |>.set 2 rfl |>.set 2 rfl |>.set 2 rfl |>.set 2 rfl).cell 1 2 rfl rfl, (hC4.out |>.set 2 rfl |>.set 2 rfl |>.set 2 rfl |>.set 2 rfl |>.set 2 rfl |>.set 2 rfl).cell 1 3 rfl rfl, (hC4.out |>.set 2 rfl |>.set 2 rfl |>.set 2 rfl |>.set 2 rfl |>.set 2 rfl |>.set 2 rfl).cell 1 4 rfl rfl, (hC4.out |>.set 2 rfl |>.set 2 rfl |>.set 2 rfl |>.set 2 rfl |>.set 2 rfl |>.set 2 rfl).cell 1 5 rfl rfl, trivial⟩)
      | (with_reducible refine And.intro (?_ : World.cell? w4 _ = _) ?_; exact hC4.out.cell 0 0 rfl rfl; exact ⟨hC4.out.cell 0 1 rfl rfl, hC4.out.cell 0 2 rfl rfl, hC4.out.cell 0 3 rfl rfl, hC4.out.cell 0 4 rfl rfl, hC4.out.cell 0 5 rfl rfl, hC4.out.cell 1 0 rfl rfl, hC4.out.cell 1 1 rfl rfl, hC4.out.cell 1 2 rfl rfl, hC4.out.cell 1 3 rfl rfl, hC4.out.cell 1 4 rfl rfl, hC4.out.cell 1 5 rfl rfl, trivial⟩)
      | (with_reducible refine And.intro (?_ : World.cell? w3 _ = _) ?_; exact hC3.out.cell 0 0 rfl rfl; exact ⟨hC3.out.cell 0 1 rfl rfl, hC3.out.cell 0 2 rfl rfl, hC3.out.cell 0 3 rfl rfl, hC3.out.cell 0 4 rfl rfl, hC3.out.cell 0 5 rfl rfl, hC3.out.cell 1 0 rfl rfl, hC3.out.cell 1 1 rfl rfl, hC3.out.cell 1 2 rfl rfl, hC3.out.cell 1 3 rfl rfl, hC3.out.cell 1 4 rfl rfl, hC3.out.cell 1 5 rfl rfl, trivial⟩)
      | (with_reducible refine And.intro (?_ : World.cell? _ _ = _) ?_; exact hC.out.drew.cell 0 0 rfl rfl; exact ⟨hC.out.drew.cell 0 1 rfl rfl, hC.out.drew.cell 0 2 rfl rfl, hC.out.drew.cell 0 3 rfl rfl, hC.out.drew.cell 0 4 rfl rfl, hC.out.drew.cell 0 5 rfl rfl, hC.out.drew.cell 1 0 rfl rfl, hC.out.drew.cell 1 1 rfl rfl, hC.out.drew.cell 1 2 rfl rfl, hC.out.drew.cell 1 3 rfl rfl, hC.out.drew.cell 1 4 rfl rfl, hC.out.drew.cell 1 5 rfl rfl, trivial⟩))
    (first
      | (have _t := hC3; go_at_call 69; refine (rsub_b (hC3.out.v 0 rfl).y (hC3.out.v 1 rfl).y B1.out.2 B2.out.2 (by omega) (by omega)).mono ?_; rintro e w4 ⟨a4, n4, c4, m4, d4, e4, f4, rfl, hz, hb⟩; have hC4 := Lib.hid ((hC3.out.call hb).pr hz); clear hb hz; have hC4_c20 := hC4.out.cell 2 0 rfl rfl; have hC4_f20 := hC4.out.free 2 0 rfl; have hC4_c21 := hC4.out.cell 2 1 rfl rfl; have hC4_f21 := hC4.out.free 2 1 rfl; have hC4_c22 := hC4.out.cell 2 2 rfl rfl; have hC4_f22 := hC4.out.free 2 2 rfl; have hC4_c23 := hC4.out.cell 2 3 rfl rfl; have hC4_f23 := hC4.out.free 2 3 rfl; have hC4_c24 := hC4.out.cell 2 4 rfl rfl; have hC4_f24 := hC4.out.free 2 4 rfl; have hC4_c25 := hC4.out.cell 2 5 rfl rfl; have hC4_f25 := hC4.out.free 2 5 rfl; clear _t hC3)
      | (have _t := hC; go_at_call 69; refine (rsub_b (hC.out.drew.v 0 rfl).x (hC.out.drew.v 1 rfl).x B1.out.1 B2.out.1 (by omega) (by omega)).mono ?_; rintro e w3 ⟨a3, n3, c3, m3, d3, e3, f3, rfl, hz, hb⟩; have hC3 := Lib.hid ((hC.out.drew.call hb).pr hz); clear hb hz; clear _t hC)
      | fail)
  go_wp2
  refine ret_st (hC4.out |>.set 2 rfl |>.set 2 rfl |>.set 2 rfl |>.set 2 rfl |>.set 2 rfl |>.set 2 rfl) (v := .agg #[.slice a3 n3 c3, .bool m3, .slice d3 e3 f3, .slice a4 n4 c4, .bool m4, .slice d4 e4 f4]) (fun hF => ?_) rfl (fun hF => ⟨_, _, _, _, _, _, _, _, _, _, _, _, _, _, rfl, ⟨hF.r 2 rfl, hF.r 3 rfl⟩, hF.be⟩)
  · have e0 := hF.cell 2 0 rfl rfl
    have e1 := hF.cell 2 1 rfl rfl
    have e2 := hF.cell 2 2 rfl rfl
    have e3 := hF.cell 2 3 rfl rfl
    have e4 := hF.cell 2 4 rfl rfl
    have e5 := hF.cell 2 5 rfl rfl
    simp [results, Tryz.results126, go_sem, e0, e1, e2, e3, e4, e5]

set_option maxRecDepth 100000 in
set_option maxHeartbeats 1000000 in
theorem both_mul (a1 : Option Addr) (n1 c1 : Nat) (m1 : Bool) (d1 : Option Addr) (e1 f1 : Nat) (u1 : Option Addr) (x1 y1 : Nat) (p1 : Bool) (t1 : Option Addr) (o1 l1 : Nat) (v1 : Rat × Rat) (a2 : Option Addr) (n2 c2 : Nat) (m2 : Bool) (d2 : Option Addr) (e2 f2 : Nat) (u2 : Option Addr) (x2 y2 : Nat) (p2 : Bool) (t2 : Option Addr) (o2 l2 : Nat) (v2 : Rat × Rat) (w : World) (h1 : Vd w (.slice a1 n1 c1) m1 (.slice d1 e1 f1) (.slice u1 x1 y1) p1 (.slice t1 o1 l1) v1) (h2 : Vd w (.slice a2 n2 c2) m2 (.slice d2 e2 f2) (.slice u2 x2 y2) p2 (.slice t2 o2 l2) v2) (k1 k2 : Nat) (b1 : Bv k1 v1) (b2 : Bv k2 v2) (hk1 : k1 ≤ 10000) (hk2 : k2 ≤ 10000) :
    Calls Tryz.prog 126 #[.func (Fn.func 71) #[] #[], .agg #[.slice a1 n1 c1, .bool m1, .slice d1 e1 f1, .slice u1 x1 y1, .bool p1, .slice t1 o1 l1], .agg #[.slice a2 n2 c2, .bool m2, .slice d2 e2 f2, .slice u2 x2 y2, .bool p2, .slice t2 o2 l2]] w (RetV w (v1.1 * v2.1, v1.2 * v2.2)) := by
  have B1 := Lib.hid b1
  have B2 := Lib.hid b2
  clear b1 b2
  have hC := Lib.hid ((((((St.enter w).pv h1).pv h2).al (w.heap.size) #[.slice a1 n1 c1, .bool m1, .slice d1 e1 f1, .slice u1 x1 y1, .bool p1, .slice t1 o1 l1] 103 rfl rfl).al (w.heap.size + 1) #[.slice a2 n2 c2, .bool m2, .slice d2 e2 f2, .slice u2 x2 y2, .bool p2, .slice t2 o2 l2] 103 (by simp) rfl).al (w.heap.size + 2) #[.slice none 0 0, .bool false, .slice none 0 0, .slice none 0 0, .bool false, .slice none 0 0] 103 (by simp) rfl)
  clear h1 h2
  go_enter Tryz.func126, Tryz.ntmps126
  go_wp2
  go_region_held3 (fun w' => w'.cell? ⟨w.heap.size, 0, none⟩ = some (.slice a1 n1 c1) ∧ w'.cell? ⟨w.heap.size, 1, none⟩ = some (.bool m1) ∧ w'.cell? ⟨w.heap.size, 2, none⟩ = some (.slice d1 e1 f1) ∧ w'.cell? ⟨w.heap.size, 3, none⟩ = some (.slice u1 x1 y1) ∧ w'.cell? ⟨w.heap.size, 4, none⟩ = some (.bool p1) ∧ w'.cell? ⟨w.heap.size, 5, none⟩ = some (.slice t1 o1 l1) ∧ w'.cell? ⟨w.heap.size + 1, 0, none⟩ = some (.slice a2 n2 c2) ∧ w'.cell? ⟨w.heap.size + 1, 1, none⟩ = some (.bool m2) ∧ w'.cell? ⟨w.heap.size + 1, 2, none⟩ = some (.slice d2 e2 f2) ∧ w'.cell? ⟨w.heap.size + 1, 3, none⟩ = some (.slice u2 x2 y2) ∧ w'.cell? ⟨w.heap.size + 1, 4, none⟩ = some (.bool p2) ∧ w'.cell? ⟨w.heap.size + 1, 5, none⟩ = some (.slice t2 o2 l2) ∧ True)
    (first
      | (with_reducible refine And.intro (?_ : World.cell? (World.setCell (World.setCell (World.setCell (World.setCell (World.setCell (World.setCell w4 _ _) _ _) _ _) _ _) _ _) _ _) _ = _) ?_; exact (hC4.out |>.set 2 rfl |>.set 2 rfl |>.set 2 rfl |>.set 2 rfl |>.set 2 rfl |>.set 2 rfl).cell 0 0 rfl rfl; exact ⟨(hC4.out |>.set 2 rfl |>.set 2 rfl |>.set 2 rfl |>.set 2 rfl |>.set 2 rfl |>.set 2 rfl).cell 0 1 rfl rfl, (hC4.out |>.set 2 rfl |>.set 2 rfl |>.set 2 rfl |>.set 2 rfl |>.set 2 rfl |>.set 2 rfl).cell 0 2 rfl rfl, (hC4.out |>.set 2 rfl |>.set 2 rfl |>.set 2 rfl |>.set 2 rfl |>.set 2 rfl |>.set 2 rfl).cell 0 3 rfl rfl, (hC4.out |>.set 2 rfl |>.set 2 rfl |>.set 2 rfl |>.set 2 rfl |>.set 2 rfl |>.set 2 rfl).cell 0 4 rfl rfl, (hC4.out |>.set 2 rfl |>.set 2 rfl |>.set 2 rfl |>.set 2 rfl |>.set 2 rfl |>.set 2 rfl).cell 0 5 rfl rfl, (hC4.out |>.set 2 rfl |>.set 2 rfl |>.set 2 rfl |>.set 2 rfl |>.set 2 rfl |>.set 2 rfl).cell 1 0 rfl rfl, (hC4.out |>.set 2 rfl |>.set 2 rfl |>.set 2 rfl |>.set 2 rfl |>.set 2 rfl |>.set 2 rfl).cell 1 1 rfl rfl, (hC4.out |>.set 2 rfl |>.set 2 rfl |>.set 2 rfl |>.set 2 rfl |>.set 2 rfl |>.set 2 rfl).cell 1 2 rfl rfl, (hC4.out |>.set 2 rfl |>.set 2 rfl |>.set 2 rfl |>.set 2 rfl |>.set 2 rfl |>.set 2 rfl).cell 1 3 rfl rfl, (hC4.out |>.set 2 rfl |>.set 2 rfl |>.set 2 rfl |>.set 2 rfl |>.set 2 rfl |>.set 2 rfl).cell 1 4 rfl rfl, (hC4.out |>.set 2 rfl |>.set 2 rfl |>.set 2 rfl |>.set 2 rfl |>.set 2 rfl |>.set 2 rfl).cell 1 5 rfl rfl, trivial⟩)
      | (with_reducible refine And.intro (?_ : World.cell? w4 _ = _) ?_; exact hC4.out.cell 0 0 rfl rfl; exact ⟨hC4.out.cell 0 1 rfl rfl, hC4.out.cell 0 2 rfl rfl, hC4.out.cell 0 3 rfl rfl, hC4.out.cell 0 4 rfl rfl, hC4.out.cell 0 5 rfl rfl, hC4.out.cell 1 0 rfl rfl, hC4.out.cell 1 1 rfl rfl, hC4.out.cell 1 2 rfl rfl, hC4.out.cell 1 3 rfl rfl, hC4.out.cell 1 4 rfl rfl, hC4.out.cell 1 5 rfl rfl, trivial⟩)
      | (with_reducible refine And.intro (?_ : World.cell? w3 _ = _) ?_; exact hC3.out.cell 0 0 rfl rfl; exact ⟨hC3.out.cell 0 1 rfl rfl, hC3.out.cell 0 2 rfl rfl, hC3.out.cell 0 3 rfl rfl, hC3.out.cell 0 4 rfl rfl, hC3.out.cell 0 5 rfl rfl, hC3.out.cell 1 0 rfl rfl, hC3.out.cell 1 1 rfl rfl, hC3.out.cell 1 2 rfl rfl, hC3.out.cell 1 3 rfl rfl, hC3.out.cell 1 4 rfl rfl, hC3.out.cell 1 5 rfl rfl, trivial⟩)
      | (with_reducible refine And.intro (?_ : World.cell? _ _ = _) ?_; exact hC.out.drew.cell 0 0 rfl rfl; exact ⟨hC.out.drew.cell 0 1 rfl rfl, hC.out.drew.cell 0 2 rfl rfl, hC.out.drew.cell 0 3 rfl rfl, hC.out.drew.cell 0 4 rfl rfl, hC.out.drew.cell 0 5 rfl rfl, hC.out.drew.cell 1 0 rfl rfl, hC.out.drew.cell 1 1 rfl rfl, hC.out.drew.cell 1 2 rfl rfl, hC.out.drew.cell 1 3 rfl rfl, hC.out.drew.cell 1 4 rfl rfl, hC.out.drew.cell 1 5 rfl rfl, trivial⟩))
    (first
      | (have _t := hC3; go_at_call 71; refine (rmul_b (hC3.out.v 0 rfl).y (hC3.out.v 1 rfl).y B1.out.2 B2.out.2 (by omega) (by omega)).mono ?_; rintro e w4 ⟨a4, n4, c4, m4, d4, e4, f4, rfl, hz, hb⟩; have hC4 := Lib.hid ((hC3.out.call hb).pr hz); clear hb hz; have hC4_c20 := hC4.out.cell 2 0 rfl rfl; have hC4_f20 := hC4.out.free 2 0 rfl; have hC4_c21 := hC4.out.cell 2 1 rfl rfl; have hC4_f21 := hC4.out.free 2 1 rfl; have hC4_c22 := hC4.out.cell 2 2 rfl rfl; have hC4_f22 := hC4.out.free 2 2 rfl; have hC4_c23 := hC4.out.cell 2 3 rfl rfl; have hC4_f23 := hC4.out.free 2 3 rfl; have hC4_c24 := hC4.out.cell 2 4 rfl rfl; have hC4_f24 := hC4.out.free 2 4 rfl; have hC4_c25 := hC4.out.cell 2 5 rfl rfl; have hC4_f25 := hC4.out.free 2 5 rfl; clear _t hC3)
      | (have _t := hC; go_at_call 71; refine (rmul_b (hC.out.drew.v 0 rfl).x (hC.out.drew.v 1 rfl).x B1.out.1 B2.out.1 (by omega) (by omega)).mono ?_; rintro e w3 ⟨a3, n3, c3, m3, d3, e3, f3, rfl, hz, hb⟩; have hC3 := Lib.hid ((hC.out.drew.call hb).pr hz); clear hb hz; clear _t hC)
      | fail)
  go_wp2
  refine ret_st (hC4.out |>.set 2 rfl |>.set 2 rfl |>.set 2 rfl |>.set 2 rfl |>.set 2 rfl |>.set 2 rfl) (v := .agg #[.slice a3 n3 c3, .bool m3, .slice d3 e3 f3, .slice a4 n4 c4, .bool m4, .slice d4 e4 f4]) (fun hF => ?_) rfl (fun hF => ⟨_, _, _, _, _, _, _, _, _, _, _, _, _, _, rfl, ⟨hF.r 2 rfl, hF.r 3 rfl⟩, hF.be⟩)
  · have e0 := hF.cell 2 0 rfl rfl
    have e1 := hF.cell 2 1 rfl rfl
    have e2 := hF.cell 2 2 rfl rfl
    have e3 := hF.cell 2 3 rfl rfl
    have e4 := hF.cell 2 4 rfl rfl
    have e5 := hF.cell 2 5 rfl rfl
    simp [results, Tryz.results126, go_sem, e0, e1, e2, e3, e4, e5]

set_option maxRecDepth 100000 in
set_option maxHeartbeats 1000000 in
theorem vadd_any (a1 : Option Addr) (n1 c1 : Nat) (m1 : Bool) (d1 : Option Addr) (e1 f1 : Nat) (u1 : Option Addr) (x1 y1 : Nat) (p1 : Bool) (t1 : Option Addr) (o1 l1 : Nat) (v1 : Rat × Rat) (a2 : Option Addr) (n2 c2 : Nat) (m2 : Bool) (d2 : Option Addr) (e2 f2 : Nat) (u2 : Option Addr) (x2 y2 : Nat) (p2 : Bool) (t2 : Option Addr) (o2 l2 : Nat) (v2 : Rat × Rat) (w : World) (h1 : Vd w (.slice a1 n1 c1) m1 (.slice d1 e1 f1) (.slice u1 x1 y1) p1 (.slice t1 o1 l1) v1) (h2 : Vd w (.slice a2 n2 c2) m2 (.slice d2 e2 f2) (.slice u2 x2 y2) p2 (.slice t2 o2 l2) v2) (k1 k2 : Nat) (b1 : Bv k1 v1) (b2 : Bv k2 v2) (hk1 : k1 ≤ 10000) (hk2 : k2 ≤ 10000) :
    Calls Tryz.prog 86 #[.agg #[.slice a1 n1 c1, .bool m1, .slice d1 e1 f1, .slice u1 x1 y1, .bool p1, .slice t1 o1 l1], .agg #[.slice a2 n2 c2, .bool m2, .slice d2 e2 f2, .slice u2 x2 y2, .bool p2, .slice t2 o2 l2]] w (RetV w (v1.1 + v2.1, v1.2 + v2.2)) := by
  have B1 := Lib.hid b1
  have B2 := Lib.hid b2
  clear b1 b2
  have hC := Lib.hid ((((((St.enter w).pv h1).pv h2).al (w.heap.size) #[.slice a1 n1 c1, .bool m1, .slice d1 e1 f1, .slice u1 x1 y1, .bool p1, .slice t1 o1 l1] 103 rfl rfl).al (w.heap.size + 1) #[.slice a2 n2 c2, .bool m2, .slice d2 e2 f2, .slice u2 x2 y2, .bool p2, .slice t2 o2 l2] 103 (by simp) rfl).al (w.heap.size + 2) #[.slice none 0 0, .bool false, .slice none 0 0, .slice none 0 0, .bool false, .slice none 0 0] 103 (by simp) rfl)
  clear h1 h2
  go_enter Tryz.func86, Tryz.ntmps86
  have hC_c00 := hC.out.cell 0 0 rfl rfl
  have hC_f00 := hC.out.free 0 0 rfl
  have hC_c01 := hC.out.cell 0 1 rfl rfl
  have hC_f01 := hC.out.free 0 1 rfl
  have hC_c02 := hC.out.cell 0 2 rfl rfl
  have hC_f02 := hC.out.free 0 2 rfl
  have hC_c03 := hC.out.cell 0 3 rfl rfl
  have hC_f03 := hC.out.free 0 3 rfl
  have hC_c04 := hC.out.cell 0 4 rfl rfl
  have hC_f04 := hC.out.free 0 4 rfl
  have hC_c05 := hC.out.cell 0 5 rfl rfl
  have hC_f05 := hC.out.free 0 5 rfl
  have hC_c10 := hC.out.cell 1 0 rfl rfl
  have hC_f10 := hC.out.free 1 0 rfl
  have hC_c11 := hC.out.cell 1 1 rfl rfl
  have hC_f11 := hC.out.free 1 1 rfl
  have hC_c12 := hC.out.cell 1 2 rfl rfl
  have hC_f12 := hC.out.free 1 2 rfl
  have hC_c13 := hC.out.cell 1 3 rfl rfl
  have hC_f13 := hC.out.free 1 3 rfl
  have hC_c14 := hC.out.cell 1 4 rfl rfl
  have hC_f14 := hC.out.free 1 4 rfl
  have hC_c15 := hC.out.cell 1 5 rfl rfl
  have hC_f15 := hC.out.free 1 5 rfl
  go_wp2_with fail
  refine (both_add _ _ _ _ _ _ _ _ _ _ _ _ _ _ _ _ _ _ _ _ _ _ _ _ _ _ _ _ _ _ _ (hC.out.v 0 rfl) (hC.out.v 1 rfl) _ _ B1.out B2.out (by omega) (by omega)).mono ?_
  rintro e w3 ⟨a3, n3, c3, m3, d3, e3, f3, u3, x3, y3, p3, t3, o3, l3, rfl, hz, hb⟩
  have hC3 := Lib.hid ((hC.out.call hb).pv hz)
  clear hb hz
  have hC3_c20 := hC3.out.cell 2 0 rfl rfl
  have hC3_f20 := hC3.out.free 2 0 rfl
  have hC3_c21 := hC3.out.cell 2 1 rfl rfl
  have hC3_f21 := hC3.out.free 2 1 rfl
  have hC3_c22 := hC3.out.cell 2 2 rfl rfl
  have hC3_f22 := hC3.out.free 2 2 rfl
  have hC3_c23 := hC3.out.cell 2 3 rfl rfl
  have hC3_f23 := hC3.out.free 2 3 rfl
  have hC3_c24 := hC3.out.cell 2 4 rfl rfl
  have hC3_f24 := hC3.out.free 2 4 rfl
  have hC3_c25 := hC3.out.cell 2 5 rfl rfl
  have hC3_f25 := hC3.out.free 2 5 rfl
  clear hC
  go_wp2
  refine ret_st (hC3.out |>.set 2 rfl |>.set 2 rfl |>.set 2 rfl |>.set 2 rfl |>.set 2 rfl |>.set 2 rfl) (v := .agg #[.slice a3 n3 c3, .bool m3, .slice d3 e3 f3, .slice u3 x3 y3, .bool p3, .slice t3 o3 l3]) (fun hF => ?_) rfl (fun hF => ⟨_, _, _, _, _, _, _, _, _, _, _, _, _, _, rfl, hF.v 2 rfl, hF.be⟩)
  · have e0 := hF.cell 2 0 rfl rfl
    have e1 := hF.cell 2 1 rfl rfl
    have e2 := hF.cell 2 2 rfl rfl
    have e3 := hF.cell 2 3 rfl rfl
    have e4 := hF.cell 2 4 rfl rfl
    have e5 := hF.cell 2 5 rfl rfl
    simp [results, Tryz.results86, go_sem, e0, e1, e2, e3, e4, e5]

set_option maxRecDepth 100000 in
set_option maxHeartbeats 1000000 in
theorem vsub_any (a1 : Option Addr) (n1 c1 : Nat) (m1 : Bool) (d1 : Option Addr) (e1 f1 : Nat) (u1 : Option Addr) (x1 y1 : Nat) (p1 : Bool) (t1 : Option Addr) (o1 l1 : Nat) (v1 : Rat × Rat) (a2 : Option Addr) (n2 c2 : Nat) (m2 : Bool) (d2 : Option Addr) (e2 f2 : Nat) (u2 : Option Addr) (x2 y2 : Nat) (p2 : Bool) (t2 : Option Addr) (o2 l2 : Nat) (v2 : Rat × Rat) (w : World) (h1 : Vd w (.slice a1 n1 c1) m1 (.slice d1 e1 f1) (.slice u1 x1 y1) p1 (.slice t1 o1 l1) v1) (h2 : Vd w (.slice a2 n2 c2) m2 (.slice d2 e2 f2) (.slice u2 x2 y2) p2 (.slice t2 o2 l2) v2) (k1 k2 : Nat) (b1 : Bv k1 v1) (b2 : Bv k2 v2) (hk1 : k1 ≤ 10000) (hk2 : k2 ≤ 10000) :
    Calls Tryz.prog 88 #[.agg #[.slice a1 n1 c1, .bool m1, .slice d1 e1 f1, .slice u1 x1 y1, .bool p1, .slice t1 o1 l1], .agg #[.slice a2 n2 c2, .bool m2, .slice d2 e2 f2, .slice u2 x2 y2, .bool p2, .slice t2 o2 l2]] w (RetV w (v1.1 - v2.1, v1.2 - v2.2)) := by
  have B1 := Lib.hid b1
  have B2 := Lib.hid b2
  clear b1 b2
  have hC := Lib.hid ((((((St.enter w).pv h1).pv h2).al (w.heap.size) #[.slice a1 n1 c1, .bool m1, .slice d1 e1 f1, .slice u1 x1 y1, .bool p1, .slice t1 o1 l1] 103 rfl rfl).al (w.heap.size + 1) #[.slice a2 n2 c2, .bool m2, .slice d2 e2 f2, .slice u2 x2 y2, .bool p2, .slice t2 o2 l2] 103 (by simp) rfl).al (w.heap.size + 2) #[.slice none 0 0, .bool false, .slice none 0 0, .slice none 0 0, .bool false, .slice none 0 0] 103 (by simp) rfl)
  clear h1 h2
  go_enter Tryz.func88, Tryz.ntmps88
  have hC_c00 := hC.out.cell 0 0 rfl rfl
  have hC_f00 := hC.out.free 0 0 rfl
  have hC_c01 := hC.out.cell 0 1 rfl rfl
  have hC_f01 := hC.out.free 0 1 rfl
  have hC_c02 := hC.out.cell 0 2 rfl rfl
  have hC_f02 := hC.out.free 0 2 rfl
  have hC_c03 := hC.out.cell 0 3 rfl rfl
  have hC_f03 := hC.out.free 0 3 rfl
  have hC_c04 := hC.out.cell 0 4 rfl rfl
  have hC_f04 := hC.out.free 0 4 rfl
  have hC_c05 := hC.out.cell 0 5 rfl rfl
  have hC_f05 := hC.out.free 0 5 rfl
  have hC_c10 := hC.out.cell 1 0 rfl rfl
  have hC_f10 := hC.out.free 1 0 rfl
  have hC_c11 := hC.out.cell 1 1 rfl rfl
  have hC_f11 := hC.out.free 1 1 rfl
  have hC_c12 := hC.out.cell 1 2 rfl rfl
  have hC_f12 := hC.out.free 1 2 rfl
  have hC_c13 := hC.out.cell 1 3 rfl rfl
  have hC_f13 := hC.out.free 1 3 rfl
  have hC_c14 := hC.out.cell 1 4 rfl rfl
  have hC_f14 := hC.out.free 1 4 rfl
  have hC_c15 := hC.out.cell 1 5 rfl rfl
  have hC_f15 := hC.out.free 1 5 rfl
  go_wp2_with fail
  refine (both_sub _ _ _ _ _ _ _ _ _ _ _ _ _ _ _ _ _ _ _ _ _ _ _ _ _ _ _ _ _ _ _ (hC.out.v 0 rfl) (hC.out.v 1 rfl) _ _ B1.out B2.out (by omega) (by omega)).mono ?_
  rintro e w3 ⟨a3, n3, c3, m3, d3, e3, f3, u3, x3, y3, p3, t3, o3, l3, rfl, hz, hb⟩
  have hC3 := Lib.hid ((hC.out.call hb).pv hz)
  clear hb hz
  have hC3_c20 := hC3.out.cell 2 0 rfl rfl
  have hC3_f20 := hC3.out.free 2 0 rfl
  have hC3_c21 := hC3.out.cell 2 1 rfl rfl
  have hC3_f21 := hC3.out.free 2 1 rfl
  have hC3_c22 := hC3.out.cell 2 2 rfl rfl
  have hC3_f22 := hC3.out.free 2 2 rfl
  have hC3_c23 := hC3.out.cell 2 3 rfl rfl
  have hC3_f23 := hC3.out.free 2 3 rfl
  have hC3_c24 := hC3.out.cell 2 4 rfl rfl
  have hC3_f24 := hC3.out.free 2 4 rfl
  have hC3_c25 := hC3.out.cell 2 5 rfl rfl
  have hC3_f25 := hC3.out.free 2 5 rfl
  clear hC
  go_wp2
  refine ret_st (hC3.out |>.set 2 rfl |>.set 2 rfl |>.set 2 rfl |>.set 2 rfl |>.set 2 rfl |>.set 2 rfl) (v := .agg #[.slice a3 n3 c3, .bool m3, .slice d3 e3 f3, .slice u3 x3 y3, .bool p3, .slice t3 o3 l3]) (fun hF => ?_) rfl (fun hF => ⟨_, _, _, _, _, _, _, _, _, _, _, _, _, _, rfl, hF.v 2 rfl, hF.be⟩)
  · have e0 := hF.cell 2 0 rfl rfl
    have e1 := hF.cell 2 1 rfl rfl
    have e2 := hF.cell 2 2 rfl rfl
    have e3 := hF.cell 2 3 rfl rfl
    have e4 := hF.cell 2 4 rfl rfl
    have e5 := hF.cell 2 5 rfl rfl
    simp [results, Tryz.results88, go_sem, e0, e1, e2, e3, e4, e5]

set_option maxRecDepth 100000 in
set_option maxHeartbeats 1000000 in
theorem vscale_any (a1 : Option Addr) (n1 c1 : Nat) (m1 : Bool) (d1 : Option Addr) (e1 f1 : Nat) (u1 : Option Addr) (x1 y1 : Nat) (p1 : Bool) (t1 : Option Addr) (o1 l1 : Nat) (v1 : Rat × Rat) (a2 : Option Addr) (n2 c2 : Nat) (m2 : Bool) (d2 : Option Addr) (e2 f2 : Nat) (q2 : Rat) (w : World) (h1 : Vd w (.slice a1 n1 c1) m1 (.slice d1 e1 f1) (.slice u1 x1 y1) p1 (.slice t1 o1 l1) v1) (h2 : Rd w (.slice a2 n2 c2) m2 (.slice d2 e2 f2) q2) (k1 k2 : Nat) (b1 : Bv k1 v1) (b2 : Bq k2 q2) (hk1 : k1 ≤ 10000) (hk2 : k2 ≤ 10000) :
    Calls Tryz.prog 90 #[.agg #[.slice a1 n1 c1, .bool m1, .slice d1 e1 f1, .slice u1 x1 y1, .bool p1, .slice t1 o1 l1], .agg #[.slice a2 n2 c2, .bool m2, .slice d2 e2 f2]] w (RetV w (v1.1 * q2, v1.2 * q2)) := by
  have B1 := Lib.hid b1
  have B2 := Lib.hid b2
  clear b1 b2
  have hC := Lib.hid ((((((St.enter w).pv h1).pr h2).al (w.heap.size) #[.slice a1 n1 c1, .bool m1, .slice d1 e1 f1, .slice u1 x1 y1, .bool p1, .slice t1 o1 l1] 103 rfl rfl).al (w.heap.size + 1) #[.slice a2 n2 c2, .bool m2, .slice d2 e2 f2] 48 (by simp) rfl).al (w.heap.size + 2) #[.slice none 0 0, .bool false, .slice none 0 0, .slice none 0 0, .bool false, .slice none 0 0] 103 (by simp) rfl)
  clear h1 h2
  go_enter Tryz.func90, Tryz.ntmps90
  have hC_c00 := hC.out.cell 0 0 rfl rfl
  have hC_f00 := hC.out.free 0 0 rfl
  have hC_c01 := hC.out.cell 0 1 rfl rfl
  have hC_f01 := hC.out.free 0 1 rfl
  have hC_c02 := hC.out.cell 0 2 rfl rfl
  have hC_f02 := hC.out.free 0 2 rfl
  have hC_c03 := hC.out.cell 0 3 rfl rfl
  have hC_f03 := hC.out.free 0 3 rfl
  have hC_c04 := hC.out.cell 0 4 rfl rfl
  have hC_f04 := hC.out.free 0 4 rfl
  have hC_c05 := hC.out.cell 0 5 rfl rfl
  have hC_f05 := hC.out.free 0 5 rfl
  have hC_c10 := hC.out.cell 1 0 rfl rfl
  have hC_f10 := hC.out.free 1 0 rfl
  have hC_c11 := hC.out.cell 1 1 rfl rfl
  have hC_f11 := hC.out.free 1 1 rfl
  have hC_c12 := hC.out.cell 1 2 rfl rfl
  have hC_f12 := hC.out.free 1 2 rfl
  go_wp2_with fail
  refine (both_mul _ _ _ _ _ _ _ _ _ _ _ _ _ _ _ _ _ _ _ _ _ _ _ _ _ _ _ _ _ _ _ (hC.out.v 0 rfl) (⟨hC.out.r 1 rfl, hC.out.r 1 rfl⟩ : Vd _ _ _ _ _ _ _ (q2, q2)) _ _ B1.out (⟨B2.out, B2.out⟩ : Bv k2 (q2, q2)) (by omega) (by omega)).mono ?_
  rintro e w3 ⟨a3, n3, c3, m3, d3, e3, f3, u3, x3, y3, p3, t3, o3, l3, rfl, hz, hb⟩
  have hC3 := Lib.hid ((hC.out.call hb).pv hz)
  clear hb hz
  have hC3_c20 := hC3.out.cell 2 0 rfl rfl
  have hC3_f20 := hC3.out.free 2 0 rfl
  have hC3_c21 := hC3.out.cell 2 1 rfl rfl
  have hC3_f21 := hC3.out.free 2 1 rfl
  have hC3_c22 := hC3.out.cell 2 2 rfl rfl
  have hC3_f22 := hC3.out.free 2 2 rfl
  have hC3_c23 := hC3.out.cell 2 3 rfl rfl
  have hC3_f23 := hC3.out.free 2 3 rfl
  have hC3_c24 := hC3.out.cell 2 4 rfl rfl
  have hC3_f24 := hC3.out.free 2 4 rfl
  have hC3_c25 := hC3.out.cell 2 5 rfl rfl
  have hC3_f25 := hC3.out.free 2 5 rfl
  clear hC
  go_wp2
  refine ret_st (hC3.out |>.set 2 rfl |>.set 2 rfl |>.set 2 rfl |>.set 2 rfl |>.set 2 rfl |>.set 2 rfl) (v := .agg #[.slice a3 n3 c3, .bool m3, .slice d3 e3 f3, .slice u3 x3 y3, .bool p3, .slice t3 o3 l3]) (fun hF => ?_) rfl (fun hF => ⟨_, _, _, _, _, _, _, _, _, _, _, _, _, _, rfl, hF.v 2 rfl, hF.be⟩)
  · have e0 := hF.cell 2 0 rfl rfl
    have e1 := hF.cell 2 1 rfl rfl
    have e2 := hF.cell 2 2 rfl rfl
    have e3 := hF.cell 2 3 rfl rfl
    have e4 := hF.cell 2 4 rfl rfl
    have e5 := hF.cell 2 5 rfl rfl
    simp [results, Tryz.results90, go_sem, e0, e1, e2, e3, e4, e5]

set_option maxRecDepth 100000 in
set_option maxHeartbeats 1000000 in
theorem vsame_no (a1 : Option Addr) (n1 c1 : Nat) (m1 : Bool) (d1 : Option Addr) (e1 f1 : Nat) (u1 : Option Addr) (x1 y1 : Nat) (p1 : Bool) (t1 : Option Addr) (o1 l1 : Nat) (v1 : Rat × Rat) (a2 : Option Addr) (n2 c2 : Nat) (m2 : Bool) (d2 : Option Addr) (e2 f2 : Nat) (u2 : Option Addr) (x2 y2 : Nat) (p2 : Bool) (t2 : Option Addr) (o2 l2 : Nat) (v2 : Rat × Rat) (w : World) (h1 : Vd w (.slice a1 n1 c1) m1 (.slice d1 e1 f1) (.slice u1 x1 y1) p1 (.slice t1 o1 l1) v1) (h2 : Vd w (.slice a2 n2 c2) m2 (.slice d2 e2 f2) (.slice u2 x2 y2) p2 (.slice t2 o2 l2) v2) (k1 k2 : Nat) (b1 : Bv k1 v1) (b2 : Bv k2 v2) (hk1 : k1 ≤ 10000) (hk2 : k2 ≤ 10000) (c : Int) (hc : cmpQ v1.1 v2.1 = c) (hi : (c == 0) = false) :
    Calls Tryz.prog 96 #[.agg #[.slice a1 n1 c1, .bool m1, .slice d1 e1 f1, .slice u1 x1 y1, .bool p1, .slice t1 o1 l1], .agg #[.slice a2 n2 c2, .bool m2, .slice d2 e2 f2, .slice u2 x2 y2, .bool p2, .slice t2 o2 l2]] w (fun e w' => e = .returned (.bool false) ∧ Below w.heap.size w w') := by
  have E1 := Lib.hid hc
  clear hc
  have B1 := Lib.hid b1
  have B2 := Lib.hid b2
  clear b1 b2
  have hC := Lib.hid (((((St.enter w).pv h1).pv h2).al (w.heap.size) #[.slice a1 n1 c1, .bool m1, .slice d1 e1 f1, .slice u1 x1 y1, .bool p1, .slice t1 o1 l1] 103 rfl rfl).al (w.heap.size + 1) #[.slice a2 n2 c2, .bool m2, .slice d2 e2 f2, .slice u2 x2 y2, .bool p2, .slice t2 o2 l2] 103 (by simp) rfl)
  clear h1 h2
  go_enter Tryz.func96, Tryz.ntmps96
  have hC_c00 := hC.out.cell 0 0 rfl rfl
  have hC_f00 := hC.out.free 0 0 rfl
  have hC_c01 := hC.out.cell 0 1 rfl rfl
  have hC_f01 := hC.out.free 0 1 rfl
  have hC_c02 := hC.out.cell 0 2 rfl rfl
  have hC_f02 := hC.out.free 0 2 rfl
  have hC_c10 := hC.out.cell 1 0 rfl rfl
  have hC_f10 := hC.out.free 1 0 rfl
  have hC_c11 := hC.out.cell 1 1 rfl rfl
  have hC_f11 := hC.out.free 1 1 rfl
  have hC_c12 := hC.out.cell 1 2 rfl rfl
  have hC_f12 := hC.out.free 1 2 rfl
  go_wp2_with fail
  refine (rcmp_b (hC.out.v 0 rfl).x (hC.out.v 1 rfl).x B1.out.1 B2.out.1 (by omega) (by omega)).mono ?_
  rintro e w3 ⟨rfl, hb⟩
  have hC3 := Lib.hid (hC.out.call hb)
  clear hb hC
  rw [E1.out]
  go_wp2
  go_ret
  exact ⟨rfl, hC3.out.be⟩

set_option maxRecDepth 100000 in
set_option maxHeartbeats 1000000 in
theorem vsame_yes (a1 : Option Addr) (n1 c1 : Nat) (m1 : Bool) (d1 : Option Addr) (e1 f1 : Nat) (u1 : Option Addr) (x1 y1 : Nat) (p1 : Bool) (t1 : Option Addr) (o1 l1 : Nat) (v1 : Rat × Rat) (a2 : Option Addr) (n2 c2 : Nat) (m2 : Bool) (d2 : Option Addr) (e2 f2 : Nat) (u2 : Option Addr) (x2 y2 : Nat) (p2 : Bool) (t2 : Option Addr) (o2 l2 : Nat) (v2 : Rat × Rat) (w : World) (h1 : Vd w (.slice a1 n1 c1) m1 (.slice d1 e1 f1) (.slice u1 x1 y1) p1 (.slice t1 o1 l1) v1) (h2 : Vd w (.slice a2 n2 c2) m2 (.slice d2 e2 f2) (.slice u2 x2 y2) p2 (.slice t2 o2 l2) v2) (k1 k2 : Nat) (b1 : Bv k1 v1) (b2 : Bv k2 v2) (hk1 : k1 ≤ 10000) (hk2 : k2 ≤ 10000) (hc : cmpQ v1.1 v2.1 = 0) (c : Int) (hd : cmpQ v1.2 v2.2 = c) :
    Calls Tryz.prog 96 #[.agg #[.slice a1 n1 c1, .bool m1, .slice d1 e1 f1, .slice u1 x1 y1, .bool p1, .slice t1 o1 l1], .agg #[.slice a2 n2 c2, .bool m2, .slice d2 e2 f2, .slice u2 x2 y2, .bool p2, .slice t2 o2 l2]] w (fun e w' => e = .returned (.bool (c == 0)) ∧ Below w.heap.size w w') := by
  have E1 := Lib.hid hc
  clear hc
  have E2 := Lib.hid hd
  clear hd
  have B1 := Lib.hid b1
  have B2 := Lib.hid b2
  clear b1 b2
  have hC := Lib.hid (((((St.enter w).pv h1).pv h2).al (w.heap.size) #[.slice a1 n1 c1, .bool m1, .slice d1 e1 f1, .slice u1 x1 y1, .bool p1, .slice t1 o1 l1] 103 rfl rfl).al (w.heap.size + 1) #[.slice a2 n2 c2, .bool m2, .slice d2 e2 f2, .slice u2 x2 y2, .bool p2, .slice t2 o2 l2] 103 (by simp) rfl)
  clear h1 h2
  go_enter Tryz.func96, Tryz.ntmps96
  have hC_c00 := hC.out.cell 0 0 rfl rfl
  have hC_f00 := hC.out.free 0 0 rfl
  have hC_c01 := hC.out.cell 0 1 rfl rfl
  have hC_f01 := hC.out.free 0 1 rfl
  have hC_c02 := hC.out.cell 0 2 rfl rfl
  have hC_f02 := hC.out.free 0 2 rfl
  have hC_c10 := hC.out.cell 1 0 rfl rfl
  have hC_f10 := hC.out.free 1 0 rfl
  have hC_c11 := hC.out.cell 1 1 rfl rfl
  have hC_f11 := hC.out.free 1 1 rfl
  have hC_c12 := hC.out.cell 1 2 rfl rfl
  have hC_f12 := hC.out.free 1 2 rfl
  go_wp2_with fail
  refine (rcmp_b (hC.out.v 0 rfl).x (hC.out.v 1 rfl).x B1.out.1 B2.out.1 (by omega) (by omega)).mono ?_
  rintro e w3 ⟨rfl, hb⟩
  have hC3 := Lib.hid (hC.out.call hb)
  clear hb hC
  rw [E1.out]
  have hC3_c03 := hC3.out.cell 0 3 rfl rfl
  have hC3_f03 := hC3.out.free 0 3 rfl
  have hC3_c04 := hC3.out.cell 0 4 rfl rfl
  have hC3_f04 := hC3.out.free 0 4 rfl
  have hC3_c05 := hC3.out.cell 0 5 rfl rfl
  have hC3_f05 := hC3.out.free 0 5 rfl
  have hC3_c13 := hC3.out.cell 1 3 rfl rfl
  have hC3_f13 := hC3.out.free 1 3 rfl
  have hC3_c14 := hC3.out.cell 1 4 rfl rfl
  have hC3_f14 := hC3.out.free 1 4 rfl
  have hC3_c15 := hC3.out.cell 1 5 rfl rfl
  have hC3_f15 := hC3.out.free 1 5 rfl
  go_wp2_with fail
  refine (rcmp_b (hC3.out.v 0 rfl).y (hC3.out.v 1 rfl).y B1.out.2 B2.out.2 (by omega) (by omega)).mono ?_
  rintro e w4 ⟨rfl, hb⟩
  have hC4 := Lib.hid (hC3.out.call hb)
  clear hb hC3
  rw [E2.out]
  go_wp2
  go_ret
  exact ⟨rfl, hC4.out.be⟩

/-- the text of a pair -/
def vtext (v : Rat × Rat) : List UInt8 := [40] ++ rtext v.1 ++ [44, 32] ++ rtext v.2 ++ [41]
theorem rtext_len {k : Nat} {q : Rat} (h : Bq k q) (hk : k ≤ 40000) : (rtext q).length ≤ 3000000 := by
  have h1 := ztext_len h.num (by omega)
  have h2 := ztext_len h.den (by omega)
  unfold rtext
  split
  · omega
  · rw [List.length_append, List.length_append]; simp only [List.length_singleton]; omega

set_option maxRecDepth 100000 in
set_option maxHeartbeats 1000000 in
theorem vtext_any (a1 : Option Addr) (n1 c1 : Nat) (m1 : Bool) (d1 : Option Addr) (e1 f1 : Nat) (u1 : Option Addr) (x1 y1 : Nat) (p1 : Bool) (t1 : Option Addr) (o1 l1 : Nat) (v1 : Rat × Rat) (w : World) (h1 : Vd w (.slice a1 n1 c1) m1 (.slice d1 e1 f1) (.slice u1 x1 y1) p1 (.slice t1 o1 l1) v1) (k1 : Nat) (b1 : Bv k1 v1) (hk1 : k1 ≤ 10000) :
    Calls Tryz.prog 98 #[.agg #[.slice a1 n1 c1, .bool m1, .slice d1 e1 f1, .slice u1 x1 y1, .bool p1, .slice t1 o1 l1]] w (fun e w' => e = .returned (.string ⟨(vtext v1).toArray⟩) ∧ Below w.heap.size w w') := by
  have hl1 := rtext_len b1.1 (by omega)
  have hl2 := rtext_len b1.2 (by omega)
  obtain ⟨T1, hT1⟩ : ∃ T : ByteArray, T = ⟨(rtext v1.1).toArray⟩ := ⟨_, rfl⟩
  obtain ⟨T2, hT2⟩ : ∃ T : ByteArray, T = ⟨(rtext v1.2).toArray⟩ := ⟨_, rfl⟩
  have hs1 : T1.size ≤ 3000000 := by rw [hT1]; show (rtext v1.1).toArray.size ≤ _; simpa using hl1
  have hs2 : T2.size ≤ 3000000 := by rw [hT2]; show (rtext v1.2).toArray.size ≤ _; simpa using hl2
  have hb1 : ¬ 9223372036854775807 < 1 + T1.size := by omega
  have hb2 : ¬ 9223372036854775807 < 1 + T1.size + 2 := by omega
  have hb3 : ¬ 9223372036854775807 < 1 + T1.size + 2 + T2.size := by omega
  have hb4 : ¬ 9223372036854775807 < 1 + T1.size + 2 + T2.size + 1 := by omega
  have HT1 := Lib.hid hT1
  have HT2 := Lib.hid hT2
  clear hT1 hT2 hl1 hl2
  have B1 := Lib.hid b1
  clear b1
  have hC := Lib.hid (((St.enter w).pv h1).al (w.heap.size) #[.slice a1 n1 c1, .bool m1, .slice d1 e1 f1, .slice u1 x1 y1, .bool p1, .slice t1 o1 l1] 103 rfl rfl)
  clear h1
  go_enter Tryz.func98, Tryz.ntmps98
  go_wp2
  go_region_held3 (fun w' => w'.cell? ⟨w.heap.size, 0, none⟩ = some (.slice a1 n1 c1) ∧ w'.cell? ⟨w.heap.size, 1, none⟩ = some (.bool m1) ∧ w'.cell? ⟨w.heap.size, 2, none⟩ = some (.slice d1 e1 f1) ∧ w'.cell? ⟨w.heap.size, 3, none⟩ = some (.slice u1 x1 y1) ∧ w'.cell? ⟨w.heap.size, 4, none⟩ = some (.bool p1) ∧ w'.cell? ⟨w.heap.size, 5, none⟩ = some (.slice t1 o1 l1) ∧ True)
    (first
      | (with_reducible refine And.intro (?_ : World.cell? w5 _ = _) ?_; exact hC5.out.cell 0 0 rfl rfl; exact ⟨hC5.out.cell 0 1 rfl rfl, hC5.out.cell 0 2 rfl rfl, hC5.out.cell 0 3 rfl rfl, hC5.out.cell 0 4 rfl rfl, hC5.out.cell 0 5 rfl rfl, trivial⟩)
      | (with_reducible refine And.intro (?_ : World.cell? w4 _ = _) ?_; exact hC4.out.cell 0 0 rfl rfl; exact ⟨hC4.out.cell 0 1 rfl rfl, hC4.out.cell 0 2 rfl rfl, hC4.out.cell 0 3 rfl rfl, hC4.out.cell 0 4 rfl rfl, hC4.out.cell 0 5 rfl rfl, trivial⟩)
      | (with_reducible refine And.intro (?_ : World.cell? _ _ = _) ?_; exact hC.out.drew.cell 0 0 rfl rfl; exact ⟨hC.out.drew.cell 0 1 rfl rfl, hC.out.drew.cell 0 2 rfl rfl, hC.out.drew.cell 0 3 rfl rfl, hC.out.drew.cell 0 4 rfl rfl, hC.out.drew.cell 0 5 rfl rfl, trivial⟩))
    (first
      | (have _t := hC4; go_at_call 30; refine (rtext_b (hC4.out.v 0 rfl).y B1.out.2 (by omega)).mono ?_; rintro e w5 ⟨rfl, hb⟩; have hC5 := Lib.hid ((hC4.out.call hb)); clear hb; rw [← HT2.out]; clear _t hC4)
      | (have _t := hC; go_at_call 30; refine (rtext_b (hC.out.drew.v 0 rfl).x B1.out.1 (by omega)).mono ?_; rintro e w4 ⟨rfl, hb⟩; have hC4 := Lib.hid ((hC.out.drew.call hb)); clear hb; rw [← HT1.out]; clear _t hC)
      | fail)
  go_wp2
  go_ret
  exact ⟨by unfold vtext; rw [← ba_append, ← ba_append, ← ba_append, ← ba_append, ← HT1.out, ← HT2.out]; rfl, hC5.out.be⟩

end Go.Proofs.YtmfplelodnoicaaGreatDoor

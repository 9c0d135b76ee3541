/- ratios: Whole, Of, OfZ, Ratio, Neg, Abs, Num, Den, Mul, Div, Sign, Cmp -/
import Derived.Test.YtnimnoodpnhodaaDoorR1
namespace Go.Proofs.YtnimnoodpnhodaaDoor
open Go.RowKit Dig

section
variable {w : World} {a1 : Option Addr} {n1 c1 : Nat} {m1 : Bool} {z1 : Int} {a2 : Option Addr} {n2 c2 : Nat} {m2 : Bool} {z2 : Int} {k1 k2 : Nat}
theorem ratio_b (h1 : Zd w (.slice a1 n1 c1) m1 z1) (h2 : Zd w (.slice a2 n2 c2) m2 z2) (b1 : Bd k1 z1) (b2 : Bd k2 z2) (hk1 : k1 ≤ 200000) (hk2 : k2 ≤ 200000) (hz : z2 ≠ 0) :
    Calls Tryd.prog 56 #[.agg #[.slice a1 n1 c1, .bool m1], .agg #[.slice a2 n2 c2, .bool m2]] w (RetR w (Rat.divInt z1 z2)) :=
  ratio_any _ _ _ _ _ _ _ _ _ _ _ h1 h2 k1 k2 b1 b2 hk1 hk2 hz
variable {d1 : Option Addr} {e1 f1 : Nat} {q1 : Rat}
theorem bottom_b (h1 : Rd w (.slice a1 n1 c1) m1 (.slice d1 e1 f1) q1) (b1 : Bq k1 q1) (hk1 : k1 ≤ 1000000) :
    Calls Tryd.prog 36 #[.agg #[.slice a1 n1 c1, .bool m1, .slice d1 e1 f1]] w (RetZ w q1.den) := bottom_any _ _ _ _ _ _ _ _ _ h1 k1 b1 hk1
end

theorem Dg.nil {w : World} : Dg w (.slice none 0 0) 0 := by unfold Dg; rw [dg_zero]; exact Sl.nil
theorem Rd.nil {w : World} : Rd w (.slice none 0 0) false (.slice none 0 0) 0 := ⟨Zd.nil, Dg.nil⟩

set_option maxRecDepth 100000 in
set_option maxHeartbeats 1000000 in
theorem whole_any (a1 : Option Addr) (n1 c1 : Nat) (m1 : Bool) (z1 : Int) (w : World) (h1 : Zd w (.slice a1 n1 c1) m1 z1) :
    Calls Tryd.prog 33 #[.agg #[.slice a1 n1 c1, .bool m1]] w (RetR w (z1 : Rat)) := by
  have hC := Lib.hid ((((St.enter w).pz h1).al (w.heap.size) #[.slice a1 n1 c1, .bool m1] 27 rfl rfl).al (w.heap.size + 1) #[.slice a1 n1 c1, .bool m1, .slice none 0 0] 32 (by simp) rfl)
  clear h1
  go_enter Tryd.func33, Tryd.ntmps33
  go_wp2
  refine ret_st hC.out (v := .agg #[.slice a1 n1 c1, .bool m1, .slice none 0 0]) (fun hF => ?_) rfl (fun hF => ⟨_, _, _, _, _, _, _, rfl, ⟨by rw [Rat.num_intCast]; exact hF.z 0 rfl, by rw [Rat.den_intCast]; exact Dg.nil⟩, hF.be⟩)
  · have e0 := hF.cell 1 0 rfl rfl
    have e1 := hF.cell 1 1 rfl rfl
    have e2 := hF.cell 1 2 rfl rfl
    simp [results, Tryd.results33, go_sem, e0, e1, e2]

set_option maxRecDepth 100000 in
set_option maxHeartbeats 1000000 in
theorem rneg_any (a1 : Option Addr) (n1 c1 : Nat) (m1 : Bool) (d1 : Option Addr) (e1 f1 : Nat) (q1 : Rat) (w : World) (h1 : Rd w (.slice a1 n1 c1) m1 (.slice d1 e1 f1) q1) :
    Calls Tryd.prog 45 #[.agg #[.slice a1 n1 c1, .bool m1, .slice d1 e1 f1]] w (RetR w (-q1)) := by
  have hC := Lib.hid ((((St.enter w).pr h1).al (w.heap.size) #[.slice a1 n1 c1, .bool m1, .slice d1 e1 f1] 32 rfl rfl).al (w.heap.size + 1) #[.slice none 0 0, .bool false, .slice none 0 0] 32 (by simp) rfl)
  clear h1
  go_enter Tryd.func45, Tryd.ntmps45
  go_wp2
  go_region_held3 (fun w' => w'.cell? ⟨w.heap.size, 0, none⟩ = some (.slice a1 n1 c1) ∧ w'.cell? ⟨w.heap.size, 1, none⟩ = some (.bool m1) ∧ w'.cell? ⟨w.heap.size, 2, none⟩ = some (.slice d1 e1 f1) ∧ True)
    (first
      | (with_reducible refine And.intro (?_ : World.cell? (World.setCell (World.setCell (World.setCell w3 _ _) _ _) _ _) _ = _) ?_; exact (hC3.out |>.set 1 rfl |>.set 1 rfl |>.set 1 rfl).cell 0 0 rfl rfl; exact ⟨(hC3.out |>.set 1 rfl |>.set 1 rfl |>.set 1 rfl).cell 0 1 rfl rfl, (hC3.out |>.set 1 rfl |>.set 1 rfl |>.set 1 rfl).cell 0 2 rfl rfl, trivial⟩)
      | (with_reducible refine And.intro (?_ : World.cell? w3 _ = _) ?_; exact hC3.out.cell 0 0 rfl rfl; exact ⟨hC3.out.cell 0 1 rfl rfl, hC3.out.cell 0 2 rfl rfl, trivial⟩)
      | (with_reducible refine And.intro (?_ : World.cell? _ _ = _) ?_; exact hC.out.drew.cell 0 0 rfl rfl; exact ⟨hC.out.drew.cell 0 1 rfl rfl, hC.out.drew.cell 0 2 rfl rfl, trivial⟩))
    (first
      | (have _t := hC; go_at_call 41; refine (neg_b (hC.out.drew.r 0 rfl).z).mono ?_; rintro e w3 ⟨a3, n3, c3, m3, rfl, hz, hb⟩; have hC3 := Lib.hid ((hC.out.drew.call hb).pz hz); clear hb hz; have hC3_c10 := hC3.out.cell 1 0 rfl rfl; have hC3_f10 := hC3.out.free 1 0 rfl; have hC3_c11 := hC3.out.cell 1 1 rfl rfl; have hC3_f11 := hC3.out.free 1 1 rfl; have hC3_c12 := hC3.out.cell 1 2 rfl rfl; have hC3_f12 := hC3.out.free 1 2 rfl; clear _t hC)
      | fail)
  go_wp2
  refine ret_st (hC3.out |>.set 1 rfl |>.set 1 rfl |>.set 1 rfl) (v := .agg #[.slice a3 n3 c3, .bool m3, .slice d1 e1 f1]) (fun hF => ?_) rfl (fun hF => ⟨_, _, _, _, _, _, _, rfl, ⟨by rw [Rat.neg_num]; exact hF.z 1 rfl, by rw [Rat.neg_den]; exact (hF.r 0 rfl).d⟩, hF.be⟩)
  · have e0 := hF.cell 1 0 rfl rfl
    have e1 := hF.cell 1 1 rfl rfl
    have e2 := hF.cell 1 2 rfl rfl
    simp [results, Tryd.results45, go_sem, e0, e1, e2]

set_option maxRecDepth 100000 in
set_option maxHeartbeats 1000000 in
theorem rmul_any (a1 : Option Addr) (n1 c1 : Nat) (m1 : Bool) (d1 : Option Addr) (e1 f1 : Nat) (q1 : Rat) (a2 : Option Addr) (n2 c2 : Nat) (m2 : Bool) (d2 : Option Addr) (e2 f2 : Nat) (q2 : Rat) (w : World) (h1 : Rd w (.slice a1 n1 c1) m1 (.slice d1 e1 f1) q1) (h2 : Rd w (.slice a2 n2 c2) m2 (.slice d2 e2 f2) q2) (k1 k2 : Nat) (b1 : Bq k1 q1) (b2 : Bq k2 q2) (hk1 : k1 ≤ 40000) (hk2 : k2 ≤ 40000) :
    Calls Tryd.prog 50 #[.agg #[.slice a1 n1 c1, .bool m1, .slice d1 e1 f1], .agg #[.slice a2 n2 c2, .bool m2, .slice d2 e2 f2]] w (RetR w (Rat.divInt (q1.num * q2.num) (q1.den * q2.den))) := by
  have B1 := Lib.hid b1
  have B2 := Lib.hid b2
  clear b1 b2
  have hC := Lib.hid ((((((St.enter w).pr h1).pr h2).al (w.heap.size) #[.slice a1 n1 c1, .bool m1, .slice d1 e1 f1] 32 rfl rfl).al (w.heap.size + 1) #[.slice a2 n2 c2, .bool m2, .slice d2 e2 f2] 32 (by simp) rfl).al (w.heap.size + 2) #[.slice none 0 0, .bool false, .slice none 0 0] 32 (by simp) rfl)
  clear h1 h2
  go_enter Tryd.func50, Tryd.ntmps50
  go_wp2
  go_region_held3 (fun w' => w'.cell? ⟨w.heap.size, 0, none⟩ = some (.slice a1 n1 c1) ∧ w'.cell? ⟨w.heap.size, 1, none⟩ = some (.bool m1) ∧ w'.cell? ⟨w.heap.size, 2, none⟩ = some (.slice d1 e1 f1) ∧ w'.cell? ⟨w.heap.size + 1, 0, none⟩ = some (.slice a2 n2 c2) ∧ w'.cell? ⟨w.heap.size + 1, 1, none⟩ = some (.bool m2) ∧ w'.cell? ⟨w.heap.size + 1, 2, none⟩ = some (.slice d2 e2 f2) ∧ True)
    (first
      | (with_reducible refine And.intro (?_ : World.cell? (World.setCell (World.setCell (World.setCell w7 _ _) _ _) _ _) _ = _) ?_; exact (hC7.out |>.set 2 rfl |>.set 2 rfl |>.set 2 rfl).cell 0 0 rfl rfl; exact ⟨(hC7.out |>.set 2 rfl |>.set 2 rfl |>.set 2 rfl).cell 0 1 rfl rfl, (hC7.out |>.set 2 rfl |>.set 2 rfl |>.set 2 rfl).cell 0 2 rfl rfl, (hC7.out |>.set 2 rfl |>.set 2 rfl |>.set 2 rfl).cell 1 0 rfl rfl, (hC7.out |>.set 2 rfl |>.set 2 rfl |>.set 2 rfl).cell 1 1 rfl rfl, (hC7.out |>.set 2 rfl |>.set 2 rfl |>.set 2 rfl).cell 1 2 rfl rfl, trivial⟩)
      | (with_reducible refine And.intro (?_ : World.cell? w7 _ = _) ?_; exact hC7.out.cell 0 0 rfl rfl; exact ⟨hC7.out.cell 0 1 rfl rfl, hC7.out.cell 0 2 rfl rfl, hC7.out.cell 1 0 rfl rfl, hC7.out.cell 1 1 rfl rfl, hC7.out.cell 1 2 rfl rfl, trivial⟩)
      | (with_reducible refine And.intro (?_ : World.cell? w6 _ = _) ?_; exact hC6.out.cell 0 0 rfl rfl; exact ⟨hC6.out.cell 0 1 rfl rfl, hC6.out.cell 0 2 rfl rfl, hC6.out.cell 1 0 rfl rfl, hC6.out.cell 1 1 rfl rfl, hC6.out.cell 1 2 rfl rfl, trivial⟩)
      | (with_reducible refine And.intro (?_ : World.cell? w5 _ = _) ?_; exact hC5.out.cell 0 0 rfl rfl; exact ⟨hC5.out.cell 0 1 rfl rfl, hC5.out.cell 0 2 rfl rfl, hC5.out.cell 1 0 rfl rfl, hC5.out.cell 1 1 rfl rfl, hC5.out.cell 1 2 rfl rfl, trivial⟩)
      | (with_reducible refine And.intro (?_ : World.cell? w4 _ = _) ?_; exact hC4.out.cell 0 0 rfl rfl; exact ⟨hC4.out.cell 0 1 rfl rfl, hC4.out.cell 0 2 rfl rfl, hC4.out.cell 1 0 rfl rfl, hC4.out.cell 1 1 rfl rfl, hC4.out.cell 1 2 rfl rfl, trivial⟩)
      | (with_reducible refine And.intro (?_ : World.cell? w3 _ = _) ?_; exact hC3.out.cell 0 0 rfl rfl; exact ⟨hC3.out.cell 0 1 rfl rfl, hC3.out.cell 0 2 rfl rfl, hC3.out.cell 1 0 rfl rfl, hC3.out.cell 1 1 rfl rfl, hC3.out.cell 1 2 rfl rfl, trivial⟩)
      | (with_reducible refine And.intro (?_ : World.cell? _ _ = _) ?_; exact hC.out.drew.cell 0 0 rfl rfl; exact ⟨hC.out.drew.cell 0 1 rfl rfl, hC.out.drew.cell 0 2 rfl rfl, hC.out.drew.cell 1 0 rfl rfl, hC.out.drew.cell 1 1 rfl rfl, hC.out.drew.cell 1 2 rfl rfl, trivial⟩))
    (first
      | (have _t := hC6; go_at_call 56; refine (ratio_b (hC6.out.z 2 rfl) (hC6.out.z 5 rfl) (B1.out.num.mul B2.out.num) (B1.out.den.mul B2.out.den) (by omega) (by omega) (Int.mul_ne_zero (den_ne q1) (den_ne q2))).mono ?_; rintro e w7 ⟨a7, n7, c7, m7, d7, e7, f7, rfl, hz, hb⟩; have hC7 := Lib.hid ((hC6.out.call hb).pr hz); clear hb hz; have hC7_c20 := hC7.out.cell 2 0 rfl rfl; have hC7_f20 := hC7.out.free 2 0 rfl; have hC7_c21 := hC7.out.cell 2 1 rfl rfl; have hC7_f21 := hC7.out.free 2 1 rfl; have hC7_c22 := hC7.out.cell 2 2 rfl rfl; have hC7_f22 := hC7.out.free 2 2 rfl; clear _t hC6)
      | (have _t := hC5; go_at_call 21; refine (mul_b (hC5.out.z 3 rfl) (hC5.out.z 4 rfl) B1.out.den B2.out.den (by omega) (by omega)).mono ?_; rintro e w6 ⟨a6, n6, c6, m6, rfl, hz, hb⟩; have hC6 := Lib.hid ((hC5.out.call hb).pz hz); clear hb hz; clear _t hC5)
      | (have _t := hC4; go_at_call 36; refine (bottom_b (hC4.out.r 1 rfl) B2.out (by omega)).mono ?_; rintro e w5 ⟨a5, n5, c5, m5, rfl, hz, hb⟩; have hC5 := Lib.hid ((hC4.out.call hb).pz hz); clear hb hz; clear _t hC4)
      | (have _t := hC3; go_at_call 36; refine (bottom_b (hC3.out.r 0 rfl) B1.out (by omega)).mono ?_; rintro e w4 ⟨a4, n4, c4, m4, rfl, hz, hb⟩; have hC4 := Lib.hid ((hC3.out.call hb).pz hz); clear hb hz; clear _t hC3)
      | (have _t := hC; go_at_call 21; refine (mul_b (hC.out.drew.r 0 rfl).z (hC.out.drew.r 1 rfl).z B1.out.num B2.out.num (by omega) (by omega)).mono ?_; rintro e w3 ⟨a3, n3, c3, m3, rfl, hz, hb⟩; have hC3 := Lib.hid ((hC.out.drew.call hb).pz hz); clear hb hz; clear _t hC)
      | fail)
  go_wp2
  refine ret_st (hC7.out |>.set 2 rfl |>.set 2 rfl |>.set 2 rfl) (v := .agg #[.slice a7 n7 c7, .bool m7, .slice d7 e7 f7]) (fun hF => ?_) rfl (fun hF => ⟨_, _, _, _, _, _, _, rfl, hF.r 6 rfl, hF.be⟩)
  · have e0 := hF.cell 2 0 rfl rfl
    have e1 := hF.cell 2 1 rfl rfl
    have e2 := hF.cell 2 2 rfl rfl
    simp [results, Tryd.results50, go_sem, e0, e1, e2]

set_option maxRecDepth 100000 in
set_option maxHeartbeats 1000000 in
theorem rsign_any (a1 : Option Addr) (n1 c1 : Nat) (m1 : Bool) (d1 : Option Addr) (e1 f1 : Nat) (q1 : Rat) (w : World) (h1 : Rd w (.slice a1 n1 c1) m1 (.slice d1 e1 f1) q1) :
    Calls Tryd.prog 7 #[.agg #[.slice a1 n1 c1, .bool m1, .slice d1 e1 f1]] w (fun e w' => e = .returned (.int .i64 (sgnQ q1)) ∧ Below w.heap.size w w') := by
  have hC := Lib.hid (((St.enter w).pr h1).al (w.heap.size) #[.slice a1 n1 c1, .bool m1, .slice d1 e1 f1] 32 rfl rfl)
  clear h1
  go_enter Tryd.func7, Tryd.ntmps7
  have hC_c00 := hC.out.cell 0 0 rfl rfl
  have hC_f00 := hC.out.free 0 0 rfl
  have hC_c01 := hC.out.cell 0 1 rfl rfl
  have hC_f01 := hC.out.free 0 1 rfl
  go_wp2_with fail
  refine (sign_b (hC.out.r 0 rfl).z).mono ?_
  rintro e w3 ⟨rfl, hb⟩
  have hC3 := Lib.hid ((hC.out.call hb))
  clear hb
  clear hC
  go_wp2
  go_ret
  exact ⟨by rw [← sgn_num]; rfl, hC3.out.be⟩

end Go.Proofs.YtnimnoodpnhodaaDoor

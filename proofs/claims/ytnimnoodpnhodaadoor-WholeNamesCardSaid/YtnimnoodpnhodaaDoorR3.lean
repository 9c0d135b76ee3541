/- ratios: OfZ, Of, Ratio, Div -/
import Derived.Test.YtnimnoodpnhodaaDoorR2
namespace Go.Proofs.YtnimnoodpnhodaaDoor
open Go.RowKit Dig

set_option maxRecDepth 100000 in
set_option maxHeartbeats 1000000 in
theorem ofz_zero (a1 : Option Addr) (n1 c1 : Nat) (m1 : Bool) (z1 : Int) (a2 : Option Addr) (n2 c2 : Nat) (m2 : Bool) (z2 : Int) (w : World) (h1 : Zd w (.slice a1 n1 c1) m1 z1) (h2 : Zd w (.slice a2 n2 c2) m2 z2) (hz : z2 = 0) :
    Calls Tryd.prog 34 #[.agg #[.slice a1 n1 c1, .bool m1], .agg #[.slice a2 n2 c2, .bool m2]] w (RetRE w 0 9) := by
  have hn0 : ((n2 : Int) == 0) = true := by simpa using h2.len0.2 hz
  have HN := Lib.hid hn0
  clear hn0 hz
  have hC := Lib.hid ((((((St.enter w).pz h1).pz h2).al (w.heap.size) #[.slice a1 n1 c1, .bool m1] 27 rfl rfl).al (w.heap.size + 1) #[.slice a2 n2 c2, .bool m2] 27 (by simp) rfl).al (w.heap.size + 2) #[.slice none 0 0, .bool false, .slice none 0 0] 32 (by simp) rfl)
  clear h1 h2
  go_enter Tryd.func34, Tryd.ntmps34
  have hC_c10 := hC.out.cell 1 0 rfl rfl
  have hC_f10 := hC.out.free 1 0 rfl
  go_wp2_with fail
  refine (none_any _ _ _ _).mono ?_
  rintro e w3 ⟨rfl, hw⟩
  have hC3 := Lib.hid (hC.out.call (W' := w3) (by rw [hw]; exact (Below.refl _ _).alloc (Nat.le_refl _) _))
  clear hC hw
  rw [HN.out]
  have hC3_c20 := hC3.out.cell 2 0 rfl rfl
  have hC3_f20 := hC3.out.free 2 0 rfl
  have hC3_c21 := hC3.out.cell 2 1 rfl rfl
  have hC3_f21 := hC3.out.free 2 1 rfl
  have hC3_c22 := hC3.out.cell 2 2 rfl rfl
  have hC3_f22 := hC3.out.free 2 2 rfl
  go_wp2
  refine ret_st (hC3.out |>.set 2 rfl |>.set 2 rfl |>.set 2 rfl) (v := .tuple #[.agg #[.slice none 0 0, .bool false, .slice none 0 0], .int .i64 9]) (fun hF => ?_) rfl (fun hF => ⟨_, _, _, _, _, _, _, rfl, Rd.nil, hF.be⟩)
  · have e0 := hF.cell 2 0 rfl rfl
    have e1 := hF.cell 2 1 rfl rfl
    have e2 := hF.cell 2 2 rfl rfl
    simp [results, Tryd.results34, go_sem, e0, e1, e2]

set_option maxRecDepth 100000 in
set_option maxHeartbeats 1000000 in
theorem ofz_nz (a1 : Option Addr) (n1 c1 : Nat) (m1 : Bool) (z1 : Int) (a2 : Option Addr) (n2 c2 : Nat) (m2 : Bool) (z2 : Int) (w : World) (h1 : Zd w (.slice a1 n1 c1) m1 z1) (h2 : Zd w (.slice a2 n2 c2) m2 z2) (k1 k2 : Nat) (b1 : Bd k1 z1) (b2 : Bd k2 z2) (hk1 : k1 ≤ 200000) (hk2 : k2 ≤ 200000) (hz : z2 ≠ 0) :
    Calls Tryd.prog 34 #[.agg #[.slice a1 n1 c1, .bool m1], .agg #[.slice a2 n2 c2, .bool m2]] w (RetRE w (Rat.divInt z1 z2) 0) := by
  have hn0 : ((n2 : Int) == 0) = false := by simpa using fun e => hz (h2.len0.1 e)
  have HN := Lib.hid hn0
  have HZ := Lib.hid hz
  have B1 := Lib.hid b1
  have B2 := Lib.hid b2
  clear b1 b2
  clear hn0 hz
  have hC := Lib.hid ((((((St.enter w).pz h1).pz h2).al (w.heap.size) #[.slice a1 n1 c1, .bool m1] 27 rfl rfl).al (w.heap.size + 1) #[.slice a2 n2 c2, .bool m2] 27 (by simp) rfl).al (w.heap.size + 2) #[.slice none 0 0, .bool false, .slice none 0 0] 32 (by simp) rfl)
  clear h1 h2
  go_enter Tryd.func34, Tryd.ntmps34
  have hC_c10 := hC.out.cell 1 0 rfl rfl
  have hC_f10 := hC.out.free 1 0 rfl
  go_wp2_with fail
  refine (none_any _ _ _ _).mono ?_
  rintro e w3 ⟨rfl, hw⟩
  have hC3 := Lib.hid (hC.out.call (W' := w3) (by rw [hw]; exact (Below.refl _ _).alloc (Nat.le_refl _) _))
  clear hC hw
  rw [HN.out]
  have hC3_c00 := hC3.out.cell 0 0 rfl rfl
  have hC3_f00 := hC3.out.free 0 0 rfl
  have hC3_c01 := hC3.out.cell 0 1 rfl rfl
  have hC3_f01 := hC3.out.free 0 1 rfl
  have hC3_c10 := hC3.out.cell 1 0 rfl rfl
  have hC3_f10 := hC3.out.free 1 0 rfl
  have hC3_c11 := hC3.out.cell 1 1 rfl rfl
  have hC3_f11 := hC3.out.free 1 1 rfl
  go_wp2_with fail
  refine (ratio_b (hC3.out.z 0 rfl) (hC3.out.z 1 rfl) B1.out B2.out (by omega) (by omega) HZ.out).mono ?_
  rintro e w4 ⟨a4, n4, c4, m4, d4, e4, f4, rfl, hz, hb⟩
  have hC4 := Lib.hid ((hC3.out.call hb).pr hz)
  clear hb hz
  have hC4_c20 := hC4.out.cell 2 0 rfl rfl
  have hC4_f20 := hC4.out.free 2 0 rfl
  have hC4_c21 := hC4.out.cell 2 1 rfl rfl
  have hC4_f21 := hC4.out.free 2 1 rfl
  have hC4_c22 := hC4.out.cell 2 2 rfl rfl
  have hC4_f22 := hC4.out.free 2 2 rfl
  clear hC3
  go_wp2
  refine ret_st (hC4.out |>.set 2 rfl |>.set 2 rfl |>.set 2 rfl) (v := .tuple #[.agg #[.slice a4 n4 c4, .bool m4, .slice d4 e4 f4], .int .i64 0]) (fun hF => ?_) rfl (fun hF => ⟨_, _, _, _, _, _, _, rfl, hF.r 2 rfl, hF.be⟩)
  · have e0 := hF.cell 2 0 rfl rfl
    have e1 := hF.cell 2 1 rfl rfl
    have e2 := hF.cell 2 2 rfl rfl
    simp [results, Tryd.results34, go_sem, e0, e1, e2]

section
variable {w : World} {a1 : Option Addr} {n1 c1 : Nat} {m1 : Bool} {z1 : Int} {a2 : Option Addr} {n2 c2 : Nat} {m2 : Bool} {z2 : Int} {k1 k2 : Nat}
/-- what OfZ answers -/
def ofzE (z2 : Int) : Int := if z2 = 0 then 9 else 0
theorem ofz_b (h1 : Zd w (.slice a1 n1 c1) m1 z1) (h2 : Zd w (.slice a2 n2 c2) m2 z2) (b1 : Bd k1 z1) (b2 : Bd k2 z2) (hk1 : k1 ≤ 200000) (hk2 : k2 ≤ 200000) :
    Calls Tryd.prog 34 #[.agg #[.slice a1 n1 c1, .bool m1], .agg #[.slice a2 n2 c2, .bool m2]] w (RetRE w (Rat.divInt z1 z2) (ofzE z2)) := by
  by_cases hz : z2 = 0
  · have := ofz_zero _ _ _ _ _ _ _ _ _ _ _ h1 h2 hz
    unfold ofzE; rw [if_pos hz, hz, Rat.divInt_zero]; exact this
  · have := ofz_nz _ _ _ _ _ _ _ _ _ _ _ h1 h2 k1 k2 b1 b2 hk1 hk2 hz
    unfold ofzE; rw [if_neg hz]; exact this
end

set_option maxHeartbeats 1000000 in
theorem of_any (k : Int) (hk : -9223372036854775808 ≤ k ∧ k < 9223372036854775808) (w : World) : Calls Tryd.prog 9 #[.int .i64 k] w (RetR w (k : Rat)) := by
  have hC := Lib.hid ((St.enter w).al (w.heap.size) #[.slice none 0 0, .bool false, .slice none 0 0] 32 rfl rfl)
  go_enter Tryd.func9, Tryd.ntmps9
  go_wp2_with fail
  refine (int_any k hk _).mono ?_
  rintro e w3 ⟨a3, n3, c3, m3, rfl, hz, hb⟩
  have hC3 := Lib.hid ((hC.out.call hb).pz hz)
  clear hb hz
  clear hC
  go_wp2_with fail
  refine (whole_any _ _ _ _ _ _ (hC3.out.z 0 rfl)).mono ?_
  rintro e w4 ⟨a4, n4, c4, m4, d4, e4, f4, rfl, hz, hb⟩
  have hC4 := Lib.hid ((hC3.out.call hb).pr hz)
  clear hb hz
  have hC4_c00 := hC4.out.cell 0 0 rfl rfl
  have hC4_f00 := hC4.out.free 0 0 rfl
  have hC4_c01 := hC4.out.cell 0 1 rfl rfl
  have hC4_f01 := hC4.out.free 0 1 rfl
  have hC4_c02 := hC4.out.cell 0 2 rfl rfl
  have hC4_f02 := hC4.out.free 0 2 rfl
  clear hC3
  go_wp2
  refine ret_st (hC4.out |>.set 0 rfl |>.set 0 rfl |>.set 0 rfl) (v := .agg #[.slice a4 n4 c4, .bool m4, .slice d4 e4 f4]) (fun hF => ?_) rfl (fun hF => ⟨_, _, _, _, _, _, _, rfl, hF.r 1 rfl, hF.be⟩)
  · have e0 := hF.cell 0 0 rfl rfl
    have e1 := hF.cell 0 1 rfl rfl
    have e2 := hF.cell 0 2 rfl rfl
    simp [results, Tryd.results9, go_sem, e0, e1, e2]

set_option maxHeartbeats 1000000 in
theorem ratioI_any (x y : Int) (hx : -9223372036854775808 ≤ x ∧ x < 9223372036854775808) (hy : -9223372036854775808 ≤ y ∧ y < 9223372036854775808) (w : World) : Calls Tryd.prog 8 #[.int .i64 x, .int .i64 y] w (RetRE w (Rat.divInt x y) (ofzE y)) := by
  have hC := Lib.hid ((St.enter w).al (w.heap.size) #[.slice none 0 0, .bool false, .slice none 0 0] 32 rfl rfl)
  go_enter Tryd.func8, Tryd.ntmps8
  go_wp2_with fail
  refine (int_any x hx _).mono ?_
  rintro e w3 ⟨a3, n3, c3, m3, rfl, hz, hb⟩
  have hC3 := Lib.hid ((hC.out.call hb).pz hz)
  clear hb hz
  clear hC
  go_wp2_with fail
  refine (int_any y hy _).mono ?_
  rintro e w4 ⟨a4, n4, c4, m4, rfl, hz, hb⟩
  have hC4 := Lib.hid ((hC3.out.call hb).pz hz)
  clear hb hz
  clear hC3
  go_wp2_with fail
  refine (ofz_b (hC4.out.z 0 rfl) (hC4.out.z 1 rfl) (Bd.i64 hx) (Bd.i64 hy) (by omega) (by omega)).mono ?_
  rintro e w5 ⟨a5, n5, c5, m5, d5, e5, f5, rfl, hz, hb⟩
  have hC5 := Lib.hid ((hC4.out.call hb).pr hz)
  clear hb hz
  have hC5_c00 := hC5.out.cell 0 0 rfl rfl
  have hC5_f00 := hC5.out.free 0 0 rfl
  have hC5_c01 := hC5.out.cell 0 1 rfl rfl
  have hC5_f01 := hC5.out.free 0 1 rfl
  have hC5_c02 := hC5.out.cell 0 2 rfl rfl
  have hC5_f02 := hC5.out.free 0 2 rfl
  clear hC4
  go_wp2
  refine ret_st (hC5.out |>.set 0 rfl |>.set 0 rfl |>.set 0 rfl) (v := .tuple #[.agg #[.slice a5 n5 c5, .bool m5, .slice d5 e5 f5], .int .i64 (ofzE y)]) (fun hF => ?_) rfl (fun hF => ⟨_, _, _, _, _, _, _, rfl, hF.r 2 rfl, hF.be⟩)
  · have e0 := hF.cell 0 0 rfl rfl
    have e1 := hF.cell 0 1 rfl rfl
    have e2 := hF.cell 0 2 rfl rfl
    simp [results, Tryd.results8, go_sem, e0, e1, e2]

set_option maxRecDepth 100000 in
set_option maxHeartbeats 1000000 in
theorem rdiv_any (a1 : Option Addr) (n1 c1 : Nat) (m1 : Bool) (d1 : Option Addr) (e1 f1 : Nat) (q1 : Rat) (a2 : Option Addr) (n2 c2 : Nat) (m2 : Bool) (d2 : Option Addr) (e2 f2 : Nat) (q2 : Rat) (w : World) (h1 : Rd w (.slice a1 n1 c1) m1 (.slice d1 e1 f1) q1) (h2 : Rd w (.slice a2 n2 c2) m2 (.slice d2 e2 f2) q2) (k1 k2 : Nat) (b1 : Bq k1 q1) (b2 : Bq k2 q2) (hk1 : k1 ≤ 40000) (hk2 : k2 ≤ 40000) :
    Calls Tryd.prog 10 #[.agg #[.slice a1 n1 c1, .bool m1, .slice d1 e1 f1], .agg #[.slice a2 n2 c2, .bool m2, .slice d2 e2 f2]] w (RetRE w (Rat.divInt (q1.num * q2.den) (q1.den * q2.num)) (ofzE (q1.den * q2.num))) := by
  have B1 := Lib.hid b1
  have B2 := Lib.hid b2
  clear b1 b2
  have hC := Lib.hid ((((((St.enter w).pr h1).pr h2).al (w.heap.size) #[.slice a1 n1 c1, .bool m1, .slice d1 e1 f1] 32 rfl rfl).al (w.heap.size + 1) #[.slice a2 n2 c2, .bool m2, .slice d2 e2 f2] 32 (by simp) rfl).al (w.heap.size + 2) #[.slice none 0 0, .bool false, .slice none 0 0] 32 (by simp) rfl)
  clear h1 h2
  go_enter Tryd.func10, Tryd.ntmps10
  go_wp2
  go_region_held3 (fun w' => w'.cell? ⟨w.heap.size, 0, none⟩ = some (.slice a1 n1 c1) ∧ w'.cell? ⟨w.heap.size, 1, none⟩ = some (.bool m1) ∧ w'.cell? ⟨w.heap.size, 2, none⟩ = some (.slice d1 e1 f1) ∧ w'.cell? ⟨w.heap.size + 1, 0, none⟩ = some (.slice a2 n2 c2) ∧ w'.cell? ⟨w.heap.size + 1, 1, none⟩ = some (.bool m2) ∧ w'.cell? ⟨w.heap.size + 1, 2, none⟩ = some (.slice d2 e2 f2) ∧ True)
    (first
      | (with_reducible refine And.intro (?_ : World.cell? (World.setCell (World.setCell (World.setCell w7 _ _) _ _) _ _) _ = _) ?_; exact (hC7.out |>.set 2 rfl |>.set 2 rfl |>.set 2 rfl).cell 0 0 rfl rfl; exact ⟨(hC7.out |>.set 2 rfl |>.set 2 rfl |>.set 2 rfl).cell 0 1 rfl rfl, (hC7.out |>.set 2 rfl |>.set 2 rfl |>.set 2 rfl).cell 0 2 rfl rfl, (hC7.out |>.set 2 rfl |>.set 2 rfl |>.set 2 rfl).cell 1 0 rfl rfl, (hC7.out |>.set 2 rfl |>.set 2 rfl |>.set 2 rfl).cell 1 1 rfl rfl, (hC7.out |>.set 2 rfl |>.set 2 rfl |>.set 2 rfl).cell 1 2 rfl rfl, trivial⟩)
      | (with_reducible refine And.intro (?_ : World.cell? w7 _ = _) ?_; exact hC7.out.cell 0 0 rfl rfl; exact ⟨hC7.out.cell 0 1 rfl rfl, hC7.out.cell 0 2 rfl rfl, hC7.out.cell 1 0 rfl rfl, hC7.out.cell 1 1 rfl rfl, hC7.out.cell 1 2 rfl rfl, trivial⟩)
      | (with_reducible refine And.intro (?_ : World.cell? w6 _ = _) ?_; exact hC6.out.cell 0 0 rfl rfl; exact ⟨hC6.out.cell 0 1 rfl rfl, hC6.out.cell 0 2 rfl rfl, hC6.out.cell 1 0 rfl rfl, hC6.out.cell 1 1 rfl rfl, hC6.out.cell 1 2 rfl rfl, trivial⟩)
      | (with_reducible refine And.intro (?_ : World.cell? w5 _ = _) ?_; exact hC5.out.cell 0 0 rfl rfl; exact ⟨hC5.out.cell 0 1 rfl rfl, hC5.out.cell 0 2 rfl rfl, hC5.out.cell 1 0 rfl rfl, hC5.out.cell 1 1 rfl rfl, hC5.out.cell 1 2 rfl rfl, trivial⟩)
      | (with_reducible refine And.intro (?_ : World.cell? w4 _ = _) ?_; exact hC4.out.cell 0 0 rfl rfl; exact ⟨hC4.out.cell 0 1 rfl rfl, hC4.out.cell 0 2 rfl rfl, hC4.out.cell 1 0 rfl rfl, hC4.out.cell 1 1 rfl rfl, hC4.out.cell 1 2 rfl rfl, trivial⟩)
      | (with_reducible refine And.intro (?_ : World.cell? w3 _ = _) ?_; exact hC3.out.cell 0 0 rfl rfl; exact ⟨hC3.out.cell 0 1 rfl rfl, hC3.out.cell 0 2 rfl rfl, hC3.out.cell 1 0 rfl rfl, hC3.out.cell 1 1 rfl rfl, hC3.out.cell 1 2 rfl rfl, trivial⟩)
      | (with_reducible refine And.intro (?_ : World.cell? _ _ = _) ?_; exact hC.out.drew.cell 0 0 rfl rfl; exact ⟨hC.out.drew.cell 0 1 rfl rfl, hC.out.drew.cell 0 2 rfl rfl, hC.out.drew.cell 1 0 rfl rfl, hC.out.drew.cell 1 1 rfl rfl, hC.out.drew.cell 1 2 rfl rfl, trivial⟩))
    (first
      | (have _t := hC6; go_at_call 34; refine (ofz_b (hC6.out.z 3 rfl) (hC6.out.z 5 rfl) (B1.out.num.mul B2.out.den) (B1.out.den.mul B2.out.num) (by omega) (by omega)).mono ?_; rintro e w7 ⟨a7, n7, c7, m7, d7, e7, f7, rfl, hz, hb⟩; have hC7 := Lib.hid ((hC6.out.call hb).pr hz); clear hb hz; have hC7_c20 := hC7.out.cell 2 0 rfl rfl; have hC7_f20 := hC7.out.free 2 0 rfl; have hC7_c21 := hC7.out.cell 2 1 rfl rfl; have hC7_f21 := hC7.out.free 2 1 rfl; have hC7_c22 := hC7.out.cell 2 2 rfl rfl; have hC7_f22 := hC7.out.free 2 2 rfl; clear _t hC6)
      | (have _t := hC5; go_at_call 21; refine (mul_b (hC5.out.z 4 rfl) (hC5.out.r 1 rfl).z B1.out.den B2.out.num (by omega) (by omega)).mono ?_; rintro e w6 ⟨a6, n6, c6, m6, rfl, hz, hb⟩; have hC6 := Lib.hid ((hC5.out.call hb).pz hz); clear hb hz; clear _t hC5)
      | (have _t := hC4; go_at_call 36; refine (bottom_b (hC4.out.r 0 rfl) B1.out (by omega)).mono ?_; rintro e w5 ⟨a5, n5, c5, m5, rfl, hz, hb⟩; have hC5 := Lib.hid ((hC4.out.call hb).pz hz); clear hb hz; clear _t hC4)
      | (have _t := hC3; go_at_call 21; refine (mul_b (hC3.out.r 0 rfl).z (hC3.out.z 2 rfl) B1.out.num B2.out.den (by omega) (by omega)).mono ?_; rintro e w4 ⟨a4, n4, c4, m4, rfl, hz, hb⟩; have hC4 := Lib.hid ((hC3.out.call hb).pz hz); clear hb hz; clear _t hC3)
      | (have _t := hC; go_at_call 36; refine (bottom_b (hC.out.drew.r 1 rfl) B2.out (by omega)).mono ?_; rintro e w3 ⟨a3, n3, c3, m3, rfl, hz, hb⟩; have hC3 := Lib.hid ((hC.out.drew.call hb).pz hz); clear hb hz; clear _t hC)
      | fail)
  go_wp2
  refine ret_st (hC7.out |>.set 2 rfl |>.set 2 rfl |>.set 2 rfl) (v := .tuple #[.agg #[.slice a7 n7 c7, .bool m7, .slice d7 e7 f7], .int .i64 (ofzE (q1.den * q2.num))]) (fun hF => ?_) rfl (fun hF => ⟨_, _, _, _, _, _, _, rfl, hF.r 6 rfl, hF.be⟩)
  · have e0 := hF.cell 2 0 rfl rfl
    have e1 := hF.cell 2 1 rfl rfl
    have e2 := hF.cell 2 2 rfl rfl
    simp [results, Tryd.results10, go_sem, e0, e1, e2]

end Go.Proofs.YtnimnoodpnhodaaDoor

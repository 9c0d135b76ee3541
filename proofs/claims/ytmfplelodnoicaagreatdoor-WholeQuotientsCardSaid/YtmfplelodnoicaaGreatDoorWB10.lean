/- the law WholeQuotients: its walk -/
import Derived.Test.YtmfplelodnoicaaGreatDoorWB1
import Derived.Test.YtmfplelodnoicaaGreatDoorWBZ
import Derived.Test.YtmfplelodnoicaaGreatDoorWB8
namespace Go.Proofs.YtmfplelodnoicaaGreatDoor
open Go.RowKit Dig

set_option maxRecDepth 100000 in
set_option maxHeartbeats 16000000 in
theorem quots_0 (A1 B1 C1 P1 : Int) (A2 B2 C2 P2 : Int) (w : World) (hA1 : -9223372036854775808 ≤ A1 ∧ A1 < 9223372036854775808) (hB1 : -9223372036854775808 ≤ B1 ∧ B1 < 9223372036854775808) (hC1 : -9223372036854775808 ≤ C1 ∧ C1 < 9223372036854775808) (hP1 : 0 ≤ P1 ∧ P1 < 256) (hA2 : -9223372036854775808 ≤ A2 ∧ A2 < 9223372036854775808) (hB2 : -9223372036854775808 ≤ B2 ∧ B2 < 9223372036854775808) (hC2 : -9223372036854775808 ≤ C2 ∧ C2 < 9223372036854775808) (hP2 : 0 ≤ P2 ∧ P2 < 256) (h0 : big A2 B2 C2 P2 = 0) :
    Calls Tryz.prog 3 #[.agg #[.int .i64 A1, .int .i64 B1, .int .i64 C1, .int .u8 P1], .agg #[.int .i64 A2, .int .i64 B2, .int .i64 C2, .int .u8 P2]] w (fun e w' => e = .returned (.bool true) ∧ Below w.heap.size w w') := by
  obtain ⟨x1, h1, b1⟩ : ∃ x : Int, big A1 B1 C1 P1 = x ∧ Bd 772 x := ⟨_, rfl, big_bd hA1 hB1 hC1⟩
  have H1 := Lib.hid h1
  have E1 := Lib.hid b1
  clear h1 b1
  have HA1 := Lib.hid hA1
  clear hA1
  have HB1 := Lib.hid hB1
  clear hB1
  have HC1 := Lib.hid hC1
  clear hC1
  have HP1 := Lib.hid hP1
  clear hP1
  obtain ⟨x2, h1, b1⟩ : ∃ x : Int, big A2 B2 C2 P2 = x ∧ Bd 772 x := ⟨_, rfl, big_bd hA2 hB2 hC2⟩
  have H2 := Lib.hid h1
  have E2 := Lib.hid b1
  clear h1 b1
  have HA2 := Lib.hid hA2
  clear hA2
  have HB2 := Lib.hid hB2
  clear hB2
  have HC2 := Lib.hid hC2
  clear hC2
  have HP2 := Lib.hid hP2
  clear hP2
  have hC := Lib.hid (((St.enter w).al (w.heap.size) #[.int .i64 A1, .int .i64 B1, .int .i64 C1, .int .u8 P1] 23 rfl rfl).al (w.heap.size + 1) #[.int .i64 A2, .int .i64 B2, .int .i64 C2, .int .u8 P2] 23 (by simp) rfl)
  have HB0 : Hid (x2 = 0) := Lib.hid (by rw [← H2.out]; exact h0)
  clear h0
  go_enter Tryz.func3, Tryz.ntmps3
  have y0 := hC.out.cell 0 0 rfl rfl
  have y1 := hC.out.cell 0 1 rfl rfl
  have y2 := hC.out.cell 0 2 rfl rfl
  have y3 := hC.out.cell 0 3 rfl rfl
  go_wp2_with fail
  refine (bothZ_any A1 B1 C1 P1 _ HA1.out HB1.out HC1.out HP1.out).mono ?_
  rintro e w1 ⟨a1, n1, c1, m1, s11, a11, n11, c11, rfl, hz, hn, hb⟩
  rw [H1.out] at hz hn
  have hC1 := Lib.hid ((((hC.out.call hb).pz hz).pn hn |>.al w1.heap.size #[.slice a1 n1 c1, .bool m1] 28 rfl rfl).al (w1.heap.size + 1) #[.int .i64 s11, .slice a11 n11 c11] 31 (by simp) rfl)
  clear hz hn hb hC y0 y1 y2 y3
  have y0 := hC1.out.cell 1 0 rfl rfl
  have y1 := hC1.out.cell 1 1 rfl rfl
  have y2 := hC1.out.cell 1 2 rfl rfl
  have y3 := hC1.out.cell 1 3 rfl rfl
  go_wp2_with fail
  refine (bothZ_any A2 B2 C2 P2 _ HA2.out HB2.out HC2.out HP2.out).mono ?_
  rintro e w2 ⟨a2, n2, c2, m2, s12, a12, n12, c12, rfl, hz, hn, hb⟩
  rw [H2.out] at hz hn
  have hC2 := Lib.hid ((((hC1.out.call hb).pz hz).pn hn |>.al w2.heap.size #[.slice a2 n2 c2, .bool m2] 28 rfl rfl).al (w2.heap.size + 1) #[.int .i64 s12, .slice a12 n12 c12] 31 (by simp) rfl)
  clear hz hn hb hC1 y0 y1 y2 y3
  go_wp2
  refine wp_gen ((hC2.out.pick [0, 1, 2, 3] (rs' := [fun V => Zd V (.slice a1 n1 c1) m1 (x1), fun V => Nz V s11 (.slice a11 n11 c11) (x1), fun V => Zd V (.slice a2 n2 c2) m2 (x2), fun V => Nz V s12 (.slice a12 n12 c12) (x2)]) rfl).bpick [2, 3, 4, 5] (by decide) (bs' := [(w1.heap.size, #[.slice a1 n1 c1, .bool m1], 28), (w1.heap.size + 1, #[.int .i64 s11, .slice a11 n11 c11], 31), (w2.heap.size, #[.slice a2 n2 c2, .bool m2], 28), (w2.heap.size + 1, #[.int .i64 s12, .slice a12 n12 c12], 31)]) rfl) ?_
  intro W hc
  clear hC2
  have hC0 := Lib.hid hc
  clear hc
  have ds : (s12 == 0) = true := by
    have h := (hC0.out.n 3 rfl).s0
    have h2 : s12 = 0 := h.2.2 HB0.out
    simpa using h2
  go_region_held3 (fun w' => w'.cell? ⟨w1.heap.size, 0, none⟩ = some (.slice a1 n1 c1) ∧ w'.cell? ⟨w1.heap.size, 1, none⟩ = some (.bool m1) ∧ w'.cell? ⟨w1.heap.size + 1, 0, none⟩ = some (.int .i64 s11) ∧ w'.cell? ⟨w1.heap.size + 1, 1, none⟩ = some (.slice a11 n11 c11) ∧ w'.cell? ⟨w2.heap.size, 0, none⟩ = some (.slice a2 n2 c2) ∧ w'.cell? ⟨w2.heap.size, 1, none⟩ = some (.bool m2) ∧ w'.cell? ⟨w2.heap.size + 1, 0, none⟩ = some (.int .i64 s12) ∧ w'.cell? ⟨w2.heap.size + 1, 1, none⟩ = some (.slice a12 n12 c12) ∧ True)
    (first
      | (with_reducible refine And.intro (?_ : World.cell? w32 _ = _) ?_; exact hC32.out.cell 0 0 rfl rfl; exact ⟨hC32.out.cell 0 1 rfl rfl, hC32.out.cell 1 0 rfl rfl, hC32.out.cell 1 1 rfl rfl, hC32.out.cell 2 0 rfl rfl, hC32.out.cell 2 1 rfl rfl, hC32.out.cell 3 0 rfl rfl, hC32.out.cell 3 1 rfl rfl, trivial⟩)
      | (with_reducible refine And.intro (?_ : World.cell? w31 _ = _) ?_; exact hC31.out.cell 0 0 rfl rfl; exact ⟨hC31.out.cell 0 1 rfl rfl, hC31.out.cell 1 0 rfl rfl, hC31.out.cell 1 1 rfl rfl, hC31.out.cell 2 0 rfl rfl, hC31.out.cell 2 1 rfl rfl, hC31.out.cell 3 0 rfl rfl, hC31.out.cell 3 1 rfl rfl, trivial⟩)
      | (with_reducible refine And.intro (?_ : World.cell? w30 _ = _) ?_; exact hC30.out.cell 0 0 rfl rfl; exact ⟨hC30.out.cell 0 1 rfl rfl, hC30.out.cell 1 0 rfl rfl, hC30.out.cell 1 1 rfl rfl, hC30.out.cell 2 0 rfl rfl, hC30.out.cell 2 1 rfl rfl, hC30.out.cell 3 0 rfl rfl, hC30.out.cell 3 1 rfl rfl, trivial⟩)
      | (with_reducible refine And.intro (?_ : World.cell? (World.drew W) _ = _) ?_; exact hC0.out.drew.cell 0 0 rfl rfl; exact ⟨hC0.out.drew.cell 0 1 rfl rfl, hC0.out.drew.cell 1 0 rfl rfl, hC0.out.drew.cell 1 1 rfl rfl, hC0.out.drew.cell 2 0 rfl rfl, hC0.out.drew.cell 2 1 rfl rfl, hC0.out.drew.cell 3 0 rfl rfl, hC0.out.drew.cell 3 1 rfl rfl, trivial⟩))
    (first
      | (have _t := hC31; go_at_call 14; refine (sameZ_b (hC31.out.z 4 rfl) (hC31.out.n 5 rfl) ((E1.out).gcd (E2.out)) (by omega)).mono ?_; rintro e w32 ⟨rfl, hb⟩; have hC32 : Hid (St w w32 [(w1.heap.size, #[.slice a1 n1 c1, .bool m1], 28), (w1.heap.size + 1, #[.int .i64 s11, .slice a11 n11 c11], 31), (w2.heap.size, #[.slice a2 n2 c2, .bool m2], 28), (w2.heap.size + 1, #[.int .i64 s12, .slice a12 n12 c12], 31)] [fun V => Zd V (.slice a1 n1 c1) m1 (x1), fun V => Nz V s11 (.slice a11 n11 c11) (x1), fun V => Zd V (.slice a2 n2 c2) m2 (x2), fun V => Nz V s12 (.slice a12 n12 c12) (x2)]) := Lib.hid (St.pick ((hC31.out.call hb)) [0, 1, 2, 3] rfl); clear hb; clear _t hC31)
      | (have _t := hC30; go_at_call 16; refine (gcdN_b (hC30.out.n 1 rfl) (hC30.out.n 3 rfl) E1.out E2.out (by omega)).mono ?_; rintro e w31 ⟨s31, a31, n31, c31, rfl, hz, hb⟩; have hC31 : Hid (St w w31 [(w1.heap.size, #[.slice a1 n1 c1, .bool m1], 28), (w1.heap.size + 1, #[.int .i64 s11, .slice a11 n11 c11], 31), (w2.heap.size, #[.slice a2 n2 c2, .bool m2], 28), (w2.heap.size + 1, #[.int .i64 s12, .slice a12 n12 c12], 31)] [fun V => Zd V (.slice a1 n1 c1) m1 (x1), fun V => Nz V s11 (.slice a11 n11 c11) (x1), fun V => Zd V (.slice a2 n2 c2) m2 (x2), fun V => Nz V s12 (.slice a12 n12 c12) (x2), fun V => Zd V (.slice a30 n30 c30) m30 (((Int.gcd (x1) (x2) : Nat) : Int)), fun V => Nz V s31 (.slice a31 n31 c31) (((Int.gcd (x1) (x2) : Nat) : Int))]) := Lib.hid (St.pick ((hC30.out.call hb).pn hz) [0, 1, 2, 3, 4, 5] rfl); clear hb hz; clear _t hC30)
      | (have _t := hC0; go_at_call 15; refine (gcd_b (hC0.out.drew.z 0 rfl) (hC0.out.drew.z 2 rfl) E1.out E2.out (by omega) (by omega)).mono ?_; rintro e w30 ⟨a30, n30, c30, m30, rfl, hz, hb⟩; have hC30 : Hid (St w w30 [(w1.heap.size, #[.slice a1 n1 c1, .bool m1], 28), (w1.heap.size + 1, #[.int .i64 s11, .slice a11 n11 c11], 31), (w2.heap.size, #[.slice a2 n2 c2, .bool m2], 28), (w2.heap.size + 1, #[.int .i64 s12, .slice a12 n12 c12], 31)] [fun V => Zd V (.slice a1 n1 c1) m1 (x1), fun V => Nz V s11 (.slice a11 n11 c11) (x1), fun V => Zd V (.slice a2 n2 c2) m2 (x2), fun V => Nz V s12 (.slice a12 n12 c12) (x2), fun V => Zd V (.slice a30 n30 c30) m30 (((Int.gcd (x1) (x2) : Nat) : Int))]) := Lib.hid (St.pick ((hC0.out.drew.call hb).pz hz) [0, 1, 2, 3, 4] rfl); clear hb hz; clear _t hC0)
      | fail)
  go_wp2_with fail
  have y00 := hC32.out.cell 0 0 rfl rfl
  have y01 := hC32.out.cell 0 1 rfl rfl
  have y20 := hC32.out.cell 2 0 rfl rfl
  have y21 := hC32.out.cell 2 1 rfl rfl
  go_wp2_with fail
  refine (quotient_zero _ _ _ _ _ _ _ _ _ _ _ (hC32.out.z 0 rfl) (hC32.out.z 2 rfl) HB0.out).mono ?_
  rintro e w33 ⟨a33, n33, c33, m33, a34, n34, c34, m34, rfl, hz, hz2, hb⟩
  have hC33 : Hid (St w _ [(w1.heap.size, #[.slice a1 n1 c1, .bool m1], 28), (w1.heap.size + 1, #[.int .i64 s11, .slice a11 n11 c11], 31), (w2.heap.size, #[.slice a2 n2 c2, .bool m2], 28), (w2.heap.size + 1, #[.int .i64 s12, .slice a12 n12 c12], 31), (w33.heap.size, #[.slice a33 n33 c33, .bool m33], 28), (w33.heap.size + 1, #[.slice a34 n34 c34, .bool m34], 28)] [fun V => Zd V (.slice a1 n1 c1) m1 (x1), fun V => Nz V s11 (.slice a11 n11 c11) (x1), fun V => Zd V (.slice a2 n2 c2) m2 (x2), fun V => Nz V s12 (.slice a12 n12 c12) (x2), fun V => Zd V (.slice a33 n33 c33) m33 (0), fun V => Zd V (.slice a34 n34 c34) m34 (0)]) := Lib.hid (((hC32.out.call hb).pz hz |>.pz hz2).al w33.heap.size #[.slice a33 n33 c33, .bool m33] 28 rfl rfl |>.al (w33.heap.size + 1) #[.slice a34 n34 c34, .bool m34] 28 (by simp) rfl)
  clear hb hz hz2 hC32
  clear y00 y01 y20 y21
  have y30 := hC33.out.cell 3 0 rfl rfl
  have y31 := hC33.out.cell 3 1 rfl rfl
  have y40 := hC33.out.cell 4 0 rfl rfl
  have y41 := hC33.out.cell 4 1 rfl rfl
  go_wp2_with fail
  refine (sign_is (hC33.out.z 4 rfl) (sgn_0 rfl)).mono ?_
  rintro e w35 ⟨rfl, hb⟩
  have hC35 : Hid (St w w35 [(w1.heap.size, #[.slice a1 n1 c1, .bool m1], 28), (w1.heap.size + 1, #[.int .i64 s11, .slice a11 n11 c11], 31), (w2.heap.size, #[.slice a2 n2 c2, .bool m2], 28), (w2.heap.size + 1, #[.int .i64 s12, .slice a12 n12 c12], 31), (w33.heap.size, #[.slice a33 n33 c33, .bool m33], 28), (w33.heap.size + 1, #[.slice a34 n34 c34, .bool m34], 28)] [fun V => Zd V (.slice a1 n1 c1) m1 (x1), fun V => Nz V s11 (.slice a11 n11 c11) (x1), fun V => Zd V (.slice a2 n2 c2) m2 (x2), fun V => Nz V s12 (.slice a12 n12 c12) (x2), fun V => Zd V (.slice a33 n33 c33) m33 (0), fun V => Zd V (.slice a34 n34 c34) m34 (0)]) := Lib.hid (hC33.out.call hb)
  clear hb hC33
  clear y30 y31 y40 y41
  have y50 := hC35.out.cell 5 0 rfl rfl
  have y51 := hC35.out.cell 5 1 rfl rfl
  go_wp2_with fail
  refine (sign_is (hC35.out.z 5 rfl) (sgn_0 rfl)).mono ?_
  rintro e w36 ⟨rfl, hb⟩
  have hC36 : Hid (St w w36 [(w1.heap.size, #[.slice a1 n1 c1, .bool m1], 28), (w1.heap.size + 1, #[.int .i64 s11, .slice a11 n11 c11], 31), (w2.heap.size, #[.slice a2 n2 c2, .bool m2], 28), (w2.heap.size + 1, #[.int .i64 s12, .slice a12 n12 c12], 31), (w33.heap.size, #[.slice a33 n33 c33, .bool m33], 28), (w33.heap.size + 1, #[.slice a34 n34 c34, .bool m34], 28)] [fun V => Zd V (.slice a1 n1 c1) m1 (x1), fun V => Nz V s11 (.slice a11 n11 c11) (x1), fun V => Zd V (.slice a2 n2 c2) m2 (x2), fun V => Nz V s12 (.slice a12 n12 c12) (x2), fun V => Zd V (.slice a33 n33 c33) m33 (0), fun V => Zd V (.slice a34 n34 c34) m34 (0)]) := Lib.hid (hC35.out.call hb)
  clear hb hC35
  clear y50 y51
  go_wp2_with fail
  refine (awake_any _).mono ?_
  rintro e w37 ⟨rfl, hb⟩
  have hC37 : Hid (St w w37 [(w1.heap.size, #[.slice a1 n1 c1, .bool m1], 28), (w1.heap.size + 1, #[.int .i64 s11, .slice a11 n11 c11], 31), (w2.heap.size, #[.slice a2 n2 c2, .bool m2], 28), (w2.heap.size + 1, #[.int .i64 s12, .slice a12 n12 c12], 31), (w33.heap.size, #[.slice a33 n33 c33, .bool m33], 28), (w33.heap.size + 1, #[.slice a34 n34 c34, .bool m34], 28)] [fun V => Zd V (.slice a1 n1 c1) m1 (x1), fun V => Nz V s11 (.slice a11 n11 c11) (x1), fun V => Zd V (.slice a2 n2 c2) m2 (x2), fun V => Nz V s12 (.slice a12 n12 c12) (x2), fun V => Zd V (.slice a33 n33 c33) m33 (0), fun V => Zd V (.slice a34 n34 c34) m34 (0)]) := Lib.hid (hC36.out.call hb)
  clear hb hC36
  go_wp2
  go_ret
  exact ⟨rfl, hC37.out.be⟩

set_option maxRecDepth 100000 in
set_option maxHeartbeats 16000000 in
theorem quots_n (A1 B1 C1 P1 : Int) (A2 B2 C2 P2 : Int) (w : World) (hA1 : -9223372036854775808 ≤ A1 ∧ A1 < 9223372036854775808) (hB1 : -9223372036854775808 ≤ B1 ∧ B1 < 9223372036854775808) (hC1 : -9223372036854775808 ≤ C1 ∧ C1 < 9223372036854775808) (hP1 : 0 ≤ P1 ∧ P1 < 256) (hA2 : -9223372036854775808 ≤ A2 ∧ A2 < 9223372036854775808) (hB2 : -9223372036854775808 ≤ B2 ∧ B2 < 9223372036854775808) (hC2 : -9223372036854775808 ≤ C2 ∧ C2 < 9223372036854775808) (hP2 : 0 ≤ P2 ∧ P2 < 256) (h0 : big A2 B2 C2 P2 ≠ 0) :
    Calls Tryz.prog 3 #[.agg #[.int .i64 A1, .int .i64 B1, .int .i64 C1, .int .u8 P1], .agg #[.int .i64 A2, .int .i64 B2, .int .i64 C2, .int .u8 P2]] w (fun e w' => e = .returned (.bool true) ∧ Below w.heap.size w w') := by
  obtain ⟨x1, h1, b1⟩ : ∃ x : Int, big A1 B1 C1 P1 = x ∧ Bd 772 x := ⟨_, rfl, big_bd hA1 hB1 hC1⟩
  have H1 := Lib.hid h1
  have E1 := Lib.hid b1
  clear h1 b1
  have HA1 := Lib.hid hA1
  clear hA1
  have HB1 := Lib.hid hB1
  clear hB1
  have HC1 := Lib.hid hC1
  clear hC1
  have HP1 := Lib.hid hP1
  clear hP1
  obtain ⟨x2, h1, b1⟩ : ∃ x : Int, big A2 B2 C2 P2 = x ∧ Bd 772 x := ⟨_, rfl, big_bd hA2 hB2 hC2⟩
  have H2 := Lib.hid h1
  have E2 := Lib.hid b1
  clear h1 b1
  have HA2 := Lib.hid hA2
  clear hA2
  have HB2 := Lib.hid hB2
  clear hB2
  have HC2 := Lib.hid hC2
  clear hC2
  have HP2 := Lib.hid hP2
  clear hP2
  have hC := Lib.hid (((St.enter w).al (w.heap.size) #[.int .i64 A1, .int .i64 B1, .int .i64 C1, .int .u8 P1] 23 rfl rfl).al (w.heap.size + 1) #[.int .i64 A2, .int .i64 B2, .int .i64 C2, .int .u8 P2] 23 (by simp) rfl)
  have HB0 : Hid (x2 ≠ 0) := Lib.hid (by rw [← H2.out]; exact h0)
  clear h0
  go_enter Tryz.func3, Tryz.ntmps3
  have y0 := hC.out.cell 0 0 rfl rfl
  have y1 := hC.out.cell 0 1 rfl rfl
  have y2 := hC.out.cell 0 2 rfl rfl
  have y3 := hC.out.cell 0 3 rfl rfl
  go_wp2_with fail
  refine (bothZ_any A1 B1 C1 P1 _ HA1.out HB1.out HC1.out HP1.out).mono ?_
  rintro e w1 ⟨a1, n1, c1, m1, s11, a11, n11, c11, rfl, hz, hn, hb⟩
  rw [H1.out] at hz hn
  have hC1 := Lib.hid ((((hC.out.call hb).pz hz).pn hn |>.al w1.heap.size #[.slice a1 n1 c1, .bool m1] 28 rfl rfl).al (w1.heap.size + 1) #[.int .i64 s11, .slice a11 n11 c11] 31 (by simp) rfl)
  clear hz hn hb hC y0 y1 y2 y3
  have y0 := hC1.out.cell 1 0 rfl rfl
  have y1 := hC1.out.cell 1 1 rfl rfl
  have y2 := hC1.out.cell 1 2 rfl rfl
  have y3 := hC1.out.cell 1 3 rfl rfl
  go_wp2_with fail
  refine (bothZ_any A2 B2 C2 P2 _ HA2.out HB2.out HC2.out HP2.out).mono ?_
  rintro e w2 ⟨a2, n2, c2, m2, s12, a12, n12, c12, rfl, hz, hn, hb⟩
  rw [H2.out] at hz hn
  have hC2 := Lib.hid ((((hC1.out.call hb).pz hz).pn hn |>.al w2.heap.size #[.slice a2 n2 c2, .bool m2] 28 rfl rfl).al (w2.heap.size + 1) #[.int .i64 s12, .slice a12 n12 c12] 31 (by simp) rfl)
  clear hz hn hb hC1 y0 y1 y2 y3
  go_wp2
  refine wp_gen ((hC2.out.pick [0, 1, 2, 3] (rs' := [fun V => Zd V (.slice a1 n1 c1) m1 (x1), fun V => Nz V s11 (.slice a11 n11 c11) (x1), fun V => Zd V (.slice a2 n2 c2) m2 (x2), fun V => Nz V s12 (.slice a12 n12 c12) (x2)]) rfl).bpick [2, 3, 4, 5] (by decide) (bs' := [(w1.heap.size, #[.slice a1 n1 c1, .bool m1], 28), (w1.heap.size + 1, #[.int .i64 s11, .slice a11 n11 c11], 31), (w2.heap.size, #[.slice a2 n2 c2, .bool m2], 28), (w2.heap.size + 1, #[.int .i64 s12, .slice a12 n12 c12], 31)]) rfl) ?_
  intro W hc
  clear hC2
  have hC0 := Lib.hid hc
  clear hc
  have ds : (s12 == 0) = false := by
    have h := (hC0.out.n 3 rfl).s0
    have h2 : s12 ≠ 0 := fun e => HB0.out (h.2.1 e)
    simpa using h2
  go_region_held3 (fun w' => w'.cell? ⟨w1.heap.size, 0, none⟩ = some (.slice a1 n1 c1) ∧ w'.cell? ⟨w1.heap.size, 1, none⟩ = some (.bool m1) ∧ w'.cell? ⟨w1.heap.size + 1, 0, none⟩ = some (.int .i64 s11) ∧ w'.cell? ⟨w1.heap.size + 1, 1, none⟩ = some (.slice a11 n11 c11) ∧ w'.cell? ⟨w2.heap.size, 0, none⟩ = some (.slice a2 n2 c2) ∧ w'.cell? ⟨w2.heap.size, 1, none⟩ = some (.bool m2) ∧ w'.cell? ⟨w2.heap.size + 1, 0, none⟩ = some (.int .i64 s12) ∧ w'.cell? ⟨w2.heap.size + 1, 1, none⟩ = some (.slice a12 n12 c12) ∧ True)
    (first
      | (with_reducible refine And.intro (?_ : World.cell? w32 _ = _) ?_; exact hC32.out.cell 0 0 rfl rfl; exact ⟨hC32.out.cell 0 1 rfl rfl, hC32.out.cell 1 0 rfl rfl, hC32.out.cell 1 1 rfl rfl, hC32.out.cell 2 0 rfl rfl, hC32.out.cell 2 1 rfl rfl, hC32.out.cell 3 0 rfl rfl, hC32.out.cell 3 1 rfl rfl, trivial⟩)
      | (with_reducible refine And.intro (?_ : World.cell? w31 _ = _) ?_; exact hC31.out.cell 0 0 rfl rfl; exact ⟨hC31.out.cell 0 1 rfl rfl, hC31.out.cell 1 0 rfl rfl, hC31.out.cell 1 1 rfl rfl, hC31.out.cell 2 0 rfl rfl, hC31.out.cell 2 1 rfl rfl, hC31.out.cell 3 0 rfl rfl, hC31.out.cell 3 1 rfl rfl, trivial⟩)
      | (with_reducible refine And.intro (?_ : World.cell? w30 _ = _) ?_; exact hC30.out.cell 0 0 rfl rfl; exact ⟨hC30.out.cell 0 1 rfl rfl, hC30.out.cell 1 0 rfl rfl, hC30.out.cell 1 1 rfl rfl, hC30.out.cell 2 0 rfl rfl, hC30.out.cell 2 1 rfl rfl, hC30.out.cell 3 0 rfl rfl, hC30.out.cell 3 1 rfl rfl, trivial⟩)
      | (with_reducible refine And.intro (?_ : World.cell? (World.drew W) _ = _) ?_; exact hC0.out.drew.cell 0 0 rfl rfl; exact ⟨hC0.out.drew.cell 0 1 rfl rfl, hC0.out.drew.cell 1 0 rfl rfl, hC0.out.drew.cell 1 1 rfl rfl, hC0.out.drew.cell 2 0 rfl rfl, hC0.out.drew.cell 2 1 rfl rfl, hC0.out.drew.cell 3 0 rfl rfl, hC0.out.drew.cell 3 1 rfl rfl, trivial⟩))
    (first
      | (have _t := hC31; go_at_call 14; refine (sameZ_b (hC31.out.z 4 rfl) (hC31.out.n 5 rfl) ((E1.out).gcd (E2.out)) (by omega)).mono ?_; rintro e w32 ⟨rfl, hb⟩; have hC32 : Hid (St w w32 [(w1.heap.size, #[.slice a1 n1 c1, .bool m1], 28), (w1.heap.size + 1, #[.int .i64 s11, .slice a11 n11 c11], 31), (w2.heap.size, #[.slice a2 n2 c2, .bool m2], 28), (w2.heap.size + 1, #[.int .i64 s12, .slice a12 n12 c12], 31)] [fun V => Zd V (.slice a1 n1 c1) m1 (x1), fun V => Nz V s11 (.slice a11 n11 c11) (x1), fun V => Zd V (.slice a2 n2 c2) m2 (x2), fun V => Nz V s12 (.slice a12 n12 c12) (x2)]) := Lib.hid (St.pick ((hC31.out.call hb)) [0, 1, 2, 3] rfl); clear hb; clear _t hC31)
      | (have _t := hC30; go_at_call 16; refine (gcdN_b (hC30.out.n 1 rfl) (hC30.out.n 3 rfl) E1.out E2.out (by omega)).mono ?_; rintro e w31 ⟨s31, a31, n31, c31, rfl, hz, hb⟩; have hC31 : Hid (St w w31 [(w1.heap.size, #[.slice a1 n1 c1, .bool m1], 28), (w1.heap.size + 1, #[.int .i64 s11, .slice a11 n11 c11], 31), (w2.heap.size, #[.slice a2 n2 c2, .bool m2], 28), (w2.heap.size + 1, #[.int .i64 s12, .slice a12 n12 c12], 31)] [fun V => Zd V (.slice a1 n1 c1) m1 (x1), fun V => Nz V s11 (.slice a11 n11 c11) (x1), fun V => Zd V (.slice a2 n2 c2) m2 (x2), fun V => Nz V s12 (.slice a12 n12 c12) (x2), fun V => Zd V (.slice a30 n30 c30) m30 (((Int.gcd (x1) (x2) : Nat) : Int)), fun V => Nz V s31 (.slice a31 n31 c31) (((Int.gcd (x1) (x2) : Nat) : Int))]) := Lib.hid (St.pick ((hC30.out.call hb).pn hz) [0, 1, 2, 3, 4, 5] rfl); clear hb hz; clear _t hC30)
      | (have _t := hC0; go_at_call 15; refine (gcd_b (hC0.out.drew.z 0 rfl) (hC0.out.drew.z 2 rfl) E1.out E2.out (by omega) (by omega)).mono ?_; rintro e w30 ⟨a30, n30, c30, m30, rfl, hz, hb⟩; have hC30 : Hid (St w w30 [(w1.heap.size, #[.slice a1 n1 c1, .bool m1], 28), (w1.heap.size + 1, #[.int .i64 s11, .slice a11 n11 c11], 31), (w2.heap.size, #[.slice a2 n2 c2, .bool m2], 28), (w2.heap.size + 1, #[.int .i64 s12, .slice a12 n12 c12], 31)] [fun V => Zd V (.slice a1 n1 c1) m1 (x1), fun V => Nz V s11 (.slice a11 n11 c11) (x1), fun V => Zd V (.slice a2 n2 c2) m2 (x2), fun V => Nz V s12 (.slice a12 n12 c12) (x2), fun V => Zd V (.slice a30 n30 c30) m30 (((Int.gcd (x1) (x2) : Nat) : Int))]) := Lib.hid (St.pick ((hC0.out.drew.call hb).pz hz) [0, 1, 2, 3, 4] rfl); clear hb hz; clear _t hC0)
      | fail)
  go_wp2_with fail
  have y00 := hC32.out.cell 0 0 rfl rfl
  have y01 := hC32.out.cell 0 1 rfl rfl
  have y20 := hC32.out.cell 2 0 rfl rfl
  have y21 := hC32.out.cell 2 1 rfl rfl
  go_wp2_with fail
  refine (quo_b (hC32.out.z 0 rfl) (hC32.out.z 2 rfl) HB0.out E1.out E2.out (by omega) (by omega)).mono ?_
  rintro e w33 ⟨a33, n33, c33, m33, a34, n34, c34, m34, rfl, hz, hz2, hb⟩
  have hC33 : Hid (St w _ [(w1.heap.size, #[.slice a1 n1 c1, .bool m1], 28), (w1.heap.size + 1, #[.int .i64 s11, .slice a11 n11 c11], 31), (w2.heap.size, #[.slice a2 n2 c2, .bool m2], 28), (w2.heap.size + 1, #[.int .i64 s12, .slice a12 n12 c12], 31), (w33.heap.size, #[.slice a33 n33 c33, .bool m33], 28), (w33.heap.size + 1, #[.slice a34 n34 c34, .bool m34], 28)] [fun V => Zd V (.slice a1 n1 c1) m1 (x1), fun V => Nz V s11 (.slice a11 n11 c11) (x1), fun V => Zd V (.slice a2 n2 c2) m2 (x2), fun V => Nz V s12 (.slice a12 n12 c12) (x2), fun V => Zd V (.slice a33 n33 c33) m33 (x1 / x2), fun V => Zd V (.slice a34 n34 c34) m34 (x1 % x2)]) := Lib.hid (((hC32.out.call hb).pz hz |>.pz hz2).al w33.heap.size #[.slice a33 n33 c33, .bool m33] 28 rfl rfl |>.al (w33.heap.size + 1) #[.slice a34 n34 c34, .bool m34] 28 (by simp) rfl)
  clear hb hz hz2 hC32
  clear y00 y01 y20 y21
  have y10 := hC33.out.cell 1 0 rfl rfl
  have y11 := hC33.out.cell 1 1 rfl rfl
  have y30 := hC33.out.cell 3 0 rfl rfl
  have y31 := hC33.out.cell 3 1 rfl rfl
  go_wp2_with fail
  refine (zquotN_b (hC33.out.n 1 rfl) (hC33.out.n 3 rfl) HB0.out E1.out E2.out (by omega) (by omega)).mono ?_
  rintro e w35 ⟨s35, a35, n35, c35, s36, a36, n36, c36, rfl, hz, hz2, hb⟩
  have hC35 : Hid (St w _ [(w1.heap.size, #[.slice a1 n1 c1, .bool m1], 28), (w1.heap.size + 1, #[.int .i64 s11, .slice a11 n11 c11], 31), (w2.heap.size, #[.slice a2 n2 c2, .bool m2], 28), (w2.heap.size + 1, #[.int .i64 s12, .slice a12 n12 c12], 31), (w33.heap.size, #[.slice a33 n33 c33, .bool m33], 28), (w33.heap.size + 1, #[.slice a34 n34 c34, .bool m34], 28), (w35.heap.size, #[.int .i64 s35, .slice a35 n35 c35], 31), (w35.heap.size + 1, #[.int .i64 s36, .slice a36 n36 c36], 31)] [fun V => Zd V (.slice a1 n1 c1) m1 (x1), fun V => Nz V s11 (.slice a11 n11 c11) (x1), fun V => Zd V (.slice a2 n2 c2) m2 (x2), fun V => Nz V s12 (.slice a12 n12 c12) (x2), fun V => Zd V (.slice a33 n33 c33) m33 (x1 / x2), fun V => Zd V (.slice a34 n34 c34) m34 (x1 % x2), fun V => Nz V s35 (.slice a35 n35 c35) (x1 / x2), fun V => Nz V s36 (.slice a36 n36 c36) (x1 % x2)]) := Lib.hid (((hC33.out.call hb).pn hz |>.pn hz2).al w35.heap.size #[.int .i64 s35, .slice a35 n35 c35] 31 rfl rfl |>.al (w35.heap.size + 1) #[.int .i64 s36, .slice a36 n36 c36] 31 (by simp) rfl)
  clear hb hz hz2 hC33
  clear y10 y11 y30 y31
  go_upto_region 9 with fail
  refine wp_gen hC35.out ?_
  intro W37 hc
  clear hC35
  have hD37 := Lib.hid hc
  clear hc
  have y40 := hD37.out.cell 4 0 rfl rfl
  have y41 := hD37.out.cell 4 1 rfl rfl
  have y60 := hD37.out.cell 6 0 rfl rfl
  have y61 := hD37.out.cell 6 1 rfl rfl
  go_wp2_with fail
  refine (sameZ_b (hD37.out.z 4 rfl) (hD37.out.n 6 rfl) ((E1.out).div x2) (by omega)).mono ?_
  rintro e w38 ⟨rfl, hb⟩
  have hC38 : Hid (St w w38 [(w1.heap.size, #[.slice a1 n1 c1, .bool m1], 28), (w1.heap.size + 1, #[.int .i64 s11, .slice a11 n11 c11], 31), (w2.heap.size, #[.slice a2 n2 c2, .bool m2], 28), (w2.heap.size + 1, #[.int .i64 s12, .slice a12 n12 c12], 31), (w33.heap.size, #[.slice a33 n33 c33, .bool m33], 28), (w33.heap.size + 1, #[.slice a34 n34 c34, .bool m34], 28), (w35.heap.size, #[.int .i64 s35, .slice a35 n35 c35], 31), (w35.heap.size + 1, #[.int .i64 s36, .slice a36 n36 c36], 31)] [fun V => Zd V (.slice a1 n1 c1) m1 (x1), fun V => Nz V s11 (.slice a11 n11 c11) (x1), fun V => Zd V (.slice a2 n2 c2) m2 (x2), fun V => Nz V s12 (.slice a12 n12 c12) (x2), fun V => Zd V (.slice a33 n33 c33) m33 (x1 / x2), fun V => Zd V (.slice a34 n34 c34) m34 (x1 % x2), fun V => Nz V s35 (.slice a35 n35 c35) (x1 / x2), fun V => Nz V s36 (.slice a36 n36 c36) (x1 % x2)]) := Lib.hid (hD37.out.call hb)
  clear hb hD37
  clear y40 y41 y60 y61
  have y50 := hC38.out.cell 5 0 rfl rfl
  have y51 := hC38.out.cell 5 1 rfl rfl
  have y70 := hC38.out.cell 7 0 rfl rfl
  have y71 := hC38.out.cell 7 1 rfl rfl
  go_wp2_with fail
  refine (sameZ_b (hC38.out.z 5 rfl) (hC38.out.n 7 rfl) ((E1.out).mod E2.out) (by omega)).mono ?_
  rintro e w39 ⟨rfl, hb⟩
  have hC39 : Hid (St w w39 [(w1.heap.size, #[.slice a1 n1 c1, .bool m1], 28), (w1.heap.size + 1, #[.int .i64 s11, .slice a11 n11 c11], 31), (w2.heap.size, #[.slice a2 n2 c2, .bool m2], 28), (w2.heap.size + 1, #[.int .i64 s12, .slice a12 n12 c12], 31), (w33.heap.size, #[.slice a33 n33 c33, .bool m33], 28), (w33.heap.size + 1, #[.slice a34 n34 c34, .bool m34], 28), (w35.heap.size, #[.int .i64 s35, .slice a35 n35 c35], 31), (w35.heap.size + 1, #[.int .i64 s36, .slice a36 n36 c36], 31)] [fun V => Zd V (.slice a1 n1 c1) m1 (x1), fun V => Nz V s11 (.slice a11 n11 c11) (x1), fun V => Zd V (.slice a2 n2 c2) m2 (x2), fun V => Nz V s12 (.slice a12 n12 c12) (x2), fun V => Zd V (.slice a33 n33 c33) m33 (x1 / x2), fun V => Zd V (.slice a34 n34 c34) m34 (x1 % x2), fun V => Nz V s35 (.slice a35 n35 c35) (x1 / x2), fun V => Nz V s36 (.slice a36 n36 c36) (x1 % x2)]) := Lib.hid (hC38.out.call hb)
  clear hb hC38
  clear y50 y51 y70 y71
  go_wp2_with fail
  refine (awake_any _).mono ?_
  rintro e w40 ⟨rfl, hb⟩
  have hC40 : Hid (St w w40 [(w1.heap.size, #[.slice a1 n1 c1, .bool m1], 28), (w1.heap.size + 1, #[.int .i64 s11, .slice a11 n11 c11], 31), (w2.heap.size, #[.slice a2 n2 c2, .bool m2], 28), (w2.heap.size + 1, #[.int .i64 s12, .slice a12 n12 c12], 31), (w33.heap.size, #[.slice a33 n33 c33, .bool m33], 28), (w33.heap.size + 1, #[.slice a34 n34 c34, .bool m34], 28), (w35.heap.size, #[.int .i64 s35, .slice a35 n35 c35], 31), (w35.heap.size + 1, #[.int .i64 s36, .slice a36 n36 c36], 31)] [fun V => Zd V (.slice a1 n1 c1) m1 (x1), fun V => Nz V s11 (.slice a11 n11 c11) (x1), fun V => Zd V (.slice a2 n2 c2) m2 (x2), fun V => Nz V s12 (.slice a12 n12 c12) (x2), fun V => Zd V (.slice a33 n33 c33) m33 (x1 / x2), fun V => Zd V (.slice a34 n34 c34) m34 (x1 % x2), fun V => Nz V s35 (.slice a35 n35 c35) (x1 / x2), fun V => Nz V s36 (.slice a36 n36 c36) (x1 % x2)]) := Lib.hid (hC39.out.call hb)
  clear hb hC39
  go_wp2
  go_ret
  exact ⟨rfl, hC40.out.be⟩

theorem wholeQuotients_walk (A1 B1 C1 P1 : Int) (A2 B2 C2 P2 : Int) (w : World) (hA1 : -9223372036854775808 ≤ A1 ∧ A1 < 9223372036854775808) (hB1 : -9223372036854775808 ≤ B1 ∧ B1 < 9223372036854775808) (hC1 : -9223372036854775808 ≤ C1 ∧ C1 < 9223372036854775808) (hP1 : 0 ≤ P1 ∧ P1 < 256) (hA2 : -9223372036854775808 ≤ A2 ∧ A2 < 9223372036854775808) (hB2 : -9223372036854775808 ≤ B2 ∧ B2 < 9223372036854775808) (hC2 : -9223372036854775808 ≤ C2 ∧ C2 < 9223372036854775808) (hP2 : 0 ≤ P2 ∧ P2 < 256) :
    Calls Tryz.prog 3 #[.agg #[.int .i64 A1, .int .i64 B1, .int .i64 C1, .int .u8 P1], .agg #[.int .i64 A2, .int .i64 B2, .int .i64 C2, .int .u8 P2]] w (fun e w' => e = .returned (.bool true) ∧ Below w.heap.size w w') := by
  by_cases hb : big A2 B2 C2 P2 = 0
  · exact quots_0 A1 B1 C1 P1 A2 B2 C2 P2 w hA1 hB1 hC1 hP1 hA2 hB2 hC2 hP2 hb
  · exact quots_n A1 B1 C1 P1 A2 B2 C2 P2 w hA1 hB1 hC1 hP1 hA2 hB2 hC2 hP2 hb

end Go.Proofs.YtmfplelodnoicaaGreatDoor

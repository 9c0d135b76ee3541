/- the law WholeDivides: its walk -/
import Derived.Test.YtmfplelodnoicaaDoorWB3
namespace Go.Proofs.YtmfplelodnoicaaDoor
open Go.RowKit Dig

theorem sgn_1 {x : Int} (h : 0 < x) : sgn x = 1 := by unfold sgn; rw [if_neg (by omega), if_neg (by omega)]
theorem sgn_m {x : Int} (h : x < 0) : sgn x = -1 := by unfold sgn; rw [if_neg (by omega), if_pos h]
theorem sgn_ge {x : Int} (h : 0 ≤ x) : 0 ≤ sgn x := by unfold sgn; split; omega; split <;> omega

set_option maxRecDepth 100000 in
set_option maxHeartbeats 8000000 in
theorem divides_0 (A1 B1 C1 P1 : Int) (A2 B2 C2 P2 : Int) (A3 B3 C3 P3 : Int) (w : World) (hA1 : -9223372036854775808 ≤ A1 ∧ A1 < 9223372036854775808) (hB1 : -9223372036854775808 ≤ B1 ∧ B1 < 9223372036854775808) (hC1 : -9223372036854775808 ≤ C1 ∧ C1 < 9223372036854775808) (hP1 : 0 ≤ P1 ∧ P1 < 256) (hA2 : -9223372036854775808 ≤ A2 ∧ A2 < 9223372036854775808) (hB2 : -9223372036854775808 ≤ B2 ∧ B2 < 9223372036854775808) (hC2 : -9223372036854775808 ≤ C2 ∧ C2 < 9223372036854775808) (hP2 : 0 ≤ P2 ∧ P2 < 256) (hA3 : -9223372036854775808 ≤ A3 ∧ A3 < 9223372036854775808) (hB3 : -9223372036854775808 ≤ B3 ∧ B3 < 9223372036854775808) (hC3 : -9223372036854775808 ≤ C3 ∧ C3 < 9223372036854775808) (hP3 : 0 ≤ P3 ∧ P3 < 256) (h0 : big A1 B1 C1 P1 = 0 ∧ big A2 B2 C2 P2 = 0) :
    Calls Tryd.prog 4 #[.agg #[.int .i64 A1, .int .i64 B1, .int .i64 C1, .int .u8 P1], .agg #[.int .i64 A2, .int .i64 B2, .int .i64 C2, .int .u8 P2], .agg #[.int .i64 A3, .int .i64 B3, .int .i64 C3, .int .u8 P3]] w (fun e w' => e = .returned (.bool true) ∧ Below w.heap.size w w') := by
  obtain ⟨G, hG⟩ : ∃ G : Int, ((Int.gcd (big A1 B1 C1 P1) (big A2 B2 C2 P2) : Nat) : Int) = G := ⟨_, rfl⟩
  have hG0 : 0 ≤ G := by omega
  obtain ⟨x1, h1, b1⟩ : ∃ x : Int, big A1 B1 C1 P1 = x ∧ Bd 772 x := ⟨_, rfl, big_bd hA1 hB1 hC1⟩
  have H1 := Lib.hid h1
  have E1 := Lib.hid b1
  clear h1 b1
  have HA1 := Lib.hid hA1
  clear hA1
  have HB1 := Lib.hid hB1
  clear hB1
  have HC1 := Lib.hid hC1
  clear hC1
  have HP1 := Lib.hid hP1
  clear hP1
  obtain ⟨x2, h1, b1⟩ : ∃ x : Int, big A2 B2 C2 P2 = x ∧ Bd 772 x := ⟨_, rfl, big_bd hA2 hB2 hC2⟩
  have H2 := Lib.hid h1
  have E2 := Lib.hid b1
  clear h1 b1
  have HA2 := Lib.hid hA2
  clear hA2
  have HB2 := Lib.hid hB2
  clear hB2
  have HC2 := Lib.hid hC2
  clear hC2
  have HP2 := Lib.hid hP2
  clear hP2
  obtain ⟨x3, h1, b1⟩ : ∃ x : Int, big A3 B3 C3 P3 = x ∧ Bd 772 x := ⟨_, rfl, big_bd hA3 hB3 hC3⟩
  have H3 := Lib.hid h1
  have E3 := Lib.hid b1
  clear h1 b1
  have HA3 := Lib.hid hA3
  clear hA3
  have HB3 := Lib.hid hB3
  clear hB3
  have HC3 := Lib.hid hC3
  clear hC3
  have HP3 := Lib.hid hP3
  clear hP3
  have hC := Lib.hid ((((St.enter w).al (w.heap.size) #[.int .i64 A1, .int .i64 B1, .int .i64 C1, .int .u8 P1] 23 rfl rfl).al (w.heap.size + 1) #[.int .i64 A2, .int .i64 B2, .int .i64 C2, .int .u8 P2] 23 (by simp) rfl).al (w.heap.size + 2) #[.int .i64 A3, .int .i64 B3, .int .i64 C3, .int .u8 P3] 23 (by simp) rfl)
  have HG := Lib.hid hG
  clear hG
  have BG : Hid (Bd 1544 G) := Lib.hid (by rw [← HG.out, H1.out, H2.out]; exact E1.out.gcd E2.out)
  have HA0 : Hid (x1 = 0) := Lib.hid (by rw [← H1.out]; exact h0.1)
  have HB0 : Hid (x2 = 0) := Lib.hid (by rw [← H2.out]; exact h0.2)
  have HSG : Hid (sgn G = 0) := Lib.hid (sgn_0 (by rw [← HG.out, h0.1, h0.2]; rfl))
  clear h0 hG0
  go_enter Tryd.func4, Tryd.ntmps4
  have y0 := hC.out.cell 0 0 rfl rfl
  have y1 := hC.out.cell 0 1 rfl rfl
  have y2 := hC.out.cell 0 2 rfl rfl
  have y3 := hC.out.cell 0 3 rfl rfl
  go_wp2_with fail
  refine (bothZ_any A1 B1 C1 P1 _ HA1.out HB1.out HC1.out HP1.out).mono ?_
  rintro e w1 ⟨a1, n1, c1, m1, s11, a11, n11, c11, rfl, hz, hn, hb⟩
  rw [H1.out] at hz hn
  have hC1 := Lib.hid ((((hC.out.call hb).pz hz).pn hn |>.al w1.heap.size #[.slice a1 n1 c1, .bool m1] 28 rfl rfl).al (w1.heap.size + 1) #[.int .i64 s11, .slice a11 n11 c11] 31 (by simp) rfl)
  clear hz hn hb hC y0 y1 y2 y3
  have y0 := hC1.out.cell 1 0 rfl rfl
  have y1 := hC1.out.cell 1 1 rfl rfl
  have y2 := hC1.out.cell 1 2 rfl rfl
  have y3 := hC1.out.cell 1 3 rfl rfl
  go_wp2_with fail
  refine (bothZ_any A2 B2 C2 P2 _ HA2.out HB2.out HC2.out HP2.out).mono ?_
  rintro e w2 ⟨a2, n2, c2, m2, s12, a12, n12, c12, rfl, hz, hn, hb⟩
  rw [H2.out] at hz hn
  have hC2 := Lib.hid ((((hC1.out.call hb).pz hz).pn hn |>.al w2.heap.size #[.slice a2 n2 c2, .bool m2] 28 rfl rfl).al (w2.heap.size + 1) #[.int .i64 s12, .slice a12 n12 c12] 31 (by simp) rfl)
  clear hz hn hb hC1 y0 y1 y2 y3
  have y0 := hC2.out.cell 2 0 rfl rfl
  have y1 := hC2.out.cell 2 1 rfl rfl
  have y2 := hC2.out.cell 2 2 rfl rfl
  have y3 := hC2.out.cell 2 3 rfl rfl
  go_wp2_with fail
  refine (bothZ_any A3 B3 C3 P3 _ HA3.out HB3.out HC3.out HP3.out).mono ?_
  rintro e w3 ⟨a3, n3, c3, m3, s13, a13, n13, c13, rfl, hz, hn, hb⟩
  rw [H3.out] at hz hn
  have hC3 := Lib.hid ((((hC2.out.call hb).pz hz).pn hn |>.al w3.heap.size #[.slice a3 n3 c3, .bool m3] 28 rfl rfl).al (w3.heap.size + 1) #[.int .i64 s13, .slice a13 n13 c13] 31 (by simp) rfl)
  clear hz hn hb hC2 y0 y1 y2 y3
  go_upto_region 4 with fail
  refine wp_gen ((hC3.out.pick [0, 2, 4] (rs' := [fun V => Zd V (.slice a1 n1 c1) m1 (x1), fun V => Zd V (.slice a2 n2 c2) m2 (x2), fun V => Zd V (.slice a3 n3 c3) m3 (x3)]) rfl).bpick [3, 5, 7] (by decide) (bs' := [(w1.heap.size, #[.slice a1 n1 c1, .bool m1], 28), (w2.heap.size, #[.slice a2 n2 c2, .bool m2], 28), (w3.heap.size, #[.slice a3 n3 c3, .bool m3], 28)]) rfl) ?_
  intro W hc
  clear hC3
  have hC0 := Lib.hid hc
  clear hc
  have HG1 : Hid (((Int.gcd x1 x2 : Nat) : Int) = G) := Lib.hid (by rw [← H1.out, ← H2.out]; exact HG.out)
  have y00 := hC0.out.cell 0 0 rfl rfl
  have y01 := hC0.out.cell 0 1 rfl rfl
  have y10 := hC0.out.cell 1 0 rfl rfl
  have y11 := hC0.out.cell 1 1 rfl rfl
  go_wp2_with fail
  refine (gcd_b (hC0.out.z 0 rfl) (hC0.out.z 1 rfl) E1.out E2.out (by omega) (by omega)).mono ?_
  rintro e w30 ⟨a30, n30, c30, m30, rfl, hz, hb⟩
  rw [HG1.out] at hz
  have hC30 : Hid (St w _ [(w1.heap.size, #[.slice a1 n1 c1, .bool m1], 28), (w2.heap.size, #[.slice a2 n2 c2, .bool m2], 28), (w3.heap.size, #[.slice a3 n3 c3, .bool m3], 28), (w30.heap.size, #[.slice a30 n30 c30, .bool m30], 28)] [fun V => Zd V (.slice a1 n1 c1) m1 (x1), fun V => Zd V (.slice a2 n2 c2) m2 (x2), fun V => Zd V (.slice a3 n3 c3) m3 (x3), fun V => Zd V (.slice a30 n30 c30) m30 (G)]) := Lib.hid (((hC0.out.call hb).pz hz).al w30.heap.size #[.slice a30 n30 c30, .bool m30] 28 rfl rfl)
  clear hb hz hC0
  clear y00 y01 y10 y11
  go_wp2
  refine wp_gen hC30.out ?_
  intro W31 hc
  clear hC30
  have hD31 := Lib.hid hc
  clear hc
  go_region_held3 (fun w' => w'.cell? ⟨w1.heap.size, 0, none⟩ = some (.slice a1 n1 c1) ∧ w'.cell? ⟨w1.heap.size, 1, none⟩ = some (.bool m1) ∧ w'.cell? ⟨w2.heap.size, 0, none⟩ = some (.slice a2 n2 c2) ∧ w'.cell? ⟨w2.heap.size, 1, none⟩ = some (.bool m2) ∧ w'.cell? ⟨w3.heap.size, 0, none⟩ = some (.slice a3 n3 c3) ∧ w'.cell? ⟨w3.heap.size, 1, none⟩ = some (.bool m3) ∧ w'.cell? ⟨w30.heap.size, 0, none⟩ = some (.slice a30 n30 c30) ∧ w'.cell? ⟨w30.heap.size, 1, none⟩ = some (.bool m30) ∧ True)
    (first
      | (with_reducible refine And.intro (?_ : World.cell? w38 _ = _) ?_; exact hC38.out.cell 0 0 rfl rfl; exact ⟨hC38.out.cell 0 1 rfl rfl, hC38.out.cell 1 0 rfl rfl, hC38.out.cell 1 1 rfl rfl, hC38.out.cell 2 0 rfl rfl, hC38.out.cell 2 1 rfl rfl, hC38.out.cell 3 0 rfl rfl, hC38.out.cell 3 1 rfl rfl, trivial⟩)
      | (with_reducible refine And.intro (?_ : World.cell? w37 _ = _) ?_; exact hC37.out.cell 0 0 rfl rfl; exact ⟨hC37.out.cell 0 1 rfl rfl, hC37.out.cell 1 0 rfl rfl, hC37.out.cell 1 1 rfl rfl, hC37.out.cell 2 0 rfl rfl, hC37.out.cell 2 1 rfl rfl, hC37.out.cell 3 0 rfl rfl, hC37.out.cell 3 1 rfl rfl, trivial⟩)
      | (with_reducible refine And.intro (?_ : World.cell? w36 _ = _) ?_; exact hC36.out.cell 0 0 rfl rfl; exact ⟨hC36.out.cell 0 1 rfl rfl, hC36.out.cell 1 0 rfl rfl, hC36.out.cell 1 1 rfl rfl, hC36.out.cell 2 0 rfl rfl, hC36.out.cell 2 1 rfl rfl, hC36.out.cell 3 0 rfl rfl, hC36.out.cell 3 1 rfl rfl, trivial⟩)
      | (with_reducible refine And.intro (?_ : World.cell? w35 _ = _) ?_; exact hC35.out.cell 0 0 rfl rfl; exact ⟨hC35.out.cell 0 1 rfl rfl, hC35.out.cell 1 0 rfl rfl, hC35.out.cell 1 1 rfl rfl, hC35.out.cell 2 0 rfl rfl, hC35.out.cell 2 1 rfl rfl, hC35.out.cell 3 0 rfl rfl, hC35.out.cell 3 1 rfl rfl, trivial⟩)
      | (with_reducible refine And.intro (?_ : World.cell? w34 _ = _) ?_; exact hC34.out.cell 0 0 rfl rfl; exact ⟨hC34.out.cell 0 1 rfl rfl, hC34.out.cell 1 0 rfl rfl, hC34.out.cell 1 1 rfl rfl, hC34.out.cell 2 0 rfl rfl, hC34.out.cell 2 1 rfl rfl, hC34.out.cell 3 0 rfl rfl, hC34.out.cell 3 1 rfl rfl, trivial⟩)
      | (with_reducible refine And.intro (?_ : World.cell? w33 _ = _) ?_; exact hC33.out.cell 0 0 rfl rfl; exact ⟨hC33.out.cell 0 1 rfl rfl, hC33.out.cell 1 0 rfl rfl, hC33.out.cell 1 1 rfl rfl, hC33.out.cell 2 0 rfl rfl, hC33.out.cell 2 1 rfl rfl, hC33.out.cell 3 0 rfl rfl, hC33.out.cell 3 1 rfl rfl, trivial⟩)
      | (with_reducible refine And.intro (?_ : World.cell? w32 _ = _) ?_; exact hC32.out.cell 0 0 rfl rfl; exact ⟨hC32.out.cell 0 1 rfl rfl, hC32.out.cell 1 0 rfl rfl, hC32.out.cell 1 1 rfl rfl, hC32.out.cell 2 0 rfl rfl, hC32.out.cell 2 1 rfl rfl, hC32.out.cell 3 0 rfl rfl, hC32.out.cell 3 1 rfl rfl, trivial⟩)
      | (with_reducible refine And.intro (?_ : World.cell? (World.drew W31) _ = _) ?_; exact hD31.out.drew.cell 0 0 rfl rfl; exact ⟨hD31.out.drew.cell 0 1 rfl rfl, hD31.out.drew.cell 1 0 rfl rfl, hD31.out.drew.cell 1 1 rfl rfl, hD31.out.drew.cell 2 0 rfl rfl, hD31.out.drew.cell 2 1 rfl rfl, hD31.out.drew.cell 3 0 rfl rfl, hD31.out.drew.cell 3 1 rfl rfl, trivial⟩))
    (first
      | (have _t := hC37; go_at_call 8; refine (cmp_is (hC37.out.z 4 rfl) (hC37.out.z 3 rfl) ((E2.out).gcd (E1.out)) BG.out (by omega) (by omega) (sgn_eq (by rw [Int.gcd_comm]; exact HG1.out))).mono ?_; rintro e w38 ⟨rfl, hb⟩; have hC38 : Hid (St w w38 [(w1.heap.size, #[.slice a1 n1 c1, .bool m1], 28), (w2.heap.size, #[.slice a2 n2 c2, .bool m2], 28), (w3.heap.size, #[.slice a3 n3 c3, .bool m3], 28), (w30.heap.size, #[.slice a30 n30 c30, .bool m30], 28)] [fun V => Zd V (.slice a1 n1 c1) m1 (x1), fun V => Zd V (.slice a2 n2 c2) m2 (x2), fun V => Zd V (.slice a3 n3 c3) m3 (x3), fun V => Zd V (.slice a30 n30 c30) m30 (G)]) := Lib.hid (St.pick ((hC37.out.call hb)) [0, 1, 2, 3] rfl); clear hb; clear _t hC37)
      | (have _t := hC36; go_at_call 13; refine (gcd_b (hC36.out.z 1 rfl) (hC36.out.z 0 rfl) E2.out E1.out (by omega) (by omega)).mono ?_; rintro e w37 ⟨a37, n37, c37, m37, rfl, hz, hb⟩; have hC37 : Hid (St w w37 [(w1.heap.size, #[.slice a1 n1 c1, .bool m1], 28), (w2.heap.size, #[.slice a2 n2 c2, .bool m2], 28), (w3.heap.size, #[.slice a3 n3 c3, .bool m3], 28), (w30.heap.size, #[.slice a30 n30 c30, .bool m30], 28)] [fun V => Zd V (.slice a1 n1 c1) m1 (x1), fun V => Zd V (.slice a2 n2 c2) m2 (x2), fun V => Zd V (.slice a3 n3 c3) m3 (x3), fun V => Zd V (.slice a30 n30 c30) m30 (G), fun V => Zd V (.slice a37 n37 c37) m37 (((Int.gcd (x2) (x1) : Nat) : Int))]) := Lib.hid (St.pick ((hC36.out.call hb).pz hz) [0, 1, 2, 3, 4] rfl); clear hb hz; clear _t hC36)
      | (have _t := hC35; go_at_call 8; refine (cmp_is (hC35.out.z 4 rfl) (hC35.out.z 3 rfl) ((((E1.out).add (((E2.out).mul (E3.out))))).gcd (E2.out)) BG.out (by omega) (by omega) (sgn_eq (by rw [Int.gcd_add_mul_left_left]; exact HG1.out))).mono ?_; rintro e w36 ⟨rfl, hb⟩; have hC36 : Hid (St w w36 [(w1.heap.size, #[.slice a1 n1 c1, .bool m1], 28), (w2.heap.size, #[.slice a2 n2 c2, .bool m2], 28), (w3.heap.size, #[.slice a3 n3 c3, .bool m3], 28), (w30.heap.size, #[.slice a30 n30 c30, .bool m30], 28)] [fun V => Zd V (.slice a1 n1 c1) m1 (x1), fun V => Zd V (.slice a2 n2 c2) m2 (x2), fun V => Zd V (.slice a3 n3 c3) m3 (x3), fun V => Zd V (.slice a30 n30 c30) m30 (G)]) := Lib.hid (St.pick ((hC35.out.call hb)) [0, 1, 2, 3] rfl); clear hb; clear _t hC35)
      | (have _t := hC34; go_at_call 13; refine (gcd_b (hC34.out.z 4 rfl) (hC34.out.z 1 rfl) ((E1.out).add (((E2.out).mul (E3.out)))) E2.out (by omega) (by omega)).mono ?_; rintro e w35 ⟨a35, n35, c35, m35, rfl, hz, hb⟩; have hC35 : Hid (St w w35 [(w1.heap.size, #[.slice a1 n1 c1, .bool m1], 28), (w2.heap.size, #[.slice a2 n2 c2, .bool m2], 28), (w3.heap.size, #[.slice a3 n3 c3, .bool m3], 28), (w30.heap.size, #[.slice a30 n30 c30, .bool m30], 28)] [fun V => Zd V (.slice a1 n1 c1) m1 (x1), fun V => Zd V (.slice a2 n2 c2) m2 (x2), fun V => Zd V (.slice a3 n3 c3) m3 (x3), fun V => Zd V (.slice a30 n30 c30) m30 (G), fun V => Zd V (.slice a35 n35 c35) m35 (((Int.gcd ((x1 + (x2 * x3))) (x2) : Nat) : Int))]) := Lib.hid (St.pick ((hC34.out.call hb).pz hz) [0, 1, 2, 3, 5] rfl); clear hb hz; clear _t hC34)
      | (have _t := hC33; go_at_call 7; refine (add_b (hC33.out.z 0 rfl) (hC33.out.z 4 rfl) E1.out ((E2.out).mul (E3.out)) (by omega) (by omega)).mono ?_; rintro e w34 ⟨a34, n34, c34, m34, rfl, hz, hb⟩; have hC34 : Hid (St w w34 [(w1.heap.size, #[.slice a1 n1 c1, .bool m1], 28), (w2.heap.size, #[.slice a2 n2 c2, .bool m2], 28), (w3.heap.size, #[.slice a3 n3 c3, .bool m3], 28), (w30.heap.size, #[.slice a30 n30 c30, .bool m30], 28)] [fun V => Zd V (.slice a1 n1 c1) m1 (x1), fun V => Zd V (.slice a2 n2 c2) m2 (x2), fun V => Zd V (.slice a3 n3 c3) m3 (x3), fun V => Zd V (.slice a30 n30 c30) m30 (G), fun V => Zd V (.slice a34 n34 c34) m34 ((x1 + (x2 * x3)))]) := Lib.hid (St.pick ((hC33.out.call hb).pz hz) [0, 1, 2, 3, 5] rfl); clear hb hz; clear _t hC33)
      | (have _t := hC32; go_at_call 9; refine (mul_b (hC32.out.z 1 rfl) (hC32.out.z 2 rfl) E2.out E3.out (by omega) (by omega)).mono ?_; rintro e w33 ⟨a33, n33, c33, m33, rfl, hz, hb⟩; have hC33 : Hid (St w w33 [(w1.heap.size, #[.slice a1 n1 c1, .bool m1], 28), (w2.heap.size, #[.slice a2 n2 c2, .bool m2], 28), (w3.heap.size, #[.slice a3 n3 c3, .bool m3], 28), (w30.heap.size, #[.slice a30 n30 c30, .bool m30], 28)] [fun V => Zd V (.slice a1 n1 c1) m1 (x1), fun V => Zd V (.slice a2 n2 c2) m2 (x2), fun V => Zd V (.slice a3 n3 c3) m3 (x3), fun V => Zd V (.slice a30 n30 c30) m30 (G), fun V => Zd V (.slice a33 n33 c33) m33 ((x2 * x3))]) := Lib.hid (St.pick ((hC32.out.call hb).pz hz) [0, 1, 2, 3, 4] rfl); clear hb hz; clear _t hC32)
      | (have _t := hD31; go_at_call 11; refine (sign_is (hD31.out.drew.z 3 rfl) HSG.out).mono ?_; rintro e w32 ⟨rfl, hb⟩; have hC32 : Hid (St w w32 [(w1.heap.size, #[.slice a1 n1 c1, .bool m1], 28), (w2.heap.size, #[.slice a2 n2 c2, .bool m2], 28), (w3.heap.size, #[.slice a3 n3 c3, .bool m3], 28), (w30.heap.size, #[.slice a30 n30 c30, .bool m30], 28)] [fun V => Zd V (.slice a1 n1 c1) m1 (x1), fun V => Zd V (.slice a2 n2 c2) m2 (x2), fun V => Zd V (.slice a3 n3 c3) m3 (x3), fun V => Zd V (.slice a30 n30 c30) m30 (G)]) := Lib.hid (St.pick ((hD31.out.drew.call hb)) [0, 1, 2, 3] rfl); clear hb; clear _t hD31)
      | fail)
  go_wp2_with fail
  have y30 := hC38.out.cell 3 0 rfl rfl
  have y31 := hC38.out.cell 3 1 rfl rfl
  go_wp2_with fail
  refine (sign_is (hC38.out.z 3 rfl) HSG.out).mono ?_
  rintro e w39 ⟨rfl, hb⟩
  have hC39 : Hid (St w w39 [(w1.heap.size, #[.slice a1 n1 c1, .bool m1], 28), (w2.heap.size, #[.slice a2 n2 c2, .bool m2], 28), (w3.heap.size, #[.slice a3 n3 c3, .bool m3], 28), (w30.heap.size, #[.slice a30 n30 c30, .bool m30], 28)] [fun V => Zd V (.slice a1 n1 c1) m1 (x1), fun V => Zd V (.slice a2 n2 c2) m2 (x2), fun V => Zd V (.slice a3 n3 c3) m3 (x3), fun V => Zd V (.slice a30 n30 c30) m30 (G)]) := Lib.hid (hC38.out.call hb)
  clear hb hC38
  clear y30 y31
  have y00 := hC39.out.cell 0 0 rfl rfl
  have y01 := hC39.out.cell 0 1 rfl rfl
  go_wp2_with fail
  refine (sign_is (hC39.out.z 0 rfl) (sgn_0 HA0.out)).mono ?_
  rintro e w40 ⟨rfl, hb⟩
  have hC40 : Hid (St w w40 [(w1.heap.size, #[.slice a1 n1 c1, .bool m1], 28), (w2.heap.size, #[.slice a2 n2 c2, .bool m2], 28), (w3.heap.size, #[.slice a3 n3 c3, .bool m3], 28), (w30.heap.size, #[.slice a30 n30 c30, .bool m30], 28)] [fun V => Zd V (.slice a1 n1 c1) m1 (x1), fun V => Zd V (.slice a2 n2 c2) m2 (x2), fun V => Zd V (.slice a3 n3 c3) m3 (x3), fun V => Zd V (.slice a30 n30 c30) m30 (G)]) := Lib.hid (hC39.out.call hb)
  clear hb hC39
  clear y00 y01
  have y10 := hC40.out.cell 1 0 rfl rfl
  have y11 := hC40.out.cell 1 1 rfl rfl
  go_wp2_with fail
  refine (sign_is (hC40.out.z 1 rfl) (sgn_0 HB0.out)).mono ?_
  rintro e w41 ⟨rfl, hb⟩
  have hC41 : Hid (St w w41 [(w1.heap.size, #[.slice a1 n1 c1, .bool m1], 28), (w2.heap.size, #[.slice a2 n2 c2, .bool m2], 28), (w3.heap.size, #[.slice a3 n3 c3, .bool m3], 28), (w30.heap.size, #[.slice a30 n30 c30, .bool m30], 28)] [fun V => Zd V (.slice a1 n1 c1) m1 (x1), fun V => Zd V (.slice a2 n2 c2) m2 (x2), fun V => Zd V (.slice a3 n3 c3) m3 (x3), fun V => Zd V (.slice a30 n30 c30) m30 (G)]) := Lib.hid (hC40.out.call hb)
  clear hb hC40
  clear y10 y11
  go_wp2_with fail
  refine (awake_any _).mono ?_
  rintro e w42 ⟨rfl, hb⟩
  have hC42 : Hid (St w w42 [(w1.heap.size, #[.slice a1 n1 c1, .bool m1], 28), (w2.heap.size, #[.slice a2 n2 c2, .bool m2], 28), (w3.heap.size, #[.slice a3 n3 c3, .bool m3], 28), (w30.heap.size, #[.slice a30 n30 c30, .bool m30], 28)] [fun V => Zd V (.slice a1 n1 c1) m1 (x1), fun V => Zd V (.slice a2 n2 c2) m2 (x2), fun V => Zd V (.slice a3 n3 c3) m3 (x3), fun V => Zd V (.slice a30 n30 c30) m30 (G)]) := Lib.hid (hC41.out.call hb)
  clear hb hC41
  go_wp2
  go_ret
  exact ⟨rfl, hC42.out.be⟩

set_option maxRecDepth 100000 in
set_option maxHeartbeats 8000000 in
theorem divides_1 (A1 B1 C1 P1 : Int) (A2 B2 C2 P2 : Int) (A3 B3 C3 P3 : Int) (w : World) (hA1 : -9223372036854775808 ≤ A1 ∧ A1 < 9223372036854775808) (hB1 : -9223372036854775808 ≤ B1 ∧ B1 < 9223372036854775808) (hC1 : -9223372036854775808 ≤ C1 ∧ C1 < 9223372036854775808) (hP1 : 0 ≤ P1 ∧ P1 < 256) (hA2 : -9223372036854775808 ≤ A2 ∧ A2 < 9223372036854775808) (hB2 : -9223372036854775808 ≤ B2 ∧ B2 < 9223372036854775808) (hC2 : -9223372036854775808 ≤ C2 ∧ C2 < 9223372036854775808) (hP2 : 0 ≤ P2 ∧ P2 < 256) (hA3 : -9223372036854775808 ≤ A3 ∧ A3 < 9223372036854775808) (hB3 : -9223372036854775808 ≤ B3 ∧ B3 < 9223372036854775808) (hC3 : -9223372036854775808 ≤ C3 ∧ C3 < 9223372036854775808) (hP3 : 0 ≤ P3 ∧ P3 < 256) (h0 : big A1 B1 C1 P1 ≠ 0) (hb0 : big A2 B2 C2 P2 = 0) :
    Calls Tryd.prog 4 #[.agg #[.int .i64 A1, .int .i64 B1, .int .i64 C1, .int .u8 P1], .agg #[.int .i64 A2, .int .i64 B2, .int .i64 C2, .int .u8 P2], .agg #[.int .i64 A3, .int .i64 B3, .int .i64 C3, .int .u8 P3]] w (fun e w' => e = .returned (.bool true) ∧ Below w.heap.size w w') := by
  obtain ⟨G, hG⟩ : ∃ G : Int, ((Int.gcd (big A1 B1 C1 P1) (big A2 B2 C2 P2) : Nat) : Int) = G := ⟨_, rfl⟩
  have hG0 : 0 ≤ G := by omega
  obtain ⟨x1, h1, b1⟩ : ∃ x : Int, big A1 B1 C1 P1 = x ∧ Bd 772 x := ⟨_, rfl, big_bd hA1 hB1 hC1⟩
  have H1 := Lib.hid h1
  have E1 := Lib.hid b1
  clear h1 b1
  have HA1 := Lib.hid hA1
  clear hA1
  have HB1 := Lib.hid hB1
  clear hB1
  have HC1 := Lib.hid hC1
  clear hC1
  have HP1 := Lib.hid hP1
  clear hP1
  obtain ⟨x2, h1, b1⟩ : ∃ x : Int, big A2 B2 C2 P2 = x ∧ Bd 772 x := ⟨_, rfl, big_bd hA2 hB2 hC2⟩
  have H2 := Lib.hid h1
  have E2 := Lib.hid b1
  clear h1 b1
  have HA2 := Lib.hid hA2
  clear hA2
  have HB2 := Lib.hid hB2
  clear hB2
  have HC2 := Lib.hid hC2
  clear hC2
  have HP2 := Lib.hid hP2
  clear hP2
  obtain ⟨x3, h1, b1⟩ : ∃ x : Int, big A3 B3 C3 P3 = x ∧ Bd 772 x := ⟨_, rfl, big_bd hA3 hB3 hC3⟩
  have H3 := Lib.hid h1
  have E3 := Lib.hid b1
  clear h1 b1
  have HA3 := Lib.hid hA3
  clear hA3
  have HB3 := Lib.hid hB3
  clear hB3
  have HC3 := Lib.hid hC3
  clear hC3
  have HP3 := Lib.hid hP3
  clear hP3
  have hC := Lib.hid ((((St.enter w).al (w.heap.size) #[.int .i64 A1, .int .i64 B1, .int .i64 C1, .int .u8 P1] 23 rfl rfl).al (w.heap.size + 1) #[.int .i64 A2, .int .i64 B2, .int .i64 C2, .int .u8 P2] 23 (by simp) rfl).al (w.heap.size + 2) #[.int .i64 A3, .int .i64 B3, .int .i64 C3, .int .u8 P3] 23 (by simp) rfl)
  have HG := Lib.hid hG
  clear hG
  have BG : Hid (Bd 1544 G) := Lib.hid (by rw [← HG.out, H1.out, H2.out]; exact E1.out.gcd E2.out)
  have HGX : Hid (((Int.gcd x1 x2 : Nat) : Int) = G) := Lib.hid (by rw [← H1.out, ← H2.out]; exact HG.out)
  have HGN : Hid (G ≠ 0) := Lib.hid (by
    rw [← HG.out]
    intro e
    have := Int.gcd_eq_zero_iff.1 (Int.natCast_eq_zero.1 e)
    exact h0 this.1)
  have HSG : Hid (sgn G = 1) := Lib.hid (sgn_1 (by have := HGN.out; omega))
  have HPA : Hid (x1 % G = 0) := Lib.hid (by rw [← HGX.out]; exact Int.emod_eq_zero_of_dvd (Int.gcd_dvd_left _ _))
  have HPB : Hid (x2 % G = 0) := Lib.hid (by rw [← HGX.out]; exact Int.emod_eq_zero_of_dvd (Int.gcd_dvd_right _ _))
  have HSB : Hid (sgn x2 = 0) := Lib.hid (sgn_0 (by rw [← H2.out]; exact hb0))
  clear h0 hb0 hG0
  go_enter Tryd.func4, Tryd.ntmps4
  have y0 := hC.out.cell 0 0 rfl rfl
  have y1 := hC.out.cell 0 1 rfl rfl
  have y2 := hC.out.cell 0 2 rfl rfl
  have y3 := hC.out.cell 0 3 rfl rfl
  go_wp2_with fail
  refine (bothZ_any A1 B1 C1 P1 _ HA1.out HB1.out HC1.out HP1.out).mono ?_
  rintro e w1 ⟨a1, n1, c1, m1, s11, a11, n11, c11, rfl, hz, hn, hb⟩
  rw [H1.out] at hz hn
  have hC1 := Lib.hid ((((hC.out.call hb).pz hz).pn hn |>.al w1.heap.size #[.slice a1 n1 c1, .bool m1] 28 rfl rfl).al (w1.heap.size + 1) #[.int .i64 s11, .slice a11 n11 c11] 31 (by simp) rfl)
  clear hz hn hb hC y0 y1 y2 y3
  have y0 := hC1.out.cell 1 0 rfl rfl
  have y1 := hC1.out.cell 1 1 rfl rfl
  have y2 := hC1.out.cell 1 2 rfl rfl
  have y3 := hC1.out.cell 1 3 rfl rfl
  go_wp2_with fail
  refine (bothZ_any A2 B2 C2 P2 _ HA2.out HB2.out HC2.out HP2.out).mono ?_
  rintro e w2 ⟨a2, n2, c2, m2, s12, a12, n12, c12, rfl, hz, hn, hb⟩
  rw [H2.out] at hz hn
  have hC2 := Lib.hid ((((hC1.out.call hb).pz hz).pn hn |>.al w2.heap.size #[.slice a2 n2 c2, .bool m2] 28 rfl rfl).al (w2.heap.size + 1) #[.int .i64 s12, .slice a12 n12 c12] 31 (by simp) rfl)
  clear hz hn hb hC1 y0 y1 y2 y3
  have y0 := hC2.out.cell 2 0 rfl rfl
  have y1 := hC2.out.cell 2 1 rfl rfl
  have y2 := hC2.out.cell 2 2 rfl rfl
  have y3 := hC2.out.cell 2 3 rfl rfl
  go_wp2_with fail
  refine (bothZ_any A3 B3 C3 P3 _ HA3.out HB3.out HC3.out HP3.out).mono ?_
  rintro e w3 ⟨a3, n3, c3, m3, s13, a13, n13, c13, rfl, hz, hn, hb⟩
  rw [H3.out] at hz hn
  have hC3 := Lib.hid ((((hC2.out.call hb).pz hz).pn hn |>.al w3.heap.size #[.slice a3 n3 c3, .bool m3] 28 rfl rfl).al (w3.heap.size + 1) #[.int .i64 s13, .slice a13 n13 c13] 31 (by simp) rfl)
  clear hz hn hb hC2 y0 y1 y2 y3
  go_upto_region 4 with fail
  refine wp_gen ((hC3.out.pick [0, 2, 4] (rs' := [fun V => Zd V (.slice a1 n1 c1) m1 (x1), fun V => Zd V (.slice a2 n2 c2) m2 (x2), fun V => Zd V (.slice a3 n3 c3) m3 (x3)]) rfl).bpick [3, 5, 7] (by decide) (bs' := [(w1.heap.size, #[.slice a1 n1 c1, .bool m1], 28), (w2.heap.size, #[.slice a2 n2 c2, .bool m2], 28), (w3.heap.size, #[.slice a3 n3 c3, .bool m3], 28)]) rfl) ?_
  intro W hc
  clear hC3
  have hC0 := Lib.hid hc
  clear hc
  have HG1 : Hid (((Int.gcd x1 x2 : Nat) : Int) = G) := Lib.hid (by rw [← H1.out, ← H2.out]; exact HG.out)
  have y00 := hC0.out.cell 0 0 rfl rfl
  have y01 := hC0.out.cell 0 1 rfl rfl
  have y10 := hC0.out.cell 1 0 rfl rfl
  have y11 := hC0.out.cell 1 1 rfl rfl
  go_wp2_with fail
  refine (gcd_b (hC0.out.z 0 rfl) (hC0.out.z 1 rfl) E1.out E2.out (by omega) (by omega)).mono ?_
  rintro e w30 ⟨a30, n30, c30, m30, rfl, hz, hb⟩
  rw [HG1.out] at hz
  have hC30 : Hid (St w _ [(w1.heap.size, #[.slice a1 n1 c1, .bool m1], 28), (w2.heap.size, #[.slice a2 n2 c2, .bool m2], 28), (w3.heap.size, #[.slice a3 n3 c3, .bool m3], 28), (w30.heap.size, #[.slice a30 n30 c30, .bool m30], 28)] [fun V => Zd V (.slice a1 n1 c1) m1 (x1), fun V => Zd V (.slice a2 n2 c2) m2 (x2), fun V => Zd V (.slice a3 n3 c3) m3 (x3), fun V => Zd V (.slice a30 n30 c30) m30 (G)]) := Lib.hid (((hC0.out.call hb).pz hz).al w30.heap.size #[.slice a30 n30 c30, .bool m30] 28 rfl rfl)
  clear hb hz hC0
  clear y00 y01 y10 y11
  go_wp2
  refine wp_gen hC30.out ?_
  intro W31 hc
  clear hC30
  have hD31 := Lib.hid hc
  clear hc
  go_region_held3 (fun w' => w'.cell? ⟨w1.heap.size, 0, none⟩ = some (.slice a1 n1 c1) ∧ w'.cell? ⟨w1.heap.size, 1, none⟩ = some (.bool m1) ∧ w'.cell? ⟨w2.heap.size, 0, none⟩ = some (.slice a2 n2 c2) ∧ w'.cell? ⟨w2.heap.size, 1, none⟩ = some (.bool m2) ∧ w'.cell? ⟨w3.heap.size, 0, none⟩ = some (.slice a3 n3 c3) ∧ w'.cell? ⟨w3.heap.size, 1, none⟩ = some (.bool m3) ∧ w'.cell? ⟨w30.heap.size, 0, none⟩ = some (.slice a30 n30 c30) ∧ w'.cell? ⟨w30.heap.size, 1, none⟩ = some (.bool m30) ∧ True)
    (first
      | (with_reducible refine And.intro (?_ : World.cell? w38 _ = _) ?_; exact hC38.out.cell 0 0 rfl rfl; exact ⟨hC38.out.cell 0 1 rfl rfl, hC38.out.cell 1 0 rfl rfl, hC38.out.cell 1 1 rfl rfl, hC38.out.cell 2 0 rfl rfl, hC38.out.cell 2 1 rfl rfl, hC38.out.cell 3 0 rfl rfl, hC38.out.cell 3 1 rfl rfl, trivial⟩)
      | (with_reducible refine And.intro (?_ : World.cell? w37 _ = _) ?_; exact hC37.out.cell 0 0 rfl rfl; exact ⟨hC37.out.cell 0 1 rfl rfl, hC37.out.cell 1 0 rfl rfl, hC37.out.cell 1 1 rfl rfl, hC37.out.cell 2 0 rfl rfl, hC37.out.cell 2 1 rfl rfl, hC37.out.cell 3 0 rfl rfl, hC37.out.cell 3 1 rfl rfl, trivial⟩)
      | (with_reducible refine And.intro (?_ : World.cell? w36 _ = _) ?_; exact hC36.out.cell 0 0 rfl rfl; exact ⟨hC36.out.cell 0 1 rfl rfl, hC36.out.cell 1 0 rfl rfl, hC36.out.cell 1 1 rfl rfl, hC36.out.cell 2 0 rfl rfl, hC36.out.cell 2 1 rfl rfl, hC36.out.cell 3 0 rfl rfl, hC36.out.cell 3 1 rfl rfl, trivial⟩)
      | (with_reducible refine And.intro (?_ : World.cell? w35 _ = _) ?_; exact hC35.out.cell 0 0 rfl rfl; exact ⟨hC35.out.cell 0 1 rfl rfl, hC35.out.cell 1 0 rfl rfl, hC35.out.cell 1 1 rfl rfl, hC35.out.cell 2 0 rfl rfl, hC35.out.cell 2 1 rfl rfl, hC35.out.cell 3 0 rfl rfl, hC35.out.cell 3 1 rfl rfl, trivial⟩)
      | (with_reducible refine And.intro (?_ : World.cell? w34 _ = _) ?_; exact hC34.out.cell 0 0 rfl rfl; exact ⟨hC34.out.cell 0 1 rfl rfl, hC34.out.cell 1 0 rfl rfl, hC34.out.cell 1 1 rfl rfl, hC34.out.cell 2 0 rfl rfl, hC34.out.cell 2 1 rfl rfl, hC34.out.cell 3 0 rfl rfl, hC34.out.cell 3 1 rfl rfl, trivial⟩)
      | (with_reducible refine And.intro (?_ : World.cell? w33 _ = _) ?_; exact hC33.out.cell 0 0 rfl rfl; exact ⟨hC33.out.cell 0 1 rfl rfl, hC33.out.cell 1 0 rfl rfl, hC33.out.cell 1 1 rfl rfl, hC33.out.cell 2 0 rfl rfl, hC33.out.cell 2 1 rfl rfl, hC33.out.cell 3 0 rfl rfl, hC33.out.cell 3 1 rfl rfl, trivial⟩)
      | (with_reducible refine And.intro (?_ : World.cell? w32 _ = _) ?_; exact hC32.out.cell 0 0 rfl rfl; exact ⟨hC32.out.cell 0 1 rfl rfl, hC32.out.cell 1 0 rfl rfl, hC32.out.cell 1 1 rfl rfl, hC32.out.cell 2 0 rfl rfl, hC32.out.cell 2 1 rfl rfl, hC32.out.cell 3 0 rfl rfl, hC32.out.cell 3 1 rfl rfl, trivial⟩)
      | (with_reducible refine And.intro (?_ : World.cell? (World.drew W31) _ = _) ?_; exact hD31.out.drew.cell 0 0 rfl rfl; exact ⟨hD31.out.drew.cell 0 1 rfl rfl, hD31.out.drew.cell 1 0 rfl rfl, hD31.out.drew.cell 1 1 rfl rfl, hD31.out.drew.cell 2 0 rfl rfl, hD31.out.drew.cell 2 1 rfl rfl, hD31.out.drew.cell 3 0 rfl rfl, hD31.out.drew.cell 3 1 rfl rfl, trivial⟩))
    (first
      | (have _t := hC37; go_at_call 8; refine (cmp_is (hC37.out.z 4 rfl) (hC37.out.z 3 rfl) ((E2.out).gcd (E1.out)) BG.out (by omega) (by omega) (sgn_eq (by rw [Int.gcd_comm]; exact HG1.out))).mono ?_; rintro e w38 ⟨rfl, hb⟩; have hC38 : Hid (St w w38 [(w1.heap.size, #[.slice a1 n1 c1, .bool m1], 28), (w2.heap.size, #[.slice a2 n2 c2, .bool m2], 28), (w3.heap.size, #[.slice a3 n3 c3, .bool m3], 28), (w30.heap.size, #[.slice a30 n30 c30, .bool m30], 28)] [fun V => Zd V (.slice a1 n1 c1) m1 (x1), fun V => Zd V (.slice a2 n2 c2) m2 (x2), fun V => Zd V (.slice a3 n3 c3) m3 (x3), fun V => Zd V (.slice a30 n30 c30) m30 (G)]) := Lib.hid (St.pick ((hC37.out.call hb)) [0, 1, 2, 3] rfl); clear hb; clear _t hC37)
      | (have _t := hC36; go_at_call 13; refine (gcd_b (hC36.out.z 1 rfl) (hC36.out.z 0 rfl) E2.out E1.out (by omega) (by omega)).mono ?_; rintro e w37 ⟨a37, n37, c37, m37, rfl, hz, hb⟩; have hC37 : Hid (St w w37 [(w1.heap.size, #[.slice a1 n1 c1, .bool m1], 28), (w2.heap.size, #[.slice a2 n2 c2, .bool m2], 28), (w3.heap.size, #[.slice a3 n3 c3, .bool m3], 28), (w30.heap.size, #[.slice a30 n30 c30, .bool m30], 28)] [fun V => Zd V (.slice a1 n1 c1) m1 (x1), fun V => Zd V (.slice a2 n2 c2) m2 (x2), fun V => Zd V (.slice a3 n3 c3) m3 (x3), fun V => Zd V (.slice a30 n30 c30) m30 (G), fun V => Zd V (.slice a37 n37 c37) m37 (((Int.gcd (x2) (x1) : Nat) : Int))]) := Lib.hid (St.pick ((hC36.out.call hb).pz hz) [0, 1, 2, 3, 4] rfl); clear hb hz; clear _t hC36)
      | (have _t := hC35; go_at_call 8; refine (cmp_is (hC35.out.z 4 rfl) (hC35.out.z 3 rfl) ((((E1.out).add (((E2.out).mul (E3.out))))).gcd (E2.out)) BG.out (by omega) (by omega) (sgn_eq (by rw [Int.gcd_add_mul_left_left]; exact HG1.out))).mono ?_; rintro e w36 ⟨rfl, hb⟩; have hC36 : Hid (St w w36 [(w1.heap.size, #[.slice a1 n1 c1, .bool m1], 28), (w2.heap.size, #[.slice a2 n2 c2, .bool m2], 28), (w3.heap.size, #[.slice a3 n3 c3, .bool m3], 28), (w30.heap.size, #[.slice a30 n30 c30, .bool m30], 28)] [fun V => Zd V (.slice a1 n1 c1) m1 (x1), fun V => Zd V (.slice a2 n2 c2) m2 (x2), fun V => Zd V (.slice a3 n3 c3) m3 (x3), fun V => Zd V (.slice a30 n30 c30) m30 (G)]) := Lib.hid (St.pick ((hC35.out.call hb)) [0, 1, 2, 3] rfl); clear hb; clear _t hC35)
      | (have _t := hC34; go_at_call 13; refine (gcd_b (hC34.out.z 4 rfl) (hC34.out.z 1 rfl) ((E1.out).add (((E2.out).mul (E3.out)))) E2.out (by omega) (by omega)).mono ?_; rintro e w35 ⟨a35, n35, c35, m35, rfl, hz, hb⟩; have hC35 : Hid (St w w35 [(w1.heap.size, #[.slice a1 n1 c1, .bool m1], 28), (w2.heap.size, #[.slice a2 n2 c2, .bool m2], 28), (w3.heap.size, #[.slice a3 n3 c3, .bool m3], 28), (w30.heap.size, #[.slice a30 n30 c30, .bool m30], 28)] [fun V => Zd V (.slice a1 n1 c1) m1 (x1), fun V => Zd V (.slice a2 n2 c2) m2 (x2), fun V => Zd V (.slice a3 n3 c3) m3 (x3), fun V => Zd V (.slice a30 n30 c30) m30 (G), fun V => Zd V (.slice a35 n35 c35) m35 (((Int.gcd ((x1 + (x2 * x3))) (x2) : Nat) : Int))]) := Lib.hid (St.pick ((hC34.out.call hb).pz hz) [0, 1, 2, 3, 5] rfl); clear hb hz; clear _t hC34)
      | (have _t := hC33; go_at_call 7; refine (add_b (hC33.out.z 0 rfl) (hC33.out.z 4 rfl) E1.out ((E2.out).mul (E3.out)) (by omega) (by omega)).mono ?_; rintro e w34 ⟨a34, n34, c34, m34, rfl, hz, hb⟩; have hC34 : Hid (St w w34 [(w1.heap.size, #[.slice a1 n1 c1, .bool m1], 28), (w2.heap.size, #[.slice a2 n2 c2, .bool m2], 28), (w3.heap.size, #[.slice a3 n3 c3, .bool m3], 28), (w30.heap.size, #[.slice a30 n30 c30, .bool m30], 28)] [fun V => Zd V (.slice a1 n1 c1) m1 (x1), fun V => Zd V (.slice a2 n2 c2) m2 (x2), fun V => Zd V (.slice a3 n3 c3) m3 (x3), fun V => Zd V (.slice a30 n30 c30) m30 (G), fun V => Zd V (.slice a34 n34 c34) m34 ((x1 + (x2 * x3)))]) := Lib.hid (St.pick ((hC33.out.call hb).pz hz) [0, 1, 2, 3, 5] rfl); clear hb hz; clear _t hC33)
      | (have _t := hC32; go_at_call 9; refine (mul_b (hC32.out.z 1 rfl) (hC32.out.z 2 rfl) E2.out E3.out (by omega) (by omega)).mono ?_; rintro e w33 ⟨a33, n33, c33, m33, rfl, hz, hb⟩; have hC33 : Hid (St w w33 [(w1.heap.size, #[.slice a1 n1 c1, .bool m1], 28), (w2.heap.size, #[.slice a2 n2 c2, .bool m2], 28), (w3.heap.size, #[.slice a3 n3 c3, .bool m3], 28), (w30.heap.size, #[.slice a30 n30 c30, .bool m30], 28)] [fun V => Zd V (.slice a1 n1 c1) m1 (x1), fun V => Zd V (.slice a2 n2 c2) m2 (x2), fun V => Zd V (.slice a3 n3 c3) m3 (x3), fun V => Zd V (.slice a30 n30 c30) m30 (G), fun V => Zd V (.slice a33 n33 c33) m33 ((x2 * x3))]) := Lib.hid (St.pick ((hC32.out.call hb).pz hz) [0, 1, 2, 3, 4] rfl); clear hb hz; clear _t hC32)
      | (have _t := hD31; go_at_call 11; refine (sign_is (hD31.out.drew.z 3 rfl) HSG.out).mono ?_; rintro e w32 ⟨rfl, hb⟩; have hC32 : Hid (St w w32 [(w1.heap.size, #[.slice a1 n1 c1, .bool m1], 28), (w2.heap.size, #[.slice a2 n2 c2, .bool m2], 28), (w3.heap.size, #[.slice a3 n3 c3, .bool m3], 28), (w30.heap.size, #[.slice a30 n30 c30, .bool m30], 28)] [fun V => Zd V (.slice a1 n1 c1) m1 (x1), fun V => Zd V (.slice a2 n2 c2) m2 (x2), fun V => Zd V (.slice a3 n3 c3) m3 (x3), fun V => Zd V (.slice a30 n30 c30) m30 (G)]) := Lib.hid (St.pick ((hD31.out.drew.call hb)) [0, 1, 2, 3] rfl); clear hb; clear _t hD31)
      | fail)
  go_wp2_with fail
  have y30 := hC38.out.cell 3 0 rfl rfl
  have y31 := hC38.out.cell 3 1 rfl rfl
  go_wp2_with fail
  refine (sign_is (hC38.out.z 3 rfl) HSG.out).mono ?_
  rintro e w39 ⟨rfl, hb⟩
  have hC39 : Hid (St w w39 [(w1.heap.size, #[.slice a1 n1 c1, .bool m1], 28), (w2.heap.size, #[.slice a2 n2 c2, .bool m2], 28), (w3.heap.size, #[.slice a3 n3 c3, .bool m3], 28), (w30.heap.size, #[.slice a30 n30 c30, .bool m30], 28)] [fun V => Zd V (.slice a1 n1 c1) m1 (x1), fun V => Zd V (.slice a2 n2 c2) m2 (x2), fun V => Zd V (.slice a3 n3 c3) m3 (x3), fun V => Zd V (.slice a30 n30 c30) m30 (G)]) := Lib.hid (hC38.out.call hb)
  clear hb hC38
  clear y30 y31
  have y00 := hC39.out.cell 0 0 rfl rfl
  have y01 := hC39.out.cell 0 1 rfl rfl
  have y30 := hC39.out.cell 3 0 rfl rfl
  have y31 := hC39.out.cell 3 1 rfl rfl
  go_wp2_with fail
  refine (quo_b (hC39.out.z 0 rfl) (hC39.out.z 3 rfl) HGN.out E1.out BG.out (by omega) (by omega)).mono ?_
  rintro e w40 ⟨a40, n40, c40, m40, a41, n41, c41, m41, rfl, hz, hz2, hb⟩
  have hC40 : Hid (St w _ [(w1.heap.size, #[.slice a1 n1 c1, .bool m1], 28), (w2.heap.size, #[.slice a2 n2 c2, .bool m2], 28), (w3.heap.size, #[.slice a3 n3 c3, .bool m3], 28), (w30.heap.size, #[.slice a30 n30 c30, .bool m30], 28), (w40.heap.size, #[.slice a40 n40 c40, .bool m40], 28), (w40.heap.size + 1, #[.slice a41 n41 c41, .bool m41], 28)] [fun V => Zd V (.slice a1 n1 c1) m1 (x1), fun V => Zd V (.slice a2 n2 c2) m2 (x2), fun V => Zd V (.slice a3 n3 c3) m3 (x3), fun V => Zd V (.slice a30 n30 c30) m30 (G), fun V => Zd V (.slice a40 n40 c40) m40 (x1 / G), fun V => Zd V (.slice a41 n41 c41) m41 (x1 % G)]) := Lib.hid (((hC39.out.call hb).pz hz |>.pz hz2).al w40.heap.size #[.slice a40 n40 c40, .bool m40] 28 rfl rfl |>.al (w40.heap.size + 1) #[.slice a41 n41 c41, .bool m41] 28 (by simp) rfl)
  clear hb hz hz2 hC39
  clear y00 y01 y30 y31
  have y10 := hC40.out.cell 1 0 rfl rfl
  have y11 := hC40.out.cell 1 1 rfl rfl
  have y30 := hC40.out.cell 3 0 rfl rfl
  have y31 := hC40.out.cell 3 1 rfl rfl
  go_wp2_with fail
  refine (quo_b (hC40.out.z 1 rfl) (hC40.out.z 3 rfl) HGN.out E2.out BG.out (by omega) (by omega)).mono ?_
  rintro e w42 ⟨a42, n42, c42, m42, a43, n43, c43, m43, rfl, hz, hz2, hb⟩
  have hC42 : Hid (St w _ [(w1.heap.size, #[.slice a1 n1 c1, .bool m1], 28), (w2.heap.size, #[.slice a2 n2 c2, .bool m2], 28), (w3.heap.size, #[.slice a3 n3 c3, .bool m3], 28), (w30.heap.size, #[.slice a30 n30 c30, .bool m30], 28), (w40.heap.size, #[.slice a40 n40 c40, .bool m40], 28), (w40.heap.size + 1, #[.slice a41 n41 c41, .bool m41], 28), (w42.heap.size, #[.slice a42 n42 c42, .bool m42], 28), (w42.heap.size + 1, #[.slice a43 n43 c43, .bool m43], 28)] [fun V => Zd V (.slice a1 n1 c1) m1 (x1), fun V => Zd V (.slice a2 n2 c2) m2 (x2), fun V => Zd V (.slice a3 n3 c3) m3 (x3), fun V => Zd V (.slice a30 n30 c30) m30 (G), fun V => Zd V (.slice a40 n40 c40) m40 (x1 / G), fun V => Zd V (.slice a41 n41 c41) m41 (x1 % G), fun V => Zd V (.slice a42 n42 c42) m42 (x2 / G), fun V => Zd V (.slice a43 n43 c43) m43 (x2 % G)]) := Lib.hid (((hC40.out.call hb).pz hz |>.pz hz2).al w42.heap.size #[.slice a42 n42 c42, .bool m42] 28 rfl rfl |>.al (w42.heap.size + 1) #[.slice a43 n43 c43, .bool m43] 28 (by simp) rfl)
  clear hb hz hz2 hC40
  clear y10 y11 y30 y31
  have y50 := hC42.out.cell 5 0 rfl rfl
  have y51 := hC42.out.cell 5 1 rfl rfl
  go_wp2_with fail
  refine (sign_is (hC42.out.z 5 rfl) (sgn_0 HPA.out)).mono ?_
  rintro e w44 ⟨rfl, hb⟩
  have hC44 : Hid (St w w44 [(w1.heap.size, #[.slice a1 n1 c1, .bool m1], 28), (w2.heap.size, #[.slice a2 n2 c2, .bool m2], 28), (w3.heap.size, #[.slice a3 n3 c3, .bool m3], 28), (w30.heap.size, #[.slice a30 n30 c30, .bool m30], 28), (w40.heap.size, #[.slice a40 n40 c40, .bool m40], 28), (w40.heap.size + 1, #[.slice a41 n41 c41, .bool m41], 28), (w42.heap.size, #[.slice a42 n42 c42, .bool m42], 28), (w42.heap.size + 1, #[.slice a43 n43 c43, .bool m43], 28)] [fun V => Zd V (.slice a1 n1 c1) m1 (x1), fun V => Zd V (.slice a2 n2 c2) m2 (x2), fun V => Zd V (.slice a3 n3 c3) m3 (x3), fun V => Zd V (.slice a30 n30 c30) m30 (G), fun V => Zd V (.slice a40 n40 c40) m40 (x1 / G), fun V => Zd V (.slice a41 n41 c41) m41 (x1 % G), fun V => Zd V (.slice a42 n42 c42) m42 (x2 / G), fun V => Zd V (.slice a43 n43 c43) m43 (x2 % G)]) := Lib.hid (hC42.out.call hb)
  clear hb hC42
  clear y50 y51
  have y70 := hC44.out.cell 7 0 rfl rfl
  have y71 := hC44.out.cell 7 1 rfl rfl
  go_wp2_with fail
  refine (sign_is (hC44.out.z 7 rfl) (sgn_0 HPB.out)).mono ?_
  rintro e w45 ⟨rfl, hb⟩
  have hC45 : Hid (St w w45 [(w1.heap.size, #[.slice a1 n1 c1, .bool m1], 28), (w2.heap.size, #[.slice a2 n2 c2, .bool m2], 28), (w3.heap.size, #[.slice a3 n3 c3, .bool m3], 28), (w30.heap.size, #[.slice a30 n30 c30, .bool m30], 28), (w40.heap.size, #[.slice a40 n40 c40, .bool m40], 28), (w40.heap.size + 1, #[.slice a41 n41 c41, .bool m41], 28), (w42.heap.size, #[.slice a42 n42 c42, .bool m42], 28), (w42.heap.size + 1, #[.slice a43 n43 c43, .bool m43], 28)] [fun V => Zd V (.slice a1 n1 c1) m1 (x1), fun V => Zd V (.slice a2 n2 c2) m2 (x2), fun V => Zd V (.slice a3 n3 c3) m3 (x3), fun V => Zd V (.slice a30 n30 c30) m30 (G), fun V => Zd V (.slice a40 n40 c40) m40 (x1 / G), fun V => Zd V (.slice a41 n41 c41) m41 (x1 % G), fun V => Zd V (.slice a42 n42 c42) m42 (x2 / G), fun V => Zd V (.slice a43 n43 c43) m43 (x2 % G)]) := Lib.hid (hC44.out.call hb)
  clear hb hC44
  clear y70 y71
  have y10 := hC45.out.cell 1 0 rfl rfl
  have y11 := hC45.out.cell 1 1 rfl rfl
  go_wp2_with fail
  refine (sign_is (hC45.out.z 1 rfl) HSB.out).mono ?_
  rintro e w46 ⟨rfl, hb⟩
  have hC46 : Hid (St w w46 [(w1.heap.size, #[.slice a1 n1 c1, .bool m1], 28), (w2.heap.size, #[.slice a2 n2 c2, .bool m2], 28), (w3.heap.size, #[.slice a3 n3 c3, .bool m3], 28), (w30.heap.size, #[.slice a30 n30 c30, .bool m30], 28), (w40.heap.size, #[.slice a40 n40 c40, .bool m40], 28), (w40.heap.size + 1, #[.slice a41 n41 c41, .bool m41], 28), (w42.heap.size, #[.slice a42 n42 c42, .bool m42], 28), (w42.heap.size + 1, #[.slice a43 n43 c43, .bool m43], 28)] [fun V => Zd V (.slice a1 n1 c1) m1 (x1), fun V => Zd V (.slice a2 n2 c2) m2 (x2), fun V => Zd V (.slice a3 n3 c3) m3 (x3), fun V => Zd V (.slice a30 n30 c30) m30 (G), fun V => Zd V (.slice a40 n40 c40) m40 (x1 / G), fun V => Zd V (.slice a41 n41 c41) m41 (x1 % G), fun V => Zd V (.slice a42 n42 c42) m42 (x2 / G), fun V => Zd V (.slice a43 n43 c43) m43 (x2 % G)]) := Lib.hid (hC45.out.call hb)
  clear hb hC45
  clear y10 y11
  go_wp2_with fail
  refine (awake_any _).mono ?_
  rintro e w47 ⟨rfl, hb⟩
  have hC47 : Hid (St w w47 [(w1.heap.size, #[.slice a1 n1 c1, .bool m1], 28), (w2.heap.size, #[.slice a2 n2 c2, .bool m2], 28), (w3.heap.size, #[.slice a3 n3 c3, .bool m3], 28), (w30.heap.size, #[.slice a30 n30 c30, .bool m30], 28), (w40.heap.size, #[.slice a40 n40 c40, .bool m40], 28), (w40.heap.size + 1, #[.slice a41 n41 c41, .bool m41], 28), (w42.heap.size, #[.slice a42 n42 c42, .bool m42], 28), (w42.heap.size + 1, #[.slice a43 n43 c43, .bool m43], 28)] [fun V => Zd V (.slice a1 n1 c1) m1 (x1), fun V => Zd V (.slice a2 n2 c2) m2 (x2), fun V => Zd V (.slice a3 n3 c3) m3 (x3), fun V => Zd V (.slice a30 n30 c30) m30 (G), fun V => Zd V (.slice a40 n40 c40) m40 (x1 / G), fun V => Zd V (.slice a41 n41 c41) m41 (x1 % G), fun V => Zd V (.slice a42 n42 c42) m42 (x2 / G), fun V => Zd V (.slice a43 n43 c43) m43 (x2 % G)]) := Lib.hid (hC46.out.call hb)
  clear hb hC46
  go_wp2
  go_ret
  exact ⟨rfl, hC47.out.be⟩

set_option maxRecDepth 100000 in
set_option maxHeartbeats 8000000 in
theorem divides_2 (A1 B1 C1 P1 : Int) (A2 B2 C2 P2 : Int) (A3 B3 C3 P3 : Int) (w : World) (hA1 : -9223372036854775808 ≤ A1 ∧ A1 < 9223372036854775808) (hB1 : -9223372036854775808 ≤ B1 ∧ B1 < 9223372036854775808) (hC1 : -9223372036854775808 ≤ C1 ∧ C1 < 9223372036854775808) (hP1 : 0 ≤ P1 ∧ P1 < 256) (hA2 : -9223372036854775808 ≤ A2 ∧ A2 < 9223372036854775808) (hB2 : -9223372036854775808 ≤ B2 ∧ B2 < 9223372036854775808) (hC2 : -9223372036854775808 ≤ C2 ∧ C2 < 9223372036854775808) (hP2 : 0 ≤ P2 ∧ P2 < 256) (hA3 : -9223372036854775808 ≤ A3 ∧ A3 < 9223372036854775808) (hB3 : -9223372036854775808 ≤ B3 ∧ B3 < 9223372036854775808) (hC3 : -9223372036854775808 ≤ C3 ∧ C3 < 9223372036854775808) (hP3 : 0 ≤ P3 ∧ P3 < 256) (hb0 : big A2 B2 C2 P2 ≠ 0) :
    Calls Tryd.prog 4 #[.agg #[.int .i64 A1, .int .i64 B1, .int .i64 C1, .int .u8 P1], .agg #[.int .i64 A2, .int .i64 B2, .int .i64 C2, .int .u8 P2], .agg #[.int .i64 A3, .int .i64 B3, .int .i64 C3, .int .u8 P3]] w (fun e w' => e = .returned (.bool true) ∧ Below w.heap.size w w') := by
  obtain ⟨G, hG⟩ : ∃ G : Int, ((Int.gcd (big A1 B1 C1 P1) (big A2 B2 C2 P2) : Nat) : Int) = G := ⟨_, rfl⟩
  have hG0 : 0 ≤ G := by omega
  obtain ⟨x1, h1, b1⟩ : ∃ x : Int, big A1 B1 C1 P1 = x ∧ Bd 772 x := ⟨_, rfl, big_bd hA1 hB1 hC1⟩
  have H1 := Lib.hid h1
  have E1 := Lib.hid b1
  clear h1 b1
  have HA1 := Lib.hid hA1
  clear hA1
  have HB1 := Lib.hid hB1
  clear hB1
  have HC1 := Lib.hid hC1
  clear hC1
  have HP1 := Lib.hid hP1
  clear hP1
  obtain ⟨x2, h1, b1⟩ : ∃ x : Int, big A2 B2 C2 P2 = x ∧ Bd 772 x := ⟨_, rfl, big_bd hA2 hB2 hC2⟩
  have H2 := Lib.hid h1
  have E2 := Lib.hid b1
  clear h1 b1
  have HA2 := Lib.hid hA2
  clear hA2
  have HB2 := Lib.hid hB2
  clear hB2
  have HC2 := Lib.hid hC2
  clear hC2
  have HP2 := Lib.hid hP2
  clear hP2
  obtain ⟨x3, h1, b1⟩ : ∃ x : Int, big A3 B3 C3 P3 = x ∧ Bd 772 x := ⟨_, rfl, big_bd hA3 hB3 hC3⟩
  have H3 := Lib.hid h1
  have E3 := Lib.hid b1
  clear h1 b1
  have HA3 := Lib.hid hA3
  clear hA3
  have HB3 := Lib.hid hB3
  clear hB3
  have HC3 := Lib.hid hC3
  clear hC3
  have HP3 := Lib.hid hP3
  clear hP3
  have hC := Lib.hid ((((St.enter w).al (w.heap.size) #[.int .i64 A1, .int .i64 B1, .int .i64 C1, .int .u8 P1] 23 rfl rfl).al (w.heap.size + 1) #[.int .i64 A2, .int .i64 B2, .int .i64 C2, .int .u8 P2] 23 (by simp) rfl).al (w.heap.size + 2) #[.int .i64 A3, .int .i64 B3, .int .i64 C3, .int .u8 P3] 23 (by simp) rfl)
  have HG := Lib.hid hG
  clear hG
  have BG : Hid (Bd 1544 G) := Lib.hid (by rw [← HG.out, H1.out, H2.out]; exact E1.out.gcd E2.out)
  have HGX : Hid (((Int.gcd x1 x2 : Nat) : Int) = G) := Lib.hid (by rw [← H1.out, ← H2.out]; exact HG.out)
  have HGN : Hid (G ≠ 0) := Lib.hid (by
    rw [← HG.out]
    intro e
    have := Int.gcd_eq_zero_iff.1 (Int.natCast_eq_zero.1 e)
    exact hb0 this.2)
  have HSG : Hid (sgn G = 1) := Lib.hid (sgn_1 (by have := HGN.out; omega))
  have HPA : Hid (x1 % G = 0) := Lib.hid (by rw [← HGX.out]; exact Int.emod_eq_zero_of_dvd (Int.gcd_dvd_left _ _))
  have HPB : Hid (x2 % G = 0) := Lib.hid (by rw [← HGX.out]; exact Int.emod_eq_zero_of_dvd (Int.gcd_dvd_right _ _))
  have HBN : Hid (x2 ≠ 0) := Lib.hid (by rw [← H2.out]; exact hb0)
  obtain ⟨u, hu⟩ : ∃ u : Int, sgn x2 = u := ⟨_, rfl⟩
  have HSB := Lib.hid hu
  have du : (u == 0) = false := by
    have := HBN.out
    rw [← hu]
    unfold sgn
    rw [if_neg this]
    split <;> rfl
  obtain ⟨v, hv⟩ : ∃ v : Int, sgn (x1 % x2) = v := ⟨_, rfl⟩
  have hv0 : 0 ≤ v := by rw [← hv]; exact sgn_ge (Int.emod_nonneg _ HBN.out)
  have dv : decide (0 ≤ v) = true := by simpa using hv0
  have HVM := Lib.hid hv
  have HLT : Hid (x1 % x2 - ((x2.natAbs : Nat) : Int) < 0) := Lib.hid (by have := Int.emod_lt x1 HBN.out; omega)
  clear hb0 hG0 hu hv
  go_enter Tryd.func4, Tryd.ntmps4
  have y0 := hC.out.cell 0 0 rfl rfl
  have y1 := hC.out.cell 0 1 rfl rfl
  have y2 := hC.out.cell 0 2 rfl rfl
  have y3 := hC.out.cell 0 3 rfl rfl
  go_wp2_with fail
  refine (bothZ_any A1 B1 C1 P1 _ HA1.out HB1.out HC1.out HP1.out).mono ?_
  rintro e w1 ⟨a1, n1, c1, m1, s11, a11, n11, c11, rfl, hz, hn, hb⟩
  rw [H1.out] at hz hn
  have hC1 := Lib.hid ((((hC.out.call hb).pz hz).pn hn |>.al w1.heap.size #[.slice a1 n1 c1, .bool m1] 28 rfl rfl).al (w1.heap.size + 1) #[.int .i64 s11, .slice a11 n11 c11] 31 (by simp) rfl)
  clear hz hn hb hC y0 y1 y2 y3
  have y0 := hC1.out.cell 1 0 rfl rfl
  have y1 := hC1.out.cell 1 1 rfl rfl
  have y2 := hC1.out.cell 1 2 rfl rfl
  have y3 := hC1.out.cell 1 3 rfl rfl
  go_wp2_with fail
  refine (bothZ_any A2 B2 C2 P2 _ HA2.out HB2.out HC2.out HP2.out).mono ?_
  rintro e w2 ⟨a2, n2, c2, m2, s12, a12, n12, c12, rfl, hz, hn, hb⟩
  rw [H2.out] at hz hn
  have hC2 := Lib.hid ((((hC1.out.call hb).pz hz).pn hn |>.al w2.heap.size #[.slice a2 n2 c2, .bool m2] 28 rfl rfl).al (w2.heap.size + 1) #[.int .i64 s12, .slice a12 n12 c12] 31 (by simp) rfl)
  clear hz hn hb hC1 y0 y1 y2 y3
  have y0 := hC2.out.cell 2 0 rfl rfl
  have y1 := hC2.out.cell 2 1 rfl rfl
  have y2 := hC2.out.cell 2 2 rfl rfl
  have y3 := hC2.out.cell 2 3 rfl rfl
  go_wp2_with fail
  refine (bothZ_any A3 B3 C3 P3 _ HA3.out HB3.out HC3.out HP3.out).mono ?_
  rintro e w3 ⟨a3, n3, c3, m3, s13, a13, n13, c13, rfl, hz, hn, hb⟩
  rw [H3.out] at hz hn
  have hC3 := Lib.hid ((((hC2.out.call hb).pz hz).pn hn |>.al w3.heap.size #[.slice a3 n3 c3, .bool m3] 28 rfl rfl).al (w3.heap.size + 1) #[.int .i64 s13, .slice a13 n13 c13] 31 (by simp) rfl)
  clear hz hn hb hC2 y0 y1 y2 y3
  go_upto_region 4 with fail
  refine wp_gen ((hC3.out.pick [0, 2, 4] (rs' := [fun V => Zd V (.slice a1 n1 c1) m1 (x1), fun V => Zd V (.slice a2 n2 c2) m2 (x2), fun V => Zd V (.slice a3 n3 c3) m3 (x3)]) rfl).bpick [3, 5, 7] (by decide) (bs' := [(w1.heap.size, #[.slice a1 n1 c1, .bool m1], 28), (w2.heap.size, #[.slice a2 n2 c2, .bool m2], 28), (w3.heap.size, #[.slice a3 n3 c3, .bool m3], 28)]) rfl) ?_
  intro W hc
  clear hC3
  have hC0 := Lib.hid hc
  clear hc
  have HG1 : Hid (((Int.gcd x1 x2 : Nat) : Int) = G) := Lib.hid (by rw [← H1.out, ← H2.out]; exact HG.out)
  have y00 := hC0.out.cell 0 0 rfl rfl
  have y01 := hC0.out.cell 0 1 rfl rfl
  have y10 := hC0.out.cell 1 0 rfl rfl
  have y11 := hC0.out.cell 1 1 rfl rfl
  go_wp2_with fail
  refine (gcd_b (hC0.out.z 0 rfl) (hC0.out.z 1 rfl) E1.out E2.out (by omega) (by omega)).mono ?_
  rintro e w30 ⟨a30, n30, c30, m30, rfl, hz, hb⟩
  rw [HG1.out] at hz
  have hC30 : Hid (St w _ [(w1.heap.size, #[.slice a1 n1 c1, .bool m1], 28), (w2.heap.size, #[.slice a2 n2 c2, .bool m2], 28), (w3.heap.size, #[.slice a3 n3 c3, .bool m3], 28), (w30.heap.size, #[.slice a30 n30 c30, .bool m30], 28)] [fun V => Zd V (.slice a1 n1 c1) m1 (x1), fun V => Zd V (.slice a2 n2 c2) m2 (x2), fun V => Zd V (.slice a3 n3 c3) m3 (x3), fun V => Zd V (.slice a30 n30 c30) m30 (G)]) := Lib.hid (((hC0.out.call hb).pz hz).al w30.heap.size #[.slice a30 n30 c30, .bool m30] 28 rfl rfl)
  clear hb hz hC0
  clear y00 y01 y10 y11
  go_wp2
  refine wp_gen hC30.out ?_
  intro W31 hc
  clear hC30
  have hD31 := Lib.hid hc
  clear hc
  go_region_held3 (fun w' => w'.cell? ⟨w1.heap.size, 0, none⟩ = some (.slice a1 n1 c1) ∧ w'.cell? ⟨w1.heap.size, 1, none⟩ = some (.bool m1) ∧ w'.cell? ⟨w2.heap.size, 0, none⟩ = some (.slice a2 n2 c2) ∧ w'.cell? ⟨w2.heap.size, 1, none⟩ = some (.bool m2) ∧ w'.cell? ⟨w3.heap.size, 0, none⟩ = some (.slice a3 n3 c3) ∧ w'.cell? ⟨w3.heap.size, 1, none⟩ = some (.bool m3) ∧ w'.cell? ⟨w30.heap.size, 0, none⟩ = some (.slice a30 n30 c30) ∧ w'.cell? ⟨w30.heap.size, 1, none⟩ = some (.bool m30) ∧ True)
    (first
      | (with_reducible refine And.intro (?_ : World.cell? w38 _ = _) ?_; exact hC38.out.cell 0 0 rfl rfl; exact ⟨hC38.out.cell 0 1 rfl rfl, hC38.out.cell 1 0 rfl rfl, hC38.out.cell 1 1 rfl rfl, hC38.out.cell 2 0 rfl rfl, hC38.out.cell 2 1 rfl rfl, hC38.out.cell 3 0 rfl rfl, hC38.out.cell 3 1 rfl rfl, trivial⟩)
      | (with_reducible refine And.intro (?_ : World.cell? w37 _ = _) ?_; exact hC37.out.cell 0 0 rfl rfl; exact ⟨hC37.out.cell 0 1 rfl rfl, hC37.out.cell 1 0 rfl rfl, hC37.out.cell 1 1 rfl rfl, hC37.out.cell 2 0 rfl rfl, hC37.out.cell 2 1 rfl rfl, hC37.out.cell 3 0 rfl rfl, hC37.out.cell 3 1 rfl rfl, trivial⟩)
      | (with_reducible refine And.intro (?_ : World.cell? w36 _ = _) ?_; exact hC36.out.cell 0 0 rfl rfl; exact ⟨hC36.out.cell 0 1 rfl rfl, hC36.out.cell 1 0 rfl rfl, hC36.out.cell 1 1 rfl rfl, hC36.out.cell 2 0 rfl rfl, hC36.out.cell 2 1 rfl rfl, hC36.out.cell 3 0 rfl rfl, hC36.out.cell 3 1 rfl rfl, trivial⟩)
      | (with_reducible refine And.intro (?_ : World.cell? w35 _ = _) ?_; exact hC35.out.cell 0 0 rfl rfl; exact ⟨hC35.out.cell 0 1 rfl rfl, hC35.out.cell 1 0 rfl rfl, hC35.out.cell 1 1 rfl rfl, hC35.out.cell 2 0 rfl rfl, hC35.out.cell 2 1 rfl rfl, hC35.out.cell 3 0 rfl rfl, hC35.out.cell 3 1 rfl rfl, trivial⟩)
      | (with_reducible refine And.intro (?_ : World.cell? w34 _ = _) ?_; exact hC34.out.cell 0 0 rfl rfl; exact ⟨hC34.out.cell 0 1 rfl rfl, hC34.out.cell 1 0 rfl rfl, hC34.out.cell 1 1 rfl rfl, hC34.out.cell 2 0 rfl rfl, hC34.out.cell 2 1 rfl rfl, hC34.out.cell 3 0 rfl rfl, hC34.out.cell 3 1 rfl rfl, trivial⟩)
      | (with_reducible refine And.intro (?_ : World.cell? w33 _ = _) ?_; exact hC33.out.cell 0 0 rfl rfl; exact ⟨hC33.out.cell 0 1 rfl rfl, hC33.out.cell 1 0 rfl rfl, hC33.out.cell 1 1 rfl rfl, hC33.out.cell 2 0 rfl rfl, hC33.out.cell 2 1 rfl rfl, hC33.out.cell 3 0 rfl rfl, hC33.out.cell 3 1 rfl rfl, trivial⟩)
      | (with_reducible refine And.intro (?_ : World.cell? w32 _ = _) ?_; exact hC32.out.cell 0 0 rfl rfl; exact ⟨hC32.out.cell 0 1 rfl rfl, hC32.out.cell 1 0 rfl rfl, hC32.out.cell 1 1 rfl rfl, hC32.out.cell 2 0 rfl rfl, hC32.out.cell 2 1 rfl rfl, hC32.out.cell 3 0 rfl rfl, hC32.out.cell 3 1 rfl rfl, trivial⟩)
      | (with_reducible refine And.intro (?_ : World.cell? (World.drew W31) _ = _) ?_; exact hD31.out.drew.cell 0 0 rfl rfl; exact ⟨hD31.out.drew.cell 0 1 rfl rfl, hD31.out.drew.cell 1 0 rfl rfl, hD31.out.drew.cell 1 1 rfl rfl, hD31.out.drew.cell 2 0 rfl rfl, hD31.out.drew.cell 2 1 rfl rfl, hD31.out.drew.cell 3 0 rfl rfl, hD31.out.drew.cell 3 1 rfl rfl, trivial⟩))
    (first
      | (have _t := hC37; go_at_call 8; refine (cmp_is (hC37.out.z 4 rfl) (hC37.out.z 3 rfl) ((E2.out).gcd (E1.out)) BG.out (by omega) (by omega) (sgn_eq (by rw [Int.gcd_comm]; exact HG1.out))).mono ?_; rintro e w38 ⟨rfl, hb⟩; have hC38 : Hid (St w w38 [(w1.heap.size, #[.slice a1 n1 c1, .bool m1], 28), (w2.heap.size, #[.slice a2 n2 c2, .bool m2], 28), (w3.heap.size, #[.slice a3 n3 c3, .bool m3], 28), (w30.heap.size, #[.slice a30 n30 c30, .bool m30], 28)] [fun V => Zd V (.slice a1 n1 c1) m1 (x1), fun V => Zd V (.slice a2 n2 c2) m2 (x2), fun V => Zd V (.slice a3 n3 c3) m3 (x3), fun V => Zd V (.slice a30 n30 c30) m30 (G)]) := Lib.hid (St.pick ((hC37.out.call hb)) [0, 1, 2, 3] rfl); clear hb; clear _t hC37)
      | (have _t := hC36; go_at_call 13; refine (gcd_b (hC36.out.z 1 rfl) (hC36.out.z 0 rfl) E2.out E1.out (by omega) (by omega)).mono ?_; rintro e w37 ⟨a37, n37, c37, m37, rfl, hz, hb⟩; have hC37 : Hid (St w w37 [(w1.heap.size, #[.slice a1 n1 c1, .bool m1], 28), (w2.heap.size, #[.slice a2 n2 c2, .bool m2], 28), (w3.heap.size, #[.slice a3 n3 c3, .bool m3], 28), (w30.heap.size, #[.slice a30 n30 c30, .bool m30], 28)] [fun V => Zd V (.slice a1 n1 c1) m1 (x1), fun V => Zd V (.slice a2 n2 c2) m2 (x2), fun V => Zd V (.slice a3 n3 c3) m3 (x3), fun V => Zd V (.slice a30 n30 c30) m30 (G), fun V => Zd V (.slice a37 n37 c37) m37 (((Int.gcd (x2) (x1) : Nat) : Int))]) := Lib.hid (St.pick ((hC36.out.call hb).pz hz) [0, 1, 2, 3, 4] rfl); clear hb hz; clear _t hC36)
      | (have _t := hC35; go_at_call 8; refine (cmp_is (hC35.out.z 4 rfl) (hC35.out.z 3 rfl) ((((E1.out).add (((E2.out).mul (E3.out))))).gcd (E2.out)) BG.out (by omega) (by omega) (sgn_eq (by rw [Int.gcd_add_mul_left_left]; exact HG1.out))).mono ?_; rintro e w36 ⟨rfl, hb⟩; have hC36 : Hid (St w w36 [(w1.heap.size, #[.slice a1 n1 c1, .bool m1], 28), (w2.heap.size, #[.slice a2 n2 c2, .bool m2], 28), (w3.heap.size, #[.slice a3 n3 c3, .bool m3], 28), (w30.heap.size, #[.slice a30 n30 c30, .bool m30], 28)] [fun V => Zd V (.slice a1 n1 c1) m1 (x1), fun V => Zd V (.slice a2 n2 c2) m2 (x2), fun V => Zd V (.slice a3 n3 c3) m3 (x3), fun V => Zd V (.slice a30 n30 c30) m30 (G)]) := Lib.hid (St.pick ((hC35.out.call hb)) [0, 1, 2, 3] rfl); clear hb; clear _t hC35)
      | (have _t := hC34; go_at_call 13; refine (gcd_b (hC34.out.z 4 rfl) (hC34.out.z 1 rfl) ((E1.out).add (((E2.out).mul (E3.out)))) E2.out (by omega) (by omega)).mono ?_; rintro e w35 ⟨a35, n35, c35, m35, rfl, hz, hb⟩; have hC35 : Hid (St w w35 [(w1.heap.size, #[.slice a1 n1 c1, .bool m1], 28), (w2.heap.size, #[.slice a2 n2 c2, .bool m2], 28), (w3.heap.size, #[.slice a3 n3 c3, .bool m3], 28), (w30.heap.size, #[.slice a30 n30 c30, .bool m30], 28)] [fun V => Zd V (.slice a1 n1 c1) m1 (x1), fun V => Zd V (.slice a2 n2 c2) m2 (x2), fun V => Zd V (.slice a3 n3 c3) m3 (x3), fun V => Zd V (.slice a30 n30 c30) m30 (G), fun V => Zd V (.slice a35 n35 c35) m35 (((Int.gcd ((x1 + (x2 * x3))) (x2) : Nat) : Int))]) := Lib.hid (St.pick ((hC34.out.call hb).pz hz) [0, 1, 2, 3, 5] rfl); clear hb hz; clear _t hC34)
      | (have _t := hC33; go_at_call 7; refine (add_b (hC33.out.z 0 rfl) (hC33.out.z 4 rfl) E1.out ((E2.out).mul (E3.out)) (by omega) (by omega)).mono ?_; rintro e w34 ⟨a34, n34, c34, m34, rfl, hz, hb⟩; have hC34 : Hid (St w w34 [(w1.heap.size, #[.slice a1 n1 c1, .bool m1], 28), (w2.heap.size, #[.slice a2 n2 c2, .bool m2], 28), (w3.heap.size, #[.slice a3 n3 c3, .bool m3], 28), (w30.heap.size, #[.slice a30 n30 c30, .bool m30], 28)] [fun V => Zd V (.slice a1 n1 c1) m1 (x1), fun V => Zd V (.slice a2 n2 c2) m2 (x2), fun V => Zd V (.slice a3 n3 c3) m3 (x3), fun V => Zd V (.slice a30 n30 c30) m30 (G), fun V => Zd V (.slice a34 n34 c34) m34 ((x1 + (x2 * x3)))]) := Lib.hid (St.pick ((hC33.out.call hb).pz hz) [0, 1, 2, 3, 5] rfl); clear hb hz; clear _t hC33)
      | (have _t := hC32; go_at_call 9; refine (mul_b (hC32.out.z 1 rfl) (hC32.out.z 2 rfl) E2.out E3.out (by omega) (by omega)).mono ?_; rintro e w33 ⟨a33, n33, c33, m33, rfl, hz, hb⟩; have hC33 : Hid (St w w33 [(w1.heap.size, #[.slice a1 n1 c1, .bool m1], 28), (w2.heap.size, #[.slice a2 n2 c2, .bool m2], 28), (w3.heap.size, #[.slice a3 n3 c3, .bool m3], 28), (w30.heap.size, #[.slice a30 n30 c30, .bool m30], 28)] [fun V => Zd V (.slice a1 n1 c1) m1 (x1), fun V => Zd V (.slice a2 n2 c2) m2 (x2), fun V => Zd V (.slice a3 n3 c3) m3 (x3), fun V => Zd V (.slice a30 n30 c30) m30 (G), fun V => Zd V (.slice a33 n33 c33) m33 ((x2 * x3))]) := Lib.hid (St.pick ((hC32.out.call hb).pz hz) [0, 1, 2, 3, 4] rfl); clear hb hz; clear _t hC32)
      | (have _t := hD31; go_at_call 11; refine (sign_is (hD31.out.drew.z 3 rfl) HSG.out).mono ?_; rintro e w32 ⟨rfl, hb⟩; have hC32 : Hid (St w w32 [(w1.heap.size, #[.slice a1 n1 c1, .bool m1], 28), (w2.heap.size, #[.slice a2 n2 c2, .bool m2], 28), (w3.heap.size, #[.slice a3 n3 c3, .bool m3], 28), (w30.heap.size, #[.slice a30 n30 c30, .bool m30], 28)] [fun V => Zd V (.slice a1 n1 c1) m1 (x1), fun V => Zd V (.slice a2 n2 c2) m2 (x2), fun V => Zd V (.slice a3 n3 c3) m3 (x3), fun V => Zd V (.slice a30 n30 c30) m30 (G)]) := Lib.hid (St.pick ((hD31.out.drew.call hb)) [0, 1, 2, 3] rfl); clear hb; clear _t hD31)
      | fail)
  go_wp2_with fail
  have y30 := hC38.out.cell 3 0 rfl rfl
  have y31 := hC38.out.cell 3 1 rfl rfl
  go_wp2_with fail
  refine (sign_is (hC38.out.z 3 rfl) HSG.out).mono ?_
  rintro e w39 ⟨rfl, hb⟩
  have hC39 : Hid (St w w39 [(w1.heap.size, #[.slice a1 n1 c1, .bool m1], 28), (w2.heap.size, #[.slice a2 n2 c2, .bool m2], 28), (w3.heap.size, #[.slice a3 n3 c3, .bool m3], 28), (w30.heap.size, #[.slice a30 n30 c30, .bool m30], 28)] [fun V => Zd V (.slice a1 n1 c1) m1 (x1), fun V => Zd V (.slice a2 n2 c2) m2 (x2), fun V => Zd V (.slice a3 n3 c3) m3 (x3), fun V => Zd V (.slice a30 n30 c30) m30 (G)]) := Lib.hid (hC38.out.call hb)
  clear hb hC38
  clear y30 y31
  have y00 := hC39.out.cell 0 0 rfl rfl
  have y01 := hC39.out.cell 0 1 rfl rfl
  have y30 := hC39.out.cell 3 0 rfl rfl
  have y31 := hC39.out.cell 3 1 rfl rfl
  go_wp2_with fail
  refine (quo_b (hC39.out.z 0 rfl) (hC39.out.z 3 rfl) HGN.out E1.out BG.out (by omega) (by omega)).mono ?_
  rintro e w40 ⟨a40, n40, c40, m40, a41, n41, c41, m41, rfl, hz, hz2, hb⟩
  have hC40 : Hid (St w _ [(w1.heap.size, #[.slice a1 n1 c1, .bool m1], 28), (w2.heap.size, #[.slice a2 n2 c2, .bool m2], 28), (w3.heap.size, #[.slice a3 n3 c3, .bool m3], 28), (w30.heap.size, #[.slice a30 n30 c30, .bool m30], 28), (w40.heap.size, #[.slice a40 n40 c40, .bool m40], 28), (w40.heap.size + 1, #[.slice a41 n41 c41, .bool m41], 28)] [fun V => Zd V (.slice a1 n1 c1) m1 (x1), fun V => Zd V (.slice a2 n2 c2) m2 (x2), fun V => Zd V (.slice a3 n3 c3) m3 (x3), fun V => Zd V (.slice a30 n30 c30) m30 (G), fun V => Zd V (.slice a40 n40 c40) m40 (x1 / G), fun V => Zd V (.slice a41 n41 c41) m41 (x1 % G)]) := Lib.hid (((hC39.out.call hb).pz hz |>.pz hz2).al w40.heap.size #[.slice a40 n40 c40, .bool m40] 28 rfl rfl |>.al (w40.heap.size + 1) #[.slice a41 n41 c41, .bool m41] 28 (by simp) rfl)
  clear hb hz hz2 hC39
  clear y00 y01 y30 y31
  have y10 := hC40.out.cell 1 0 rfl rfl
  have y11 := hC40.out.cell 1 1 rfl rfl
  have y30 := hC40.out.cell 3 0 rfl rfl
  have y31 := hC40.out.cell 3 1 rfl rfl
  go_wp2_with fail
  refine (quo_b (hC40.out.z 1 rfl) (hC40.out.z 3 rfl) HGN.out E2.out BG.out (by omega) (by omega)).mono ?_
  rintro e w42 ⟨a42, n42, c42, m42, a43, n43, c43, m43, rfl, hz, hz2, hb⟩
  have hC42 : Hid (St w _ [(w1.heap.size, #[.slice a1 n1 c1, .bool m1], 28), (w2.heap.size, #[.slice a2 n2 c2, .bool m2], 28), (w3.heap.size, #[.slice a3 n3 c3, .bool m3], 28), (w30.heap.size, #[.slice a30 n30 c30, .bool m30], 28), (w40.heap.size, #[.slice a40 n40 c40, .bool m40], 28), (w40.heap.size + 1, #[.slice a41 n41 c41, .bool m41], 28), (w42.heap.size, #[.slice a42 n42 c42, .bool m42], 28), (w42.heap.size + 1, #[.slice a43 n43 c43, .bool m43], 28)] [fun V => Zd V (.slice a1 n1 c1) m1 (x1), fun V => Zd V (.slice a2 n2 c2) m2 (x2), fun V => Zd V (.slice a3 n3 c3) m3 (x3), fun V => Zd V (.slice a30 n30 c30) m30 (G), fun V => Zd V (.slice a40 n40 c40) m40 (x1 / G), fun V => Zd V (.slice a41 n41 c41) m41 (x1 % G), fun V => Zd V (.slice a42 n42 c42) m42 (x2 / G), fun V => Zd V (.slice a43 n43 c43) m43 (x2 % G)]) := Lib.hid (((hC40.out.call hb).pz hz |>.pz hz2).al w42.heap.size #[.slice a42 n42 c42, .bool m42] 28 rfl rfl |>.al (w42.heap.size + 1) #[.slice a43 n43 c43, .bool m43] 28 (by simp) rfl)
  clear hb hz hz2 hC40
  clear y10 y11 y30 y31
  have y50 := hC42.out.cell 5 0 rfl rfl
  have y51 := hC42.out.cell 5 1 rfl rfl
  go_wp2_with fail
  refine (sign_is (hC42.out.z 5 rfl) (sgn_0 HPA.out)).mono ?_
  rintro e w44 ⟨rfl, hb⟩
  have hC44 : Hid (St w w44 [(w1.heap.size, #[.slice a1 n1 c1, .bool m1], 28), (w2.heap.size, #[.slice a2 n2 c2, .bool m2], 28), (w3.heap.size, #[.slice a3 n3 c3, .bool m3], 28), (w30.heap.size, #[.slice a30 n30 c30, .bool m30], 28), (w40.heap.size, #[.slice a40 n40 c40, .bool m40], 28), (w40.heap.size + 1, #[.slice a41 n41 c41, .bool m41], 28), (w42.heap.size, #[.slice a42 n42 c42, .bool m42], 28), (w42.heap.size + 1, #[.slice a43 n43 c43, .bool m43], 28)] [fun V => Zd V (.slice a1 n1 c1) m1 (x1), fun V => Zd V (.slice a2 n2 c2) m2 (x2), fun V => Zd V (.slice a3 n3 c3) m3 (x3), fun V => Zd V (.slice a30 n30 c30) m30 (G), fun V => Zd V (.slice a40 n40 c40) m40 (x1 / G), fun V => Zd V (.slice a41 n41 c41) m41 (x1 % G), fun V => Zd V (.slice a42 n42 c42) m42 (x2 / G), fun V => Zd V (.slice a43 n43 c43) m43 (x2 % G)]) := Lib.hid (hC42.out.call hb)
  clear hb hC42
  clear y50 y51
  have y70 := hC44.out.cell 7 0 rfl rfl
  have y71 := hC44.out.cell 7 1 rfl rfl
  go_wp2_with fail
  refine (sign_is (hC44.out.z 7 rfl) (sgn_0 HPB.out)).mono ?_
  rintro e w45 ⟨rfl, hb⟩
  have hC45 : Hid (St w w45 [(w1.heap.size, #[.slice a1 n1 c1, .bool m1], 28), (w2.heap.size, #[.slice a2 n2 c2, .bool m2], 28), (w3.heap.size, #[.slice a3 n3 c3, .bool m3], 28), (w30.heap.size, #[.slice a30 n30 c30, .bool m30], 28), (w40.heap.size, #[.slice a40 n40 c40, .bool m40], 28), (w40.heap.size + 1, #[.slice a41 n41 c41, .bool m41], 28), (w42.heap.size, #[.slice a42 n42 c42, .bool m42], 28), (w42.heap.size + 1, #[.slice a43 n43 c43, .bool m43], 28)] [fun V => Zd V (.slice a1 n1 c1) m1 (x1), fun V => Zd V (.slice a2 n2 c2) m2 (x2), fun V => Zd V (.slice a3 n3 c3) m3 (x3), fun V => Zd V (.slice a30 n30 c30) m30 (G), fun V => Zd V (.slice a40 n40 c40) m40 (x1 / G), fun V => Zd V (.slice a41 n41 c41) m41 (x1 % G), fun V => Zd V (.slice a42 n42 c42) m42 (x2 / G), fun V => Zd V (.slice a43 n43 c43) m43 (x2 % G)]) := Lib.hid (hC44.out.call hb)
  clear hb hC44
  clear y70 y71
  have y10 := hC45.out.cell 1 0 rfl rfl
  have y11 := hC45.out.cell 1 1 rfl rfl
  go_wp2_with fail
  refine (sign_is (hC45.out.z 1 rfl) HSB.out).mono ?_
  rintro e w46 ⟨rfl, hb⟩
  have hC46 : Hid (St w w46 [(w1.heap.size, #[.slice a1 n1 c1, .bool m1], 28), (w2.heap.size, #[.slice a2 n2 c2, .bool m2], 28), (w3.heap.size, #[.slice a3 n3 c3, .bool m3], 28), (w30.heap.size, #[.slice a30 n30 c30, .bool m30], 28), (w40.heap.size, #[.slice a40 n40 c40, .bool m40], 28), (w40.heap.size + 1, #[.slice a41 n41 c41, .bool m41], 28), (w42.heap.size, #[.slice a42 n42 c42, .bool m42], 28), (w42.heap.size + 1, #[.slice a43 n43 c43, .bool m43], 28)] [fun V => Zd V (.slice a1 n1 c1) m1 (x1), fun V => Zd V (.slice a2 n2 c2) m2 (x2), fun V => Zd V (.slice a3 n3 c3) m3 (x3), fun V => Zd V (.slice a30 n30 c30) m30 (G), fun V => Zd V (.slice a40 n40 c40) m40 (x1 / G), fun V => Zd V (.slice a41 n41 c41) m41 (x1 % G), fun V => Zd V (.slice a42 n42 c42) m42 (x2 / G), fun V => Zd V (.slice a43 n43 c43) m43 (x2 % G)]) := Lib.hid (hC45.out.call hb)
  clear hb hC45
  clear y10 y11
  have y00 := hC46.out.cell 0 0 rfl rfl
  have y01 := hC46.out.cell 0 1 rfl rfl
  have y10 := hC46.out.cell 1 0 rfl rfl
  have y11 := hC46.out.cell 1 1 rfl rfl
  go_wp2_with fail
  refine (quo_b (hC46.out.z 0 rfl) (hC46.out.z 1 rfl) HBN.out E1.out E2.out (by omega) (by omega)).mono ?_
  rintro e w47 ⟨a47, n47, c47, m47, a48, n48, c48, m48, rfl, hz, hz2, hb⟩
  have hC47 : Hid (St w _ [(w1.heap.size, #[.slice a1 n1 c1, .bool m1], 28), (w2.heap.size, #[.slice a2 n2 c2, .bool m2], 28), (w3.heap.size, #[.slice a3 n3 c3, .bool m3], 28), (w30.heap.size, #[.slice a30 n30 c30, .bool m30], 28), (w40.heap.size, #[.slice a40 n40 c40, .bool m40], 28), (w40.heap.size + 1, #[.slice a41 n41 c41, .bool m41], 28), (w42.heap.size, #[.slice a42 n42 c42, .bool m42], 28), (w42.heap.size + 1, #[.slice a43 n43 c43, .bool m43], 28), (w47.heap.size, #[.slice a47 n47 c47, .bool m47], 28), (w47.heap.size + 1, #[.slice a48 n48 c48, .bool m48], 28)] [fun V => Zd V (.slice a1 n1 c1) m1 (x1), fun V => Zd V (.slice a2 n2 c2) m2 (x2), fun V => Zd V (.slice a3 n3 c3) m3 (x3), fun V => Zd V (.slice a30 n30 c30) m30 (G), fun V => Zd V (.slice a40 n40 c40) m40 (x1 / G), fun V => Zd V (.slice a41 n41 c41) m41 (x1 % G), fun V => Zd V (.slice a42 n42 c42) m42 (x2 / G), fun V => Zd V (.slice a43 n43 c43) m43 (x2 % G), fun V => Zd V (.slice a47 n47 c47) m47 (x1 / x2), fun V => Zd V (.slice a48 n48 c48) m48 (x1 % x2)]) := Lib.hid (((hC46.out.call hb).pz hz |>.pz hz2).al w47.heap.size #[.slice a47 n47 c47, .bool m47] 28 rfl rfl |>.al (w47.heap.size + 1) #[.slice a48 n48 c48, .bool m48] 28 (by simp) rfl)
  clear hb hz hz2 hC46
  clear y00 y01 y10 y11
  go_wp2
  refine wp_gen hC47.out ?_
  intro W49 hc
  clear hC47
  have hD49 := Lib.hid hc
  clear hc
  go_region_held3 (fun w' => w'.cell? ⟨w1.heap.size, 0, none⟩ = some (.slice a1 n1 c1) ∧ w'.cell? ⟨w1.heap.size, 1, none⟩ = some (.bool m1) ∧ w'.cell? ⟨w2.heap.size, 0, none⟩ = some (.slice a2 n2 c2) ∧ w'.cell? ⟨w2.heap.size, 1, none⟩ = some (.bool m2) ∧ w'.cell? ⟨w47.heap.size, 0, none⟩ = some (.slice a47 n47 c47) ∧ w'.cell? ⟨w47.heap.size, 1, none⟩ = some (.bool m47) ∧ w'.cell? ⟨w47.heap.size + 1, 0, none⟩ = some (.slice a48 n48 c48) ∧ w'.cell? ⟨w47.heap.size + 1, 1, none⟩ = some (.bool m48) ∧ True)
    (first
      | (with_reducible refine And.intro (?_ : World.cell? w56 _ = _) ?_; exact hC56.out.cell 0 0 rfl rfl; exact ⟨hC56.out.cell 0 1 rfl rfl, hC56.out.cell 1 0 rfl rfl, hC56.out.cell 1 1 rfl rfl, hC56.out.cell 8 0 rfl rfl, hC56.out.cell 8 1 rfl rfl, hC56.out.cell 9 0 rfl rfl, hC56.out.cell 9 1 rfl rfl, trivial⟩)
      | (with_reducible refine And.intro (?_ : World.cell? w55 _ = _) ?_; exact hC55.out.cell 0 0 rfl rfl; exact ⟨hC55.out.cell 0 1 rfl rfl, hC55.out.cell 1 0 rfl rfl, hC55.out.cell 1 1 rfl rfl, hC55.out.cell 8 0 rfl rfl, hC55.out.cell 8 1 rfl rfl, hC55.out.cell 9 0 rfl rfl, hC55.out.cell 9 1 rfl rfl, trivial⟩)
      | (with_reducible refine And.intro (?_ : World.cell? w54 _ = _) ?_; exact hC54.out.cell 0 0 rfl rfl; exact ⟨hC54.out.cell 0 1 rfl rfl, hC54.out.cell 1 0 rfl rfl, hC54.out.cell 1 1 rfl rfl, hC54.out.cell 8 0 rfl rfl, hC54.out.cell 8 1 rfl rfl, hC54.out.cell 9 0 rfl rfl, hC54.out.cell 9 1 rfl rfl, trivial⟩)
      | (with_reducible refine And.intro (?_ : World.cell? w53 _ = _) ?_; exact hC53.out.cell 0 0 rfl rfl; exact ⟨hC53.out.cell 0 1 rfl rfl, hC53.out.cell 1 0 rfl rfl, hC53.out.cell 1 1 rfl rfl, hC53.out.cell 8 0 rfl rfl, hC53.out.cell 8 1 rfl rfl, hC53.out.cell 9 0 rfl rfl, hC53.out.cell 9 1 rfl rfl, trivial⟩)
      | (with_reducible refine And.intro (?_ : World.cell? w52 _ = _) ?_; exact hC52.out.cell 0 0 rfl rfl; exact ⟨hC52.out.cell 0 1 rfl rfl, hC52.out.cell 1 0 rfl rfl, hC52.out.cell 1 1 rfl rfl, hC52.out.cell 8 0 rfl rfl, hC52.out.cell 8 1 rfl rfl, hC52.out.cell 9 0 rfl rfl, hC52.out.cell 9 1 rfl rfl, trivial⟩)
      | (with_reducible refine And.intro (?_ : World.cell? w51 _ = _) ?_; exact hC51.out.cell 0 0 rfl rfl; exact ⟨hC51.out.cell 0 1 rfl rfl, hC51.out.cell 1 0 rfl rfl, hC51.out.cell 1 1 rfl rfl, hC51.out.cell 8 0 rfl rfl, hC51.out.cell 8 1 rfl rfl, hC51.out.cell 9 0 rfl rfl, hC51.out.cell 9 1 rfl rfl, trivial⟩)
      | (with_reducible refine And.intro (?_ : World.cell? w50 _ = _) ?_; exact hC50.out.cell 0 0 rfl rfl; exact ⟨hC50.out.cell 0 1 rfl rfl, hC50.out.cell 1 0 rfl rfl, hC50.out.cell 1 1 rfl rfl, hC50.out.cell 8 0 rfl rfl, hC50.out.cell 8 1 rfl rfl, hC50.out.cell 9 0 rfl rfl, hC50.out.cell 9 1 rfl rfl, trivial⟩)
      | (with_reducible refine And.intro (?_ : World.cell? (World.drew W49) _ = _) ?_; exact hD49.out.drew.cell 0 0 rfl rfl; exact ⟨hD49.out.drew.cell 0 1 rfl rfl, hD49.out.drew.cell 1 0 rfl rfl, hD49.out.drew.cell 1 1 rfl rfl, hD49.out.drew.cell 8 0 rfl rfl, hD49.out.drew.cell 8 1 rfl rfl, hD49.out.drew.cell 9 0 rfl rfl, hD49.out.drew.cell 9 1 rfl rfl, trivial⟩))
    (first
      | (have _t := hC55; go_at_call 12; refine (awake_any _).mono ?_; rintro e w56 ⟨rfl, hb⟩; have hC56 : Hid (St w w56 [(w1.heap.size, #[.slice a1 n1 c1, .bool m1], 28), (w2.heap.size, #[.slice a2 n2 c2, .bool m2], 28), (w3.heap.size, #[.slice a3 n3 c3, .bool m3], 28), (w30.heap.size, #[.slice a30 n30 c30, .bool m30], 28), (w40.heap.size, #[.slice a40 n40 c40, .bool m40], 28), (w40.heap.size + 1, #[.slice a41 n41 c41, .bool m41], 28), (w42.heap.size, #[.slice a42 n42 c42, .bool m42], 28), (w42.heap.size + 1, #[.slice a43 n43 c43, .bool m43], 28), (w47.heap.size, #[.slice a47 n47 c47, .bool m47], 28), (w47.heap.size + 1, #[.slice a48 n48 c48, .bool m48], 28)] [fun V => Zd V (.slice a1 n1 c1) m1 (x1), fun V => Zd V (.slice a2 n2 c2) m2 (x2), fun V => Zd V (.slice a3 n3 c3) m3 (x3), fun V => Zd V (.slice a30 n30 c30) m30 (G), fun V => Zd V (.slice a40 n40 c40) m40 (x1 / G), fun V => Zd V (.slice a41 n41 c41) m41 (x1 % G), fun V => Zd V (.slice a42 n42 c42) m42 (x2 / G), fun V => Zd V (.slice a43 n43 c43) m43 (x2 % G), fun V => Zd V (.slice a47 n47 c47) m47 (x1 / x2), fun V => Zd V (.slice a48 n48 c48) m48 (x1 % x2)]) := Lib.hid (St.pick ((hC55.out.call hb)) [0, 1, 2, 3, 4, 5, 6, 7, 8, 9] rfl); clear hb; clear _t hC55)
      | (have _t := hC54; go_at_call 8; refine (cmp_is (hC54.out.z 9 rfl) (hC54.out.z 10 rfl) ((E1.out).mod E2.out) (E2.out).abs (by omega) (by omega) (sgn_m HLT.out)).mono ?_; rintro e w55 ⟨rfl, hb⟩; have hC55 : Hid (St w w55 [(w1.heap.size, #[.slice a1 n1 c1, .bool m1], 28), (w2.heap.size, #[.slice a2 n2 c2, .bool m2], 28), (w3.heap.size, #[.slice a3 n3 c3, .bool m3], 28), (w30.heap.size, #[.slice a30 n30 c30, .bool m30], 28), (w40.heap.size, #[.slice a40 n40 c40, .bool m40], 28), (w40.heap.size + 1, #[.slice a41 n41 c41, .bool m41], 28), (w42.heap.size, #[.slice a42 n42 c42, .bool m42], 28), (w42.heap.size + 1, #[.slice a43 n43 c43, .bool m43], 28), (w47.heap.size, #[.slice a47 n47 c47, .bool m47], 28), (w47.heap.size + 1, #[.slice a48 n48 c48, .bool m48], 28)] [fun V => Zd V (.slice a1 n1 c1) m1 (x1), fun V => Zd V (.slice a2 n2 c2) m2 (x2), fun V => Zd V (.slice a3 n3 c3) m3 (x3), fun V => Zd V (.slice a30 n30 c30) m30 (G), fun V => Zd V (.slice a40 n40 c40) m40 (x1 / G), fun V => Zd V (.slice a41 n41 c41) m41 (x1 % G), fun V => Zd V (.slice a42 n42 c42) m42 (x2 / G), fun V => Zd V (.slice a43 n43 c43) m43 (x2 % G), fun V => Zd V (.slice a47 n47 c47) m47 (x1 / x2), fun V => Zd V (.slice a48 n48 c48) m48 (x1 % x2)]) := Lib.hid (St.pick ((hC54.out.call hb)) [0, 1, 2, 3, 4, 5, 6, 7, 8, 9] rfl); clear hb; clear _t hC54)
      | (have _t := hC53; go_at_call 15; refine (abs_b (hC53.out.z 1 rfl)).mono ?_; rintro e w54 ⟨a54, n54, c54, m54, rfl, hz, hb⟩; have hC54 : Hid (St w w54 [(w1.heap.size, #[.slice a1 n1 c1, .bool m1], 28), (w2.heap.size, #[.slice a2 n2 c2, .bool m2], 28), (w3.heap.size, #[.slice a3 n3 c3, .bool m3], 28), (w30.heap.size, #[.slice a30 n30 c30, .bool m30], 28), (w40.heap.size, #[.slice a40 n40 c40, .bool m40], 28), (w40.heap.size + 1, #[.slice a41 n41 c41, .bool m41], 28), (w42.heap.size, #[.slice a42 n42 c42, .bool m42], 28), (w42.heap.size + 1, #[.slice a43 n43 c43, .bool m43], 28), (w47.heap.size, #[.slice a47 n47 c47, .bool m47], 28), (w47.heap.size + 1, #[.slice a48 n48 c48, .bool m48], 28)] [fun V => Zd V (.slice a1 n1 c1) m1 (x1), fun V => Zd V (.slice a2 n2 c2) m2 (x2), fun V => Zd V (.slice a3 n3 c3) m3 (x3), fun V => Zd V (.slice a30 n30 c30) m30 (G), fun V => Zd V (.slice a40 n40 c40) m40 (x1 / G), fun V => Zd V (.slice a41 n41 c41) m41 (x1 % G), fun V => Zd V (.slice a42 n42 c42) m42 (x2 / G), fun V => Zd V (.slice a43 n43 c43) m43 (x2 % G), fun V => Zd V (.slice a47 n47 c47) m47 (x1 / x2), fun V => Zd V (.slice a48 n48 c48) m48 (x1 % x2), fun V => Zd V (.slice a54 n54 c54) m54 ((((x2).natAbs : Nat) : Int))]) := Lib.hid (St.pick ((hC53.out.call hb).pz hz) [0, 1, 2, 3, 4, 5, 6, 7, 8, 9, 10] rfl); clear hb hz; clear _t hC53)
      | (have _t := hC52; go_at_call 11; refine (sign_is (hC52.out.z 9 rfl) HVM.out).mono ?_; rintro e w53 ⟨rfl, hb⟩; have hC53 : Hid (St w w53 [(w1.heap.size, #[.slice a1 n1 c1, .bool m1], 28), (w2.heap.size, #[.slice a2 n2 c2, .bool m2], 28), (w3.heap.size, #[.slice a3 n3 c3, .bool m3], 28), (w30.heap.size, #[.slice a30 n30 c30, .bool m30], 28), (w40.heap.size, #[.slice a40 n40 c40, .bool m40], 28), (w40.heap.size + 1, #[.slice a41 n41 c41, .bool m41], 28), (w42.heap.size, #[.slice a42 n42 c42, .bool m42], 28), (w42.heap.size + 1, #[.slice a43 n43 c43, .bool m43], 28), (w47.heap.size, #[.slice a47 n47 c47, .bool m47], 28), (w47.heap.size + 1, #[.slice a48 n48 c48, .bool m48], 28)] [fun V => Zd V (.slice a1 n1 c1) m1 (x1), fun V => Zd V (.slice a2 n2 c2) m2 (x2), fun V => Zd V (.slice a3 n3 c3) m3 (x3), fun V => Zd V (.slice a30 n30 c30) m30 (G), fun V => Zd V (.slice a40 n40 c40) m40 (x1 / G), fun V => Zd V (.slice a41 n41 c41) m41 (x1 % G), fun V => Zd V (.slice a42 n42 c42) m42 (x2 / G), fun V => Zd V (.slice a43 n43 c43) m43 (x2 % G), fun V => Zd V (.slice a47 n47 c47) m47 (x1 / x2), fun V => Zd V (.slice a48 n48 c48) m48 (x1 % x2)]) := Lib.hid (St.pick ((hC52.out.call hb)) [0, 1, 2, 3, 4, 5, 6, 7, 8, 9] rfl); clear hb; clear _t hC52)
      | (have _t := hC51; go_at_call 8; refine (cmp_is (hC51.out.z 10 rfl) (hC51.out.z 0 rfl) ((((((E1.out).div x2)).mul (E2.out))).add (((E1.out).mod E2.out))) E1.out (by omega) (by omega) (sgn_eq (Int.ediv_mul_add_emod _ _))).mono ?_; rintro e w52 ⟨rfl, hb⟩; have hC52 : Hid (St w w52 [(w1.heap.size, #[.slice a1 n1 c1, .bool m1], 28), (w2.heap.size, #[.slice a2 n2 c2, .bool m2], 28), (w3.heap.size, #[.slice a3 n3 c3, .bool m3], 28), (w30.heap.size, #[.slice a30 n30 c30, .bool m30], 28), (w40.heap.size, #[.slice a40 n40 c40, .bool m40], 28), (w40.heap.size + 1, #[.slice a41 n41 c41, .bool m41], 28), (w42.heap.size, #[.slice a42 n42 c42, .bool m42], 28), (w42.heap.size + 1, #[.slice a43 n43 c43, .bool m43], 28), (w47.heap.size, #[.slice a47 n47 c47, .bool m47], 28), (w47.heap.size + 1, #[.slice a48 n48 c48, .bool m48], 28)] [fun V => Zd V (.slice a1 n1 c1) m1 (x1), fun V => Zd V (.slice a2 n2 c2) m2 (x2), fun V => Zd V (.slice a3 n3 c3) m3 (x3), fun V => Zd V (.slice a30 n30 c30) m30 (G), fun V => Zd V (.slice a40 n40 c40) m40 (x1 / G), fun V => Zd V (.slice a41 n41 c41) m41 (x1 % G), fun V => Zd V (.slice a42 n42 c42) m42 (x2 / G), fun V => Zd V (.slice a43 n43 c43) m43 (x2 % G), fun V => Zd V (.slice a47 n47 c47) m47 (x1 / x2), fun V => Zd V (.slice a48 n48 c48) m48 (x1 % x2)]) := Lib.hid (St.pick ((hC51.out.call hb)) [0, 1, 2, 3, 4, 5, 6, 7, 8, 9] rfl); clear hb; clear _t hC51)
      | (have _t := hC50; go_at_call 7; refine (add_b (hC50.out.z 10 rfl) (hC50.out.z 9 rfl) ((((E1.out).div x2)).mul (E2.out)) ((E1.out).mod E2.out) (by omega) (by omega)).mono ?_; rintro e w51 ⟨a51, n51, c51, m51, rfl, hz, hb⟩; have hC51 : Hid (St w w51 [(w1.heap.size, #[.slice a1 n1 c1, .bool m1], 28), (w2.heap.size, #[.slice a2 n2 c2, .bool m2], 28), (w3.heap.size, #[.slice a3 n3 c3, .bool m3], 28), (w30.heap.size, #[.slice a30 n30 c30, .bool m30], 28), (w40.heap.size, #[.slice a40 n40 c40, .bool m40], 28), (w40.heap.size + 1, #[.slice a41 n41 c41, .bool m41], 28), (w42.heap.size, #[.slice a42 n42 c42, .bool m42], 28), (w42.heap.size + 1, #[.slice a43 n43 c43, .bool m43], 28), (w47.heap.size, #[.slice a47 n47 c47, .bool m47], 28), (w47.heap.size + 1, #[.slice a48 n48 c48, .bool m48], 28)] [fun V => Zd V (.slice a1 n1 c1) m1 (x1), fun V => Zd V (.slice a2 n2 c2) m2 (x2), fun V => Zd V (.slice a3 n3 c3) m3 (x3), fun V => Zd V (.slice a30 n30 c30) m30 (G), fun V => Zd V (.slice a40 n40 c40) m40 (x1 / G), fun V => Zd V (.slice a41 n41 c41) m41 (x1 % G), fun V => Zd V (.slice a42 n42 c42) m42 (x2 / G), fun V => Zd V (.slice a43 n43 c43) m43 (x2 % G), fun V => Zd V (.slice a47 n47 c47) m47 (x1 / x2), fun V => Zd V (.slice a48 n48 c48) m48 (x1 % x2), fun V => Zd V (.slice a51 n51 c51) m51 (((x1 / x2 * x2) + x1 % x2))]) := Lib.hid (St.pick ((hC50.out.call hb).pz hz) [0, 1, 2, 3, 4, 5, 6, 7, 8, 9, 11] rfl); clear hb hz; clear _t hC50)
      | (have _t := hD49; go_at_call 9; refine (mul_b (hD49.out.drew.z 8 rfl) (hD49.out.drew.z 1 rfl) ((E1.out).div x2) E2.out (by omega) (by omega)).mono ?_; rintro e w50 ⟨a50, n50, c50, m50, rfl, hz, hb⟩; have hC50 : Hid (St w w50 [(w1.heap.size, #[.slice a1 n1 c1, .bool m1], 28), (w2.heap.size, #[.slice a2 n2 c2, .bool m2], 28), (w3.heap.size, #[.slice a3 n3 c3, .bool m3], 28), (w30.heap.size, #[.slice a30 n30 c30, .bool m30], 28), (w40.heap.size, #[.slice a40 n40 c40, .bool m40], 28), (w40.heap.size + 1, #[.slice a41 n41 c41, .bool m41], 28), (w42.heap.size, #[.slice a42 n42 c42, .bool m42], 28), (w42.heap.size + 1, #[.slice a43 n43 c43, .bool m43], 28), (w47.heap.size, #[.slice a47 n47 c47, .bool m47], 28), (w47.heap.size + 1, #[.slice a48 n48 c48, .bool m48], 28)] [fun V => Zd V (.slice a1 n1 c1) m1 (x1), fun V => Zd V (.slice a2 n2 c2) m2 (x2), fun V => Zd V (.slice a3 n3 c3) m3 (x3), fun V => Zd V (.slice a30 n30 c30) m30 (G), fun V => Zd V (.slice a40 n40 c40) m40 (x1 / G), fun V => Zd V (.slice a41 n41 c41) m41 (x1 % G), fun V => Zd V (.slice a42 n42 c42) m42 (x2 / G), fun V => Zd V (.slice a43 n43 c43) m43 (x2 % G), fun V => Zd V (.slice a47 n47 c47) m47 (x1 / x2), fun V => Zd V (.slice a48 n48 c48) m48 (x1 % x2), fun V => Zd V (.slice a50 n50 c50) m50 ((x1 / x2 * x2))]) := Lib.hid (St.pick ((hD49.out.drew.call hb).pz hz) [0, 1, 2, 3, 4, 5, 6, 7, 8, 9, 10] rfl); clear hb hz; clear _t hD49)
      | fail)
  go_wp2_with fail
  go_wp2
  go_ret
  exact ⟨rfl, hC56.out.be⟩

theorem wholeDivides_walk (A1 B1 C1 P1 : Int) (A2 B2 C2 P2 : Int) (A3 B3 C3 P3 : Int) (w : World) (hA1 : -9223372036854775808 ≤ A1 ∧ A1 < 9223372036854775808) (hB1 : -9223372036854775808 ≤ B1 ∧ B1 < 9223372036854775808) (hC1 : -9223372036854775808 ≤ C1 ∧ C1 < 9223372036854775808) (hP1 : 0 ≤ P1 ∧ P1 < 256) (hA2 : -9223372036854775808 ≤ A2 ∧ A2 < 9223372036854775808) (hB2 : -9223372036854775808 ≤ B2 ∧ B2 < 9223372036854775808) (hC2 : -9223372036854775808 ≤ C2 ∧ C2 < 9223372036854775808) (hP2 : 0 ≤ P2 ∧ P2 < 256) (hA3 : -9223372036854775808 ≤ A3 ∧ A3 < 9223372036854775808) (hB3 : -9223372036854775808 ≤ B3 ∧ B3 < 9223372036854775808) (hC3 : -9223372036854775808 ≤ C3 ∧ C3 < 9223372036854775808) (hP3 : 0 ≤ P3 ∧ P3 < 256) :
    Calls Tryd.prog 4 #[.agg #[.int .i64 A1, .int .i64 B1, .int .i64 C1, .int .u8 P1], .agg #[.int .i64 A2, .int .i64 B2, .int .i64 C2, .int .u8 P2], .agg #[.int .i64 A3, .int .i64 B3, .int .i64 C3, .int .u8 P3]] w (fun e w' => e = .returned (.bool true) ∧ Below w.heap.size w w') := by
  by_cases hb : big A2 B2 C2 P2 = 0
  · by_cases ha : big A1 B1 C1 P1 = 0
    · exact divides_0 A1 B1 C1 P1 A2 B2 C2 P2 A3 B3 C3 P3 w hA1 hB1 hC1 hP1 hA2 hB2 hC2 hP2 hA3 hB3 hC3 hP3 ⟨ha, hb⟩
    · exact divides_1 A1 B1 C1 P1 A2 B2 C2 P2 A3 B3 C3 P3 w hA1 hB1 hC1 hP1 hA2 hB2 hC2 hP2 hA3 hB3 hC3 hP3 ha hb
  · exact divides_2 A1 B1 C1 P1 A2 B2 C2 P2 A3 B3 C3 P3 w hA1 hB1 hC1 hP1 hA2 hB2 hC2 hP2 hA3 hB3 hC3 hP3 hb

end Go.Proofs.YtmfplelodnoicaaDoor

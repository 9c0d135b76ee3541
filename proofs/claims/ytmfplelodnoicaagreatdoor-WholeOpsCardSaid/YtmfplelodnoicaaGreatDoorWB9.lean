/- the law WholeOps: its walk -/
import Derived.Test.YtmfplelodnoicaaGreatDoorWB1
import Derived.Test.YtmfplelodnoicaaGreatDoorWBZ
import Derived.Test.YtmfplelodnoicaaGreatDoorWB8
namespace Go.Proofs.YtmfplelodnoicaaGreatDoor
open Go.RowKit Dig

theorem i64res_eq (z : Int) : i64resN z = i64res z := rfl
theorem i64res_bd (z : Int) : -9223372036854775808 ≤ (i64res z).1 ∧ (i64res z).1 ≤ 9223372036854775807 := by
  unfold i64res; split <;> simp only <;> omega

set_option maxRecDepth 100000 in
set_option maxHeartbeats 16000000 in
theorem wholeOps_walk (A1 B1 C1 P1 : Int) (A2 B2 C2 P2 : Int) (K : Int) (w : World) (hA1 : -9223372036854775808 ≤ A1 ∧ A1 < 9223372036854775808) (hB1 : -9223372036854775808 ≤ B1 ∧ B1 < 9223372036854775808) (hC1 : -9223372036854775808 ≤ C1 ∧ C1 < 9223372036854775808) (hP1 : 0 ≤ P1 ∧ P1 < 256) (hA2 : -9223372036854775808 ≤ A2 ∧ A2 < 9223372036854775808) (hB2 : -9223372036854775808 ≤ B2 ∧ B2 < 9223372036854775808) (hC2 : -9223372036854775808 ≤ C2 ∧ C2 < 9223372036854775808) (hP2 : 0 ≤ P2 ∧ P2 < 256) (hK : -9223372036854775808 ≤ K ∧ K < 9223372036854775808) :
    Calls Tryz.prog 6 #[.agg #[.int .i64 A1, .int .i64 B1, .int .i64 C1, .int .u8 P1], .agg #[.int .i64 A2, .int .i64 B2, .int .i64 C2, .int .u8 P2], .int .i64 K] w (fun e w' => e = .returned (.bool true) ∧ Below w.heap.size w w') := by
  have HK := Lib.hid hK
  clear hK
  obtain ⟨x1, h1, b1⟩ : ∃ x : Int, big A1 B1 C1 P1 = x ∧ Bd 772 x := ⟨_, rfl, big_bd hA1 hB1 hC1⟩
  have H1 := Lib.hid h1
  have E1 := Lib.hid b1
  clear h1 b1
  have HA1 := Lib.hid hA1
  clear hA1
  have HB1 := Lib.hid hB1
  clear hB1
  have HC1 := Lib.hid hC1
  clear hC1
  have HP1 := Lib.hid hP1
  clear hP1
  obtain ⟨x2, h1, b1⟩ : ∃ x : Int, big A2 B2 C2 P2 = x ∧ Bd 772 x := ⟨_, rfl, big_bd hA2 hB2 hC2⟩
  have H2 := Lib.hid h1
  have E2 := Lib.hid b1
  clear h1 b1
  have HA2 := Lib.hid hA2
  clear hA2
  have HB2 := Lib.hid hB2
  clear hB2
  have HC2 := Lib.hid hC2
  clear hC2
  have HP2 := Lib.hid hP2
  clear hP2
  have hC := Lib.hid (((St.enter w).al (w.heap.size) #[.int .i64 A1, .int .i64 B1, .int .i64 C1, .int .u8 P1] 23 rfl rfl).al (w.heap.size + 1) #[.int .i64 A2, .int .i64 B2, .int .i64 C2, .int .u8 P2] 23 (by simp) rfl)
  obtain ⟨j, hj⟩ : ∃ j : Int, (i64res x1).1 = j := ⟨_, rfl⟩
  obtain ⟨o, ho⟩ : ∃ o : Bool, (i64res x1).2 = o := ⟨_, rfl⟩
  obtain ⟨u, hu⟩ : ∃ u : Int, sgn (x1 - x2) = u := ⟨_, rfl⟩
  have HJ := Lib.hid hj
  have HO := Lib.hid ho
  have HU := Lib.hid hu
  have dj : (j != j) = false := by simp
  have do' : (o != o) = false := by simp
  have du : (u == u) = true := by simp
  clear hj ho hu
  go_enter Tryz.func6, Tryz.ntmps6
  have y0 := hC.out.cell 0 0 rfl rfl
  have y1 := hC.out.cell 0 1 rfl rfl
  have y2 := hC.out.cell 0 2 rfl rfl
  have y3 := hC.out.cell 0 3 rfl rfl
  go_wp2_with fail
  refine (bothZ_any A1 B1 C1 P1 _ HA1.out HB1.out HC1.out HP1.out).mono ?_
  rintro e w1 ⟨a1, n1, c1, m1, s11, a11, n11, c11, rfl, hz, hn, hb⟩
  rw [H1.out] at hz hn
  have hC1 := Lib.hid ((((hC.out.call hb).pz hz).pn hn |>.al w1.heap.size #[.slice a1 n1 c1, .bool m1] 28 rfl rfl).al (w1.heap.size + 1) #[.int .i64 s11, .slice a11 n11 c11] 31 (by simp) rfl)
  clear hz hn hb hC y0 y1 y2 y3
  have y0 := hC1.out.cell 1 0 rfl rfl
  have y1 := hC1.out.cell 1 1 rfl rfl
  have y2 := hC1.out.cell 1 2 rfl rfl
  have y3 := hC1.out.cell 1 3 rfl rfl
  go_wp2_with fail
  refine (bothZ_any A2 B2 C2 P2 _ HA2.out HB2.out HC2.out HP2.out).mono ?_
  rintro e w2 ⟨a2, n2, c2, m2, s12, a12, n12, c12, rfl, hz, hn, hb⟩
  rw [H2.out] at hz hn
  have hC2 := Lib.hid ((((hC1.out.call hb).pz hz).pn hn |>.al w2.heap.size #[.slice a2 n2 c2, .bool m2] 28 rfl rfl).al (w2.heap.size + 1) #[.int .i64 s12, .slice a12 n12 c12] 31 (by simp) rfl)
  clear hz hn hb hC1 y0 y1 y2 y3
  go_upto_region 3 with fail
  refine wp_gen ((hC2.out.pick [0, 1, 2, 3] (rs' := [fun V => Zd V (.slice a1 n1 c1) m1 (x1), fun V => Nz V s11 (.slice a11 n11 c11) (x1), fun V => Zd V (.slice a2 n2 c2) m2 (x2), fun V => Nz V s12 (.slice a12 n12 c12) (x2)]) rfl).bpick [2, 3, 4, 5] (by decide) (bs' := [(w1.heap.size, #[.slice a1 n1 c1, .bool m1], 28), (w1.heap.size + 1, #[.int .i64 s11, .slice a11 n11 c11], 31), (w2.heap.size, #[.slice a2 n2 c2, .bool m2], 28), (w2.heap.size + 1, #[.int .i64 s12, .slice a12 n12 c12], 31)]) rfl) ?_
  intro W hc
  clear hC2
  have hC0 := Lib.hid hc
  clear hc
  have HS1 : Hid (sgn x1 = s11) := Lib.hid (hC0.out.n 1 rfl).s.symm
  have ds : (s11 == s11) = true := by simp
  have y00 := hC0.out.cell 0 0 rfl rfl
  have y01 := hC0.out.cell 0 1 rfl rfl
  go_wp2_with fail
  refine (int64_any _ _ _ _ _ _ (hC0.out.z 0 rfl) _ E1.out (by omega)).mono ?_
  rintro e wi0 ⟨rfl, hb⟩
  rw [HJ.out, HO.out]
  have hCi0 := Lib.hid (hC0.out.call hb)
  clear hb hC0
  clear y00 y01
  have y10 := hCi0.out.cell 1 0 rfl rfl
  have y11 := hCi0.out.cell 1 1 rfl rfl
  go_wp2_with fail
  refine (zint64N_any _ _ _ _ _ _ (hCi0.out.n 1 rfl) _ E1.out (by omega)).mono ?_
  rintro e wi1 ⟨rfl, hb⟩
  rw [i64res_eq]
  rw [HJ.out, HO.out]
  have hCi1 := Lib.hid (hCi0.out.call hb)
  clear hb hCi0
  clear y10 y11
  go_wp2_with fail
  refine (int_any K HK.out _).mono ?_
  rintro e w30 ⟨a30, n30, c30, m30, rfl, hz, hb⟩
  have hC30 := Lib.hid ((hCi1.out.call hb).pz hz)
  clear hb hz hCi1
  go_wp2_with fail
  refine (zint_any K HK.out _).mono ?_
  rintro e w31 ⟨s31, a31, n31, c31, rfl, hz, hb⟩
  have hC31 := Lib.hid ((hC30.out.call hb).pn hz)
  clear hb hz hC30
  go_wp2_with fail
  refine (sameZ_b (hC31.out.z 4 rfl) (hC31.out.n 5 rfl) (Bd.i64 HK.out) (by omega)).mono ?_
  rintro e w32 ⟨rfl, hb⟩
  have hC32 := Lib.hid (hC31.out.call hb)
  clear hb hC31
  go_wp2
  refine wp_gen (hC32.out.pick [0, 1, 2, 3] (rs' := [fun V => Zd V (.slice a1 n1 c1) m1 (x1), fun V => Nz V s11 (.slice a11 n11 c11) (x1), fun V => Zd V (.slice a2 n2 c2) m2 (x2), fun V => Nz V s12 (.slice a12 n12 c12) (x2)]) rfl) ?_
  intro W7 hc
  clear hC32
  have hD := Lib.hid hc
  clear hc
  go_region_held3 (fun w' => w'.cell? ⟨w1.heap.size, 0, none⟩ = some (.slice a1 n1 c1) ∧ w'.cell? ⟨w1.heap.size, 1, none⟩ = some (.bool m1) ∧ w'.cell? ⟨w1.heap.size + 1, 0, none⟩ = some (.int .i64 s11) ∧ w'.cell? ⟨w1.heap.size + 1, 1, none⟩ = some (.slice a11 n11 c11) ∧ w'.cell? ⟨w2.heap.size, 0, none⟩ = some (.slice a2 n2 c2) ∧ w'.cell? ⟨w2.heap.size, 1, none⟩ = some (.bool m2) ∧ w'.cell? ⟨w2.heap.size + 1, 0, none⟩ = some (.int .i64 s12) ∧ w'.cell? ⟨w2.heap.size + 1, 1, none⟩ = some (.slice a12 n12 c12) ∧ True)
    (first
      | (with_reducible refine And.intro (?_ : World.cell? w51 _ = _) ?_; exact hC51.out.cell 0 0 rfl rfl; exact ⟨hC51.out.cell 0 1 rfl rfl, hC51.out.cell 1 0 rfl rfl, hC51.out.cell 1 1 rfl rfl, hC51.out.cell 2 0 rfl rfl, hC51.out.cell 2 1 rfl rfl, hC51.out.cell 3 0 rfl rfl, hC51.out.cell 3 1 rfl rfl, trivial⟩)
      | (with_reducible refine And.intro (?_ : World.cell? w50 _ = _) ?_; exact hC50.out.cell 0 0 rfl rfl; exact ⟨hC50.out.cell 0 1 rfl rfl, hC50.out.cell 1 0 rfl rfl, hC50.out.cell 1 1 rfl rfl, hC50.out.cell 2 0 rfl rfl, hC50.out.cell 2 1 rfl rfl, hC50.out.cell 3 0 rfl rfl, hC50.out.cell 3 1 rfl rfl, trivial⟩)
      | (with_reducible refine And.intro (?_ : World.cell? w49 _ = _) ?_; exact hC49.out.cell 0 0 rfl rfl; exact ⟨hC49.out.cell 0 1 rfl rfl, hC49.out.cell 1 0 rfl rfl, hC49.out.cell 1 1 rfl rfl, hC49.out.cell 2 0 rfl rfl, hC49.out.cell 2 1 rfl rfl, hC49.out.cell 3 0 rfl rfl, hC49.out.cell 3 1 rfl rfl, trivial⟩)
      | (with_reducible refine And.intro (?_ : World.cell? w48 _ = _) ?_; exact hC48.out.cell 0 0 rfl rfl; exact ⟨hC48.out.cell 0 1 rfl rfl, hC48.out.cell 1 0 rfl rfl, hC48.out.cell 1 1 rfl rfl, hC48.out.cell 2 0 rfl rfl, hC48.out.cell 2 1 rfl rfl, hC48.out.cell 3 0 rfl rfl, hC48.out.cell 3 1 rfl rfl, trivial⟩)
      | (with_reducible refine And.intro (?_ : World.cell? w47 _ = _) ?_; exact hC47.out.cell 0 0 rfl rfl; exact ⟨hC47.out.cell 0 1 rfl rfl, hC47.out.cell 1 0 rfl rfl, hC47.out.cell 1 1 rfl rfl, hC47.out.cell 2 0 rfl rfl, hC47.out.cell 2 1 rfl rfl, hC47.out.cell 3 0 rfl rfl, hC47.out.cell 3 1 rfl rfl, trivial⟩)
      | (with_reducible refine And.intro (?_ : World.cell? w46 _ = _) ?_; exact hC46.out.cell 0 0 rfl rfl; exact ⟨hC46.out.cell 0 1 rfl rfl, hC46.out.cell 1 0 rfl rfl, hC46.out.cell 1 1 rfl rfl, hC46.out.cell 2 0 rfl rfl, hC46.out.cell 2 1 rfl rfl, hC46.out.cell 3 0 rfl rfl, hC46.out.cell 3 1 rfl rfl, trivial⟩)
      | (with_reducible refine And.intro (?_ : World.cell? w45 _ = _) ?_; exact hC45.out.cell 0 0 rfl rfl; exact ⟨hC45.out.cell 0 1 rfl rfl, hC45.out.cell 1 0 rfl rfl, hC45.out.cell 1 1 rfl rfl, hC45.out.cell 2 0 rfl rfl, hC45.out.cell 2 1 rfl rfl, hC45.out.cell 3 0 rfl rfl, hC45.out.cell 3 1 rfl rfl, trivial⟩)
      | (with_reducible refine And.intro (?_ : World.cell? w44 _ = _) ?_; exact hC44.out.cell 0 0 rfl rfl; exact ⟨hC44.out.cell 0 1 rfl rfl, hC44.out.cell 1 0 rfl rfl, hC44.out.cell 1 1 rfl rfl, hC44.out.cell 2 0 rfl rfl, hC44.out.cell 2 1 rfl rfl, hC44.out.cell 3 0 rfl rfl, hC44.out.cell 3 1 rfl rfl, trivial⟩)
      | (with_reducible refine And.intro (?_ : World.cell? w43 _ = _) ?_; exact hC43.out.cell 0 0 rfl rfl; exact ⟨hC43.out.cell 0 1 rfl rfl, hC43.out.cell 1 0 rfl rfl, hC43.out.cell 1 1 rfl rfl, hC43.out.cell 2 0 rfl rfl, hC43.out.cell 2 1 rfl rfl, hC43.out.cell 3 0 rfl rfl, hC43.out.cell 3 1 rfl rfl, trivial⟩)
      | (with_reducible refine And.intro (?_ : World.cell? w42 _ = _) ?_; exact hC42.out.cell 0 0 rfl rfl; exact ⟨hC42.out.cell 0 1 rfl rfl, hC42.out.cell 1 0 rfl rfl, hC42.out.cell 1 1 rfl rfl, hC42.out.cell 2 0 rfl rfl, hC42.out.cell 2 1 rfl rfl, hC42.out.cell 3 0 rfl rfl, hC42.out.cell 3 1 rfl rfl, trivial⟩)
      | (with_reducible refine And.intro (?_ : World.cell? w41 _ = _) ?_; exact hC41.out.cell 0 0 rfl rfl; exact ⟨hC41.out.cell 0 1 rfl rfl, hC41.out.cell 1 0 rfl rfl, hC41.out.cell 1 1 rfl rfl, hC41.out.cell 2 0 rfl rfl, hC41.out.cell 2 1 rfl rfl, hC41.out.cell 3 0 rfl rfl, hC41.out.cell 3 1 rfl rfl, trivial⟩)
      | (with_reducible refine And.intro (?_ : World.cell? w40 _ = _) ?_; exact hC40.out.cell 0 0 rfl rfl; exact ⟨hC40.out.cell 0 1 rfl rfl, hC40.out.cell 1 0 rfl rfl, hC40.out.cell 1 1 rfl rfl, hC40.out.cell 2 0 rfl rfl, hC40.out.cell 2 1 rfl rfl, hC40.out.cell 3 0 rfl rfl, hC40.out.cell 3 1 rfl rfl, trivial⟩)
      | (with_reducible refine And.intro (?_ : World.cell? w39 _ = _) ?_; exact hC39.out.cell 0 0 rfl rfl; exact ⟨hC39.out.cell 0 1 rfl rfl, hC39.out.cell 1 0 rfl rfl, hC39.out.cell 1 1 rfl rfl, hC39.out.cell 2 0 rfl rfl, hC39.out.cell 2 1 rfl rfl, hC39.out.cell 3 0 rfl rfl, hC39.out.cell 3 1 rfl rfl, trivial⟩)
      | (with_reducible refine And.intro (?_ : World.cell? w38 _ = _) ?_; exact hC38.out.cell 0 0 rfl rfl; exact ⟨hC38.out.cell 0 1 rfl rfl, hC38.out.cell 1 0 rfl rfl, hC38.out.cell 1 1 rfl rfl, hC38.out.cell 2 0 rfl rfl, hC38.out.cell 2 1 rfl rfl, hC38.out.cell 3 0 rfl rfl, hC38.out.cell 3 1 rfl rfl, trivial⟩)
      | (with_reducible refine And.intro (?_ : World.cell? w37 _ = _) ?_; exact hC37.out.cell 0 0 rfl rfl; exact ⟨hC37.out.cell 0 1 rfl rfl, hC37.out.cell 1 0 rfl rfl, hC37.out.cell 1 1 rfl rfl, hC37.out.cell 2 0 rfl rfl, hC37.out.cell 2 1 rfl rfl, hC37.out.cell 3 0 rfl rfl, hC37.out.cell 3 1 rfl rfl, trivial⟩)
      | (with_reducible refine And.intro (?_ : World.cell? w36 _ = _) ?_; exact hC36.out.cell 0 0 rfl rfl; exact ⟨hC36.out.cell 0 1 rfl rfl, hC36.out.cell 1 0 rfl rfl, hC36.out.cell 1 1 rfl rfl, hC36.out.cell 2 0 rfl rfl, hC36.out.cell 2 1 rfl rfl, hC36.out.cell 3 0 rfl rfl, hC36.out.cell 3 1 rfl rfl, trivial⟩)
      | (with_reducible refine And.intro (?_ : World.cell? w35 _ = _) ?_; exact hC35.out.cell 0 0 rfl rfl; exact ⟨hC35.out.cell 0 1 rfl rfl, hC35.out.cell 1 0 rfl rfl, hC35.out.cell 1 1 rfl rfl, hC35.out.cell 2 0 rfl rfl, hC35.out.cell 2 1 rfl rfl, hC35.out.cell 3 0 rfl rfl, hC35.out.cell 3 1 rfl rfl, trivial⟩)
      | (with_reducible refine And.intro (?_ : World.cell? w34 _ = _) ?_; exact hC34.out.cell 0 0 rfl rfl; exact ⟨hC34.out.cell 0 1 rfl rfl, hC34.out.cell 1 0 rfl rfl, hC34.out.cell 1 1 rfl rfl, hC34.out.cell 2 0 rfl rfl, hC34.out.cell 2 1 rfl rfl, hC34.out.cell 3 0 rfl rfl, hC34.out.cell 3 1 rfl rfl, trivial⟩)
      | (with_reducible refine And.intro (?_ : World.cell? w33 _ = _) ?_; exact hC33.out.cell 0 0 rfl rfl; exact ⟨hC33.out.cell 0 1 rfl rfl, hC33.out.cell 1 0 rfl rfl, hC33.out.cell 1 1 rfl rfl, hC33.out.cell 2 0 rfl rfl, hC33.out.cell 2 1 rfl rfl, hC33.out.cell 3 0 rfl rfl, hC33.out.cell 3 1 rfl rfl, trivial⟩)
      | (with_reducible refine And.intro (?_ : World.cell? (World.drew W7) _ = _) ?_; exact hD.out.drew.cell 0 0 rfl rfl; exact ⟨hD.out.drew.cell 0 1 rfl rfl, hD.out.drew.cell 1 0 rfl rfl, hD.out.drew.cell 1 1 rfl rfl, hD.out.drew.cell 2 0 rfl rfl, hD.out.drew.cell 2 1 rfl rfl, hD.out.drew.cell 3 0 rfl rfl, hD.out.drew.cell 3 1 rfl rfl, trivial⟩))
    (first
      | (have _t := hC50; go_at_call 19; refine (awake_any _).mono ?_; rintro e w51 ⟨rfl, hb⟩; have hC51 : Hid (St w w51 [(w1.heap.size, #[.slice a1 n1 c1, .bool m1], 28), (w1.heap.size + 1, #[.int .i64 s11, .slice a11 n11 c11], 31), (w2.heap.size, #[.slice a2 n2 c2, .bool m2], 28), (w2.heap.size + 1, #[.int .i64 s12, .slice a12 n12 c12], 31)] [fun V => Zd V (.slice a1 n1 c1) m1 (x1), fun V => Nz V s11 (.slice a11 n11 c11) (x1), fun V => Zd V (.slice a2 n2 c2) m2 (x2), fun V => Nz V s12 (.slice a12 n12 c12) (x2)]) := Lib.hid (St.pick ((hC50.out.call hb)) [0, 1, 2, 3] rfl); clear hb; clear _t hC50)
      | (have _t := hC49; go_at_call 47; refine (cmpN_is (hC49.out.n 1 rfl) (hC49.out.n 3 rfl) E1.out E2.out (by omega) (by omega) HU.out).mono ?_; rintro e w50 ⟨rfl, hb⟩; have hC50 : Hid (St w w50 [(w1.heap.size, #[.slice a1 n1 c1, .bool m1], 28), (w1.heap.size + 1, #[.int .i64 s11, .slice a11 n11 c11], 31), (w2.heap.size, #[.slice a2 n2 c2, .bool m2], 28), (w2.heap.size + 1, #[.int .i64 s12, .slice a12 n12 c12], 31)] [fun V => Zd V (.slice a1 n1 c1) m1 (x1), fun V => Nz V s11 (.slice a11 n11 c11) (x1), fun V => Zd V (.slice a2 n2 c2) m2 (x2), fun V => Nz V s12 (.slice a12 n12 c12) (x2)]) := Lib.hid (St.pick ((hC49.out.call hb)) [0, 1, 2, 3] rfl); clear hb; clear _t hC49)
      | (have _t := hC48; go_at_call 31; refine (cmp_is (hC48.out.z 0 rfl) (hC48.out.z 2 rfl) E1.out E2.out (by omega) (by omega) HU.out).mono ?_; rintro e w49 ⟨rfl, hb⟩; have hC49 : Hid (St w w49 [(w1.heap.size, #[.slice a1 n1 c1, .bool m1], 28), (w1.heap.size + 1, #[.int .i64 s11, .slice a11 n11 c11], 31), (w2.heap.size, #[.slice a2 n2 c2, .bool m2], 28), (w2.heap.size + 1, #[.int .i64 s12, .slice a12 n12 c12], 31)] [fun V => Zd V (.slice a1 n1 c1) m1 (x1), fun V => Nz V s11 (.slice a11 n11 c11) (x1), fun V => Zd V (.slice a2 n2 c2) m2 (x2), fun V => Nz V s12 (.slice a12 n12 c12) (x2)]) := Lib.hid (St.pick ((hC48.out.call hb)) [0, 1, 2, 3] rfl); clear hb; clear _t hC48)
      | (have _t := hC47; go_at_call 18; refine (sign_is (hC47.out.z 0 rfl) HS1.out).mono ?_; rintro e w48 ⟨rfl, hb⟩; have hC48 : Hid (St w w48 [(w1.heap.size, #[.slice a1 n1 c1, .bool m1], 28), (w1.heap.size + 1, #[.int .i64 s11, .slice a11 n11 c11], 31), (w2.heap.size, #[.slice a2 n2 c2, .bool m2], 28), (w2.heap.size + 1, #[.int .i64 s12, .slice a12 n12 c12], 31)] [fun V => Zd V (.slice a1 n1 c1) m1 (x1), fun V => Nz V s11 (.slice a11 n11 c11) (x1), fun V => Zd V (.slice a2 n2 c2) m2 (x2), fun V => Nz V s12 (.slice a12 n12 c12) (x2)]) := Lib.hid (St.pick ((hC47.out.call hb)) [0, 1, 2, 3] rfl); clear hb; clear _t hC47)
      | (have _t := hC46; go_at_call 14; refine (sameZ_b (hC46.out.z 4 rfl) (hC46.out.n 5 rfl) (E1.out).abs (by omega)).mono ?_; rintro e w47 ⟨rfl, hb⟩; have hC47 : Hid (St w w47 [(w1.heap.size, #[.slice a1 n1 c1, .bool m1], 28), (w1.heap.size + 1, #[.int .i64 s11, .slice a11 n11 c11], 31), (w2.heap.size, #[.slice a2 n2 c2, .bool m2], 28), (w2.heap.size + 1, #[.int .i64 s12, .slice a12 n12 c12], 31)] [fun V => Zd V (.slice a1 n1 c1) m1 (x1), fun V => Nz V s11 (.slice a11 n11 c11) (x1), fun V => Zd V (.slice a2 n2 c2) m2 (x2), fun V => Nz V s12 (.slice a12 n12 c12) (x2)]) := Lib.hid (St.pick ((hC46.out.call hb)) [0, 1, 2, 3] rfl); clear hb; clear _t hC46)
      | (have _t := hC45; go_at_call 46; refine (absN_b (hC45.out.n 1 rfl)).mono ?_; rintro e w46 ⟨s46, a46, n46, c46, rfl, hz, hb⟩; have hC46 : Hid (St w w46 [(w1.heap.size, #[.slice a1 n1 c1, .bool m1], 28), (w1.heap.size + 1, #[.int .i64 s11, .slice a11 n11 c11], 31), (w2.heap.size, #[.slice a2 n2 c2, .bool m2], 28), (w2.heap.size + 1, #[.int .i64 s12, .slice a12 n12 c12], 31)] [fun V => Zd V (.slice a1 n1 c1) m1 (x1), fun V => Nz V s11 (.slice a11 n11 c11) (x1), fun V => Zd V (.slice a2 n2 c2) m2 (x2), fun V => Nz V s12 (.slice a12 n12 c12) (x2), fun V => Zd V (.slice a45 n45 c45) m45 ((((x1).natAbs : Nat) : Int)), fun V => Nz V s46 (.slice a46 n46 c46) ((((x1).natAbs : Nat) : Int))]) := Lib.hid (St.pick ((hC45.out.call hb).pn hz) [0, 1, 2, 3, 4, 5] rfl); clear hb hz; clear _t hC45)
      | (have _t := hC44; go_at_call 45; refine (abs_b (hC44.out.z 0 rfl)).mono ?_; rintro e w45 ⟨a45, n45, c45, m45, rfl, hz, hb⟩; have hC45 : Hid (St w w45 [(w1.heap.size, #[.slice a1 n1 c1, .bool m1], 28), (w1.heap.size + 1, #[.int .i64 s11, .slice a11 n11 c11], 31), (w2.heap.size, #[.slice a2 n2 c2, .bool m2], 28), (w2.heap.size + 1, #[.int .i64 s12, .slice a12 n12 c12], 31)] [fun V => Zd V (.slice a1 n1 c1) m1 (x1), fun V => Nz V s11 (.slice a11 n11 c11) (x1), fun V => Zd V (.slice a2 n2 c2) m2 (x2), fun V => Nz V s12 (.slice a12 n12 c12) (x2), fun V => Zd V (.slice a45 n45 c45) m45 ((((x1).natAbs : Nat) : Int))]) := Lib.hid (St.pick ((hC44.out.call hb).pz hz) [0, 1, 2, 3, 4] rfl); clear hb hz; clear _t hC44)
      | (have _t := hC43; go_at_call 14; refine (sameZ_b (hC43.out.z 4 rfl) (hC43.out.n 5 rfl) (E1.out).neg (by omega)).mono ?_; rintro e w44 ⟨rfl, hb⟩; have hC44 : Hid (St w w44 [(w1.heap.size, #[.slice a1 n1 c1, .bool m1], 28), (w1.heap.size + 1, #[.int .i64 s11, .slice a11 n11 c11], 31), (w2.heap.size, #[.slice a2 n2 c2, .bool m2], 28), (w2.heap.size + 1, #[.int .i64 s12, .slice a12 n12 c12], 31)] [fun V => Zd V (.slice a1 n1 c1) m1 (x1), fun V => Nz V s11 (.slice a11 n11 c11) (x1), fun V => Zd V (.slice a2 n2 c2) m2 (x2), fun V => Nz V s12 (.slice a12 n12 c12) (x2)]) := Lib.hid (St.pick ((hC43.out.call hb)) [0, 1, 2, 3] rfl); clear hb; clear _t hC43)
      | (have _t := hC42; go_at_call 44; refine (negN_b (hC42.out.n 1 rfl)).mono ?_; rintro e w43 ⟨s43, a43, n43, c43, rfl, hz, hb⟩; have hC43 : Hid (St w w43 [(w1.heap.size, #[.slice a1 n1 c1, .bool m1], 28), (w1.heap.size + 1, #[.int .i64 s11, .slice a11 n11 c11], 31), (w2.heap.size, #[.slice a2 n2 c2, .bool m2], 28), (w2.heap.size + 1, #[.int .i64 s12, .slice a12 n12 c12], 31)] [fun V => Zd V (.slice a1 n1 c1) m1 (x1), fun V => Nz V s11 (.slice a11 n11 c11) (x1), fun V => Zd V (.slice a2 n2 c2) m2 (x2), fun V => Nz V s12 (.slice a12 n12 c12) (x2), fun V => Zd V (.slice a42 n42 c42) m42 ((-x1)), fun V => Nz V s43 (.slice a43 n43 c43) ((-x1))]) := Lib.hid (St.pick ((hC42.out.call hb).pn hz) [0, 1, 2, 3, 4, 5] rfl); clear hb hz; clear _t hC42)
      | (have _t := hC41; go_at_call 43; refine (neg_b (hC41.out.z 0 rfl)).mono ?_; rintro e w42 ⟨a42, n42, c42, m42, rfl, hz, hb⟩; have hC42 : Hid (St w w42 [(w1.heap.size, #[.slice a1 n1 c1, .bool m1], 28), (w1.heap.size + 1, #[.int .i64 s11, .slice a11 n11 c11], 31), (w2.heap.size, #[.slice a2 n2 c2, .bool m2], 28), (w2.heap.size + 1, #[.int .i64 s12, .slice a12 n12 c12], 31)] [fun V => Zd V (.slice a1 n1 c1) m1 (x1), fun V => Nz V s11 (.slice a11 n11 c11) (x1), fun V => Zd V (.slice a2 n2 c2) m2 (x2), fun V => Nz V s12 (.slice a12 n12 c12) (x2), fun V => Zd V (.slice a42 n42 c42) m42 ((-x1))]) := Lib.hid (St.pick ((hC41.out.call hb).pz hz) [0, 1, 2, 3, 4] rfl); clear hb hz; clear _t hC41)
      | (have _t := hC40; go_at_call 14; refine (sameZ_b (hC40.out.z 4 rfl) (hC40.out.n 5 rfl) ((E1.out).mul (E2.out)) (by omega)).mono ?_; rintro e w41 ⟨rfl, hb⟩; have hC41 : Hid (St w w41 [(w1.heap.size, #[.slice a1 n1 c1, .bool m1], 28), (w1.heap.size + 1, #[.int .i64 s11, .slice a11 n11 c11], 31), (w2.heap.size, #[.slice a2 n2 c2, .bool m2], 28), (w2.heap.size + 1, #[.int .i64 s12, .slice a12 n12 c12], 31)] [fun V => Zd V (.slice a1 n1 c1) m1 (x1), fun V => Nz V s11 (.slice a11 n11 c11) (x1), fun V => Zd V (.slice a2 n2 c2) m2 (x2), fun V => Nz V s12 (.slice a12 n12 c12) (x2)]) := Lib.hid (St.pick ((hC40.out.call hb)) [0, 1, 2, 3] rfl); clear hb; clear _t hC40)
      | (have _t := hC39; go_at_call 42; refine (mulN_b (hC39.out.n 1 rfl) (hC39.out.n 3 rfl) E1.out E2.out (by omega) (by omega)).mono ?_; rintro e w40 ⟨s40, a40, n40, c40, rfl, hz, hb⟩; have hC40 : Hid (St w w40 [(w1.heap.size, #[.slice a1 n1 c1, .bool m1], 28), (w1.heap.size + 1, #[.int .i64 s11, .slice a11 n11 c11], 31), (w2.heap.size, #[.slice a2 n2 c2, .bool m2], 28), (w2.heap.size + 1, #[.int .i64 s12, .slice a12 n12 c12], 31)] [fun V => Zd V (.slice a1 n1 c1) m1 (x1), fun V => Nz V s11 (.slice a11 n11 c11) (x1), fun V => Zd V (.slice a2 n2 c2) m2 (x2), fun V => Nz V s12 (.slice a12 n12 c12) (x2), fun V => Zd V (.slice a39 n39 c39) m39 ((x1 * x2)), fun V => Nz V s40 (.slice a40 n40 c40) ((x1 * x2))]) := Lib.hid (St.pick ((hC39.out.call hb).pn hz) [0, 1, 2, 3, 4, 5] rfl); clear hb hz; clear _t hC39)
      | (have _t := hC38; go_at_call 41; refine (mul_b (hC38.out.z 0 rfl) (hC38.out.z 2 rfl) E1.out E2.out (by omega) (by omega)).mono ?_; rintro e w39 ⟨a39, n39, c39, m39, rfl, hz, hb⟩; have hC39 : Hid (St w w39 [(w1.heap.size, #[.slice a1 n1 c1, .bool m1], 28), (w1.heap.size + 1, #[.int .i64 s11, .slice a11 n11 c11], 31), (w2.heap.size, #[.slice a2 n2 c2, .bool m2], 28), (w2.heap.size + 1, #[.int .i64 s12, .slice a12 n12 c12], 31)] [fun V => Zd V (.slice a1 n1 c1) m1 (x1), fun V => Nz V s11 (.slice a11 n11 c11) (x1), fun V => Zd V (.slice a2 n2 c2) m2 (x2), fun V => Nz V s12 (.slice a12 n12 c12) (x2), fun V => Zd V (.slice a39 n39 c39) m39 ((x1 * x2))]) := Lib.hid (St.pick ((hC38.out.call hb).pz hz) [0, 1, 2, 3, 4] rfl); clear hb hz; clear _t hC38)
      | (have _t := hC37; go_at_call 14; refine (sameZ_b (hC37.out.z 4 rfl) (hC37.out.n 5 rfl) ((E1.out).sub (E2.out)) (by omega)).mono ?_; rintro e w38 ⟨rfl, hb⟩; have hC38 : Hid (St w w38 [(w1.heap.size, #[.slice a1 n1 c1, .bool m1], 28), (w1.heap.size + 1, #[.int .i64 s11, .slice a11 n11 c11], 31), (w2.heap.size, #[.slice a2 n2 c2, .bool m2], 28), (w2.heap.size + 1, #[.int .i64 s12, .slice a12 n12 c12], 31)] [fun V => Zd V (.slice a1 n1 c1) m1 (x1), fun V => Nz V s11 (.slice a11 n11 c11) (x1), fun V => Zd V (.slice a2 n2 c2) m2 (x2), fun V => Nz V s12 (.slice a12 n12 c12) (x2)]) := Lib.hid (St.pick ((hC37.out.call hb)) [0, 1, 2, 3] rfl); clear hb; clear _t hC37)
      | (have _t := hC36; go_at_call 40; refine (subN_b (hC36.out.n 1 rfl) (hC36.out.n 3 rfl) E1.out E2.out (by omega) (by omega)).mono ?_; rintro e w37 ⟨s37, a37, n37, c37, rfl, hz, hb⟩; have hC37 : Hid (St w w37 [(w1.heap.size, #[.slice a1 n1 c1, .bool m1], 28), (w1.heap.size + 1, #[.int .i64 s11, .slice a11 n11 c11], 31), (w2.heap.size, #[.slice a2 n2 c2, .bool m2], 28), (w2.heap.size + 1, #[.int .i64 s12, .slice a12 n12 c12], 31)] [fun V => Zd V (.slice a1 n1 c1) m1 (x1), fun V => Nz V s11 (.slice a11 n11 c11) (x1), fun V => Zd V (.slice a2 n2 c2) m2 (x2), fun V => Nz V s12 (.slice a12 n12 c12) (x2), fun V => Zd V (.slice a36 n36 c36) m36 ((x1 - x2)), fun V => Nz V s37 (.slice a37 n37 c37) ((x1 - x2))]) := Lib.hid (St.pick ((hC36.out.call hb).pn hz) [0, 1, 2, 3, 4, 5] rfl); clear hb hz; clear _t hC36)
      | (have _t := hC35; go_at_call 39; refine (sub_b (hC35.out.z 0 rfl) (hC35.out.z 2 rfl) E1.out E2.out (by omega) (by omega)).mono ?_; rintro e w36 ⟨a36, n36, c36, m36, rfl, hz, hb⟩; have hC36 : Hid (St w w36 [(w1.heap.size, #[.slice a1 n1 c1, .bool m1], 28), (w1.heap.size + 1, #[.int .i64 s11, .slice a11 n11 c11], 31), (w2.heap.size, #[.slice a2 n2 c2, .bool m2], 28), (w2.heap.size + 1, #[.int .i64 s12, .slice a12 n12 c12], 31)] [fun V => Zd V (.slice a1 n1 c1) m1 (x1), fun V => Nz V s11 (.slice a11 n11 c11) (x1), fun V => Zd V (.slice a2 n2 c2) m2 (x2), fun V => Nz V s12 (.slice a12 n12 c12) (x2), fun V => Zd V (.slice a36 n36 c36) m36 ((x1 - x2))]) := Lib.hid (St.pick ((hC35.out.call hb).pz hz) [0, 1, 2, 3, 4] rfl); clear hb hz; clear _t hC35)
      | (have _t := hC34; go_at_call 14; refine (sameZ_b (hC34.out.z 4 rfl) (hC34.out.n 5 rfl) ((E1.out).add (E2.out)) (by omega)).mono ?_; rintro e w35 ⟨rfl, hb⟩; have hC35 : Hid (St w w35 [(w1.heap.size, #[.slice a1 n1 c1, .bool m1], 28), (w1.heap.size + 1, #[.int .i64 s11, .slice a11 n11 c11], 31), (w2.heap.size, #[.slice a2 n2 c2, .bool m2], 28), (w2.heap.size + 1, #[.int .i64 s12, .slice a12 n12 c12], 31)] [fun V => Zd V (.slice a1 n1 c1) m1 (x1), fun V => Nz V s11 (.slice a11 n11 c11) (x1), fun V => Zd V (.slice a2 n2 c2) m2 (x2), fun V => Nz V s12 (.slice a12 n12 c12) (x2)]) := Lib.hid (St.pick ((hC34.out.call hb)) [0, 1, 2, 3] rfl); clear hb; clear _t hC34)
      | (have _t := hC33; go_at_call 38; refine (addN_b (hC33.out.n 1 rfl) (hC33.out.n 3 rfl) E1.out E2.out (by omega) (by omega)).mono ?_; rintro e w34 ⟨s34, a34, n34, c34, rfl, hz, hb⟩; have hC34 : Hid (St w w34 [(w1.heap.size, #[.slice a1 n1 c1, .bool m1], 28), (w1.heap.size + 1, #[.int .i64 s11, .slice a11 n11 c11], 31), (w2.heap.size, #[.slice a2 n2 c2, .bool m2], 28), (w2.heap.size + 1, #[.int .i64 s12, .slice a12 n12 c12], 31)] [fun V => Zd V (.slice a1 n1 c1) m1 (x1), fun V => Nz V s11 (.slice a11 n11 c11) (x1), fun V => Zd V (.slice a2 n2 c2) m2 (x2), fun V => Nz V s12 (.slice a12 n12 c12) (x2), fun V => Zd V (.slice a33 n33 c33) m33 ((x1 + x2)), fun V => Nz V s34 (.slice a34 n34 c34) ((x1 + x2))]) := Lib.hid (St.pick ((hC33.out.call hb).pn hz) [0, 1, 2, 3, 4, 5] rfl); clear hb hz; clear _t hC33)
      | (have _t := hD; go_at_call 37; refine (add_b (hD.out.drew.z 0 rfl) (hD.out.drew.z 2 rfl) E1.out E2.out (by omega) (by omega)).mono ?_; rintro e w33 ⟨a33, n33, c33, m33, rfl, hz, hb⟩; have hC33 : Hid (St w w33 [(w1.heap.size, #[.slice a1 n1 c1, .bool m1], 28), (w1.heap.size + 1, #[.int .i64 s11, .slice a11 n11 c11], 31), (w2.heap.size, #[.slice a2 n2 c2, .bool m2], 28), (w2.heap.size + 1, #[.int .i64 s12, .slice a12 n12 c12], 31)] [fun V => Zd V (.slice a1 n1 c1) m1 (x1), fun V => Nz V s11 (.slice a11 n11 c11) (x1), fun V => Zd V (.slice a2 n2 c2) m2 (x2), fun V => Nz V s12 (.slice a12 n12 c12) (x2), fun V => Zd V (.slice a33 n33 c33) m33 ((x1 + x2))]) := Lib.hid (St.pick ((hD.out.drew.call hb).pz hz) [0, 1, 2, 3, 4] rfl); clear hb hz; clear _t hD)
      | fail)
  go_wp2_with fail
  go_wp2
  go_ret
  exact ⟨rfl, hC51.out.be⟩

end Go.Proofs.YtmfplelodnoicaaGreatDoor

/- the law WholeTexts: its walk -/
import Derived.Test.YtmfplelodnoicaaGreatDoorWB1
import Derived.Test.YtmfplelodnoicaaGreatDoorWBZ
import Derived.Test.YtmfplelodnoicaaGreatDoorWB6
import Derived.Test.YtmfplelodnoicaaGreatDoorWB2
import Derived.Test.YtmfplelodnoicaaGreatDoorWT0
namespace Go.Proofs.YtmfplelodnoicaaGreatDoor
open Go.RowKit Dig

theorem cmpQ_0 {a b : Rat} : (cmpQ a b = 0) ↔ a = b := by
  unfold cmpQ
  by_cases h : a = b
  · rw [if_pos h]; exact ⟨fun _ => h, fun _ => rfl⟩
  · rw [if_neg h]; exact ⟨fun e => by split at e <;> omega, fun e => absurd e h⟩
theorem sgn_0_iff {x : Int} : (sgn x = 0) ↔ x = 0 := by
  unfold sgn
  by_cases h : x = 0
  · rw [if_pos h]; exact ⟨fun _ => h, fun _ => rfl⟩
  · rw [if_neg h]; exact ⟨fun e => by split at e <;> omega, fun e => absurd e h⟩
/-- two texts are equal exactly if what they say is -/
theorem text_eqs {S T : ByteArray} {l m : List UInt8} (hS : l = S.data.toList) (hT : m = T.data.toList) {v : Int} (h : v = 0 ↔ l = m) : (S.toList == T.toList) = (v == 0) := by
  rw [Go.ByteArray.toList_eq, Go.ByteArray.toList_eq, ← hS, ← hT, Bool.eq_iff_iff]
  simp only [beq_iff_eq]
  exact h.symm

set_option maxRecDepth 100000 in
set_option maxHeartbeats 16000000 in
theorem wholeTexts_walk (A1 B1 C1 P1 : Int) (A2 B2 C2 P2 : Int) (N3 D3 : Int) (N4 D4 : Int) (w : World) (hA1 : -9223372036854775808 ≤ A1 ∧ A1 < 9223372036854775808) (hB1 : -9223372036854775808 ≤ B1 ∧ B1 < 9223372036854775808) (hC1 : -9223372036854775808 ≤ C1 ∧ C1 < 9223372036854775808) (hP1 : 0 ≤ P1 ∧ P1 < 256) (hA2 : -9223372036854775808 ≤ A2 ∧ A2 < 9223372036854775808) (hB2 : -9223372036854775808 ≤ B2 ∧ B2 < 9223372036854775808) (hC2 : -9223372036854775808 ≤ C2 ∧ C2 < 9223372036854775808) (hP2 : 0 ≤ P2 ∧ P2 < 256) (hN3 : -9223372036854775808 ≤ N3 ∧ N3 < 9223372036854775808) (hD3 : -9223372036854775808 ≤ D3 ∧ D3 < 9223372036854775808) (hN4 : -9223372036854775808 ≤ N4 ∧ N4 < 9223372036854775808) (hD4 : -9223372036854775808 ≤ D4 ∧ D4 < 9223372036854775808) :
    Calls Tryz.prog 5 #[.agg #[.int .i64 A1, .int .i64 B1, .int .i64 C1, .int .u8 P1], .agg #[.int .i64 A2, .int .i64 B2, .int .i64 C2, .int .u8 P2], .agg #[.int .i64 N3, .int .i64 D3], .agg #[.int .i64 N4, .int .i64 D4]] w (fun e w' => e = .returned (.bool true) ∧ Below w.heap.size w w') := by
  obtain ⟨x1, h1, b1⟩ : ∃ x : Int, big A1 B1 C1 P1 = x ∧ Bd 772 x := ⟨_, rfl, big_bd hA1 hB1 hC1⟩
  have H1 := Lib.hid h1
  have E1 := Lib.hid b1
  clear h1 b1
  have HA1 := Lib.hid hA1
  clear hA1
  have HB1 := Lib.hid hB1
  clear hB1
  have HC1 := Lib.hid hC1
  clear hC1
  have HP1 := Lib.hid hP1
  clear hP1
  obtain ⟨x2, h1, b1⟩ : ∃ x : Int, big A2 B2 C2 P2 = x ∧ Bd 772 x := ⟨_, rfl, big_bd hA2 hB2 hC2⟩
  have H2 := Lib.hid h1
  have E2 := Lib.hid b1
  clear h1 b1
  have HA2 := Lib.hid hA2
  clear hA2
  have HB2 := Lib.hid hB2
  clear hB2
  have HC2 := Lib.hid hC2
  clear hC2
  have HP2 := Lib.hid hP2
  clear hP2
  obtain ⟨x3, h1, b1⟩ : ∃ x : Rat, num N3 D3 = x ∧ Bq 64 x := ⟨_, rfl, num_bd hN3 hD3⟩
  have H3 := Lib.hid h1
  have E3 := Lib.hid b1
  clear h1 b1
  have HN3 := Lib.hid hN3
  clear hN3
  have HD3 := Lib.hid hD3
  clear hD3
  obtain ⟨x4, h1, b1⟩ : ∃ x : Rat, num N4 D4 = x ∧ Bq 64 x := ⟨_, rfl, num_bd hN4 hD4⟩
  have H4 := Lib.hid h1
  have E4 := Lib.hid b1
  clear h1 b1
  have HN4 := Lib.hid hN4
  clear hN4
  have HD4 := Lib.hid hD4
  clear hD4
  have hC := Lib.hid (((((St.enter w).al (w.heap.size) #[.int .i64 A1, .int .i64 B1, .int .i64 C1, .int .u8 P1] 23 rfl rfl).al (w.heap.size + 1) #[.int .i64 A2, .int .i64 B2, .int .i64 C2, .int .u8 P2] 23 (by simp) rfl).al (w.heap.size + 2) #[.int .i64 N3, .int .i64 D3] 60 (by simp) rfl).al (w.heap.size + 3) #[.int .i64 N4, .int .i64 D4] 60 (by simp) rfl)
  obtain ⟨T1, hT1⟩ : ∃ T : ByteArray, Dec.ztext x1 = T.data.toList := ⟨⟨(Dec.ztext x1).toArray⟩, rfl⟩
  have HT1 := Lib.hid hT1
  obtain ⟨T2, hT2⟩ : ∃ T : ByteArray, Dec.ztext x2 = T.data.toList := ⟨⟨(Dec.ztext x2).toArray⟩, rfl⟩
  have HT2 := Lib.hid hT2
  obtain ⟨T3, hT3⟩ : ∃ T : ByteArray, rtext x3 = T.data.toList := ⟨⟨(rtext x3).toArray⟩, rfl⟩
  have HT3 := Lib.hid hT3
  obtain ⟨T4, hT4⟩ : ∃ T : ByteArray, rtext x4 = T.data.toList := ⟨⟨(rtext x4).toArray⟩, rfl⟩
  have HT4 := Lib.hid hT4
  have hl1 := ztext_len_m 772 E1.out (Nat.le_refl _)
  have hl3 := rtext_len_m 64 E3.out (Nat.le_refl _)
  have hl4 := rtext_len_m 64 E4.out (Nat.le_refl _)
  have HZ1 := Lib.hid (show zres T1.data.toList = (x1, 0) from by
    rw [← hT1]
    unfold zres
    rw [if_neg (by omega), Dec.zread_ztext])
  have HZ3 := Lib.hid (show rparse T3.data.toList = (x3, 0) from by rw [← hT3]; exact rparse_rtext _ (by omega))
  have HL1 := Lib.hid (show T1.size ≤ 100000 from by
    have : T1.size = T1.data.toList.length := by simp
    rw [this, ← hT1]; omega)
  have HL3 := Lib.hid (show T3.size ≤ 100000 from by
    have : T3.size = T3.data.toList.length := by simp
    rw [this, ← hT3]; omega)
  obtain ⟨u, hu⟩ : ∃ u : Int, sgn (x1 - x2) = u := ⟨_, rfl⟩
  obtain ⟨v, hv⟩ : ∃ v : Int, cmpQ x3 x4 = v := ⟨_, rfl⟩
  have du : (T1.toList == T2.toList) = (u == 0) := text_eqs hT1 hT2 (by
    rw [← hu, sgn_0_iff]
    exact ⟨fun e => by rw [show x1 = x2 by omega], fun e => by have := Dec.ztext_inj e; omega⟩)
  have dv : (T3.toList == T4.toList) = (v == 0) := text_eqs hT3 hT4 (by
    rw [← hv, cmpQ_0]
    exact ⟨fun e => by rw [e], fun e => rtext_inj (by omega) e⟩)
  have duu : ((u == 0) == (u == 0)) = true := by simp
  have dvv : ((v == 0) == (v == 0)) = true := by simp
  have HU := Lib.hid hu
  have HV := Lib.hid hv
  clear hT1 hT2 hT3 hT4 hl1 hl3 hl4 hu hv
  go_enter Tryz.func5, Tryz.ntmps5
  have y0 := hC.out.cell 0 0 rfl rfl
  have y1 := hC.out.cell 0 1 rfl rfl
  have y2 := hC.out.cell 0 2 rfl rfl
  have y3 := hC.out.cell 0 3 rfl rfl
  go_wp2_with fail
  refine (bothZ_any A1 B1 C1 P1 _ HA1.out HB1.out HC1.out HP1.out).mono ?_
  rintro e w1 ⟨a1, n1, c1, m1, s11, a11, n11, c11, rfl, hz, hn, hb⟩
  rw [H1.out] at hz hn
  have hC1 := Lib.hid ((((hC.out.call hb).pz hz).pn hn |>.al w1.heap.size #[.slice a1 n1 c1, .bool m1] 28 rfl rfl).al (w1.heap.size + 1) #[.int .i64 s11, .slice a11 n11 c11] 31 (by simp) rfl)
  clear hz hn hb hC y0 y1 y2 y3
  have y0 := hC1.out.cell 1 0 rfl rfl
  have y1 := hC1.out.cell 1 1 rfl rfl
  have y2 := hC1.out.cell 1 2 rfl rfl
  have y3 := hC1.out.cell 1 3 rfl rfl
  go_wp2_with fail
  refine (bothZ_any A2 B2 C2 P2 _ HA2.out HB2.out HC2.out HP2.out).mono ?_
  rintro e w2 ⟨a2, n2, c2, m2, s12, a12, n12, c12, rfl, hz, hn, hb⟩
  rw [H2.out] at hz hn
  have hC2 := Lib.hid ((((hC1.out.call hb).pz hz).pn hn |>.al w2.heap.size #[.slice a2 n2 c2, .bool m2] 28 rfl rfl).al (w2.heap.size + 1) #[.int .i64 s12, .slice a12 n12 c12] 31 (by simp) rfl)
  clear hz hn hb hC1 y0 y1 y2 y3
  have y0 := hC2.out.cell 2 0 rfl rfl
  have y1 := hC2.out.cell 2 1 rfl rfl
  go_wp2_with fail
  refine (both_any N3 D3 _ HN3.out HD3.out).mono ?_
  rintro e w3 ⟨a3, n3, c3, m3, d3, e3, f3, s13, a13, n13, c13, t13, d13, e13, f13, rfl, hz, hn, hb⟩
  rw [H3.out] at hz hn
  have hC3 := Lib.hid ((((hC2.out.call hb).pr hz).pq hn |>.al w3.heap.size #[.slice a3 n3 c3, .bool m3, .slice d3 e3 f3] 48 rfl rfl).al (w3.heap.size + 1) #[.int .i64 s13, .slice a13 n13 c13, .int .i64 t13, .slice d13 e13 f13] 54 (by simp) rfl)
  clear hz hn hb hC2 y0 y1
  have y0 := hC3.out.cell 3 0 rfl rfl
  have y1 := hC3.out.cell 3 1 rfl rfl
  go_wp2_with fail
  refine (both_any N4 D4 _ HN4.out HD4.out).mono ?_
  rintro e w4 ⟨a4, n4, c4, m4, d4, e4, f4, s14, a14, n14, c14, t14, d14, e14, f14, rfl, hz, hn, hb⟩
  rw [H4.out] at hz hn
  have hC4 := Lib.hid ((((hC3.out.call hb).pr hz).pq hn |>.al w4.heap.size #[.slice a4 n4 c4, .bool m4, .slice d4 e4 f4] 48 rfl rfl).al (w4.heap.size + 1) #[.int .i64 s14, .slice a14 n14 c14, .int .i64 t14, .slice d14 e14 f14] 54 (by simp) rfl)
  clear hz hn hb hC3 y0 y1
  go_upto_region 5 with fail
  refine wp_gen ((hC4.out.pick [0, 2, 4, 6] (rs' := [fun V => Zd V (.slice a1 n1 c1) m1 (x1), fun V => Zd V (.slice a2 n2 c2) m2 (x2), fun V => Rd V (.slice a3 n3 c3) m3 (.slice d3 e3 f3) (x3), fun V => Rd V (.slice a4 n4 c4) m4 (.slice d4 e4 f4) (x4)]) rfl).bpick [4, 6, 8, 10] (by decide) (bs' := [(w1.heap.size, #[.slice a1 n1 c1, .bool m1], 28), (w2.heap.size, #[.slice a2 n2 c2, .bool m2], 28), (w3.heap.size, #[.slice a3 n3 c3, .bool m3, .slice d3 e3 f3], 48), (w4.heap.size, #[.slice a4 n4 c4, .bool m4, .slice d4 e4 f4], 48)]) rfl) ?_
  intro W hc
  clear hC4
  have hC0 := Lib.hid hc
  clear hc
  have y00 := hC0.out.cell 0 0 rfl rfl
  have y01 := hC0.out.cell 0 1 rfl rfl
  go_wp2_with fail
  refine (ztext_is (hC0.out.z 0 rfl) E1.out (by omega) HT1.out).mono ?_
  rintro e w30 ⟨rfl, hb⟩
  have hC30 : Hid (St w w30 [(w1.heap.size, #[.slice a1 n1 c1, .bool m1], 28), (w2.heap.size, #[.slice a2 n2 c2, .bool m2], 28), (w3.heap.size, #[.slice a3 n3 c3, .bool m3, .slice d3 e3 f3], 48), (w4.heap.size, #[.slice a4 n4 c4, .bool m4, .slice d4 e4 f4], 48)] [fun V => Zd V (.slice a1 n1 c1) m1 (x1), fun V => Zd V (.slice a2 n2 c2) m2 (x2), fun V => Rd V (.slice a3 n3 c3) m3 (.slice d3 e3 f3) (x3), fun V => Rd V (.slice a4 n4 c4) m4 (.slice d4 e4 f4) (x4)]) := Lib.hid (hC0.out.call hb)
  clear hb hC0
  clear y00 y01
  go_wp2_with fail
  refine (zparse_e HL1.out HZ1.out).mono ?_
  rintro e w31 ⟨a31, n31, c31, m31, rfl, hz, hb⟩
  have hC31 : Hid (St w _ [(w1.heap.size, #[.slice a1 n1 c1, .bool m1], 28), (w2.heap.size, #[.slice a2 n2 c2, .bool m2], 28), (w3.heap.size, #[.slice a3 n3 c3, .bool m3, .slice d3 e3 f3], 48), (w4.heap.size, #[.slice a4 n4 c4, .bool m4, .slice d4 e4 f4], 48), (w31.heap.size, #[.slice a31 n31 c31, .bool m31], 28)] [fun V => Zd V (.slice a1 n1 c1) m1 (x1), fun V => Zd V (.slice a2 n2 c2) m2 (x2), fun V => Rd V (.slice a3 n3 c3) m3 (.slice d3 e3 f3) (x3), fun V => Rd V (.slice a4 n4 c4) m4 (.slice d4 e4 f4) (x4), fun V => Zd V (.slice a31 n31 c31) m31 (x1)]) := Lib.hid (((hC30.out.call hb).pz hz).al w31.heap.size #[.slice a31 n31 c31, .bool m31] 28 rfl rfl)
  clear hb hz hC30
  have y20 := hC31.out.cell 2 0 rfl rfl
  have y21 := hC31.out.cell 2 1 rfl rfl
  have y22 := hC31.out.cell 2 2 rfl rfl
  go_wp2_with fail
  refine (rtext_is (hC31.out.r 2 rfl) E3.out (by omega) HT3.out).mono ?_
  rintro e w32 ⟨rfl, hb⟩
  have hC32 : Hid (St w w32 [(w1.heap.size, #[.slice a1 n1 c1, .bool m1], 28), (w2.heap.size, #[.slice a2 n2 c2, .bool m2], 28), (w3.heap.size, #[.slice a3 n3 c3, .bool m3, .slice d3 e3 f3], 48), (w4.heap.size, #[.slice a4 n4 c4, .bool m4, .slice d4 e4 f4], 48), (w31.heap.size, #[.slice a31 n31 c31, .bool m31], 28)] [fun V => Zd V (.slice a1 n1 c1) m1 (x1), fun V => Zd V (.slice a2 n2 c2) m2 (x2), fun V => Rd V (.slice a3 n3 c3) m3 (.slice d3 e3 f3) (x3), fun V => Rd V (.slice a4 n4 c4) m4 (.slice d4 e4 f4) (x4), fun V => Zd V (.slice a31 n31 c31) m31 (x1)]) := Lib.hid (hC31.out.call hb)
  clear hb hC31
  clear y20 y21 y22
  go_wp2_with fail
  refine (rparse_e HL3.out HZ3.out).mono ?_
  rintro e w33 ⟨a33, n33, c33, m33, d33, e33, f33, rfl, hz, hb⟩
  have hC33 : Hid (St w _ [(w1.heap.size, #[.slice a1 n1 c1, .bool m1], 28), (w2.heap.size, #[.slice a2 n2 c2, .bool m2], 28), (w3.heap.size, #[.slice a3 n3 c3, .bool m3, .slice d3 e3 f3], 48), (w4.heap.size, #[.slice a4 n4 c4, .bool m4, .slice d4 e4 f4], 48), (w31.heap.size, #[.slice a31 n31 c31, .bool m31], 28), (w33.heap.size, #[.slice a33 n33 c33, .bool m33, .slice d33 e33 f33], 48)] [fun V => Zd V (.slice a1 n1 c1) m1 (x1), fun V => Zd V (.slice a2 n2 c2) m2 (x2), fun V => Rd V (.slice a3 n3 c3) m3 (.slice d3 e3 f3) (x3), fun V => Rd V (.slice a4 n4 c4) m4 (.slice d4 e4 f4) (x4), fun V => Zd V (.slice a31 n31 c31) m31 (x1), fun V => Rd V (.slice a33 n33 c33) m33 (.slice d33 e33 f33) (x3)]) := Lib.hid (((hC32.out.call hb).pr hz).al w33.heap.size #[.slice a33 n33 c33, .bool m33, .slice d33 e33 f33] 48 rfl rfl)
  clear hb hz hC32
  go_upto_region 7 with fail
  refine wp_gen hC33.out ?_
  intro W34 hc
  clear hC33
  have hD34 := Lib.hid hc
  clear hc
  go_region_held3 (fun w' => w'.cell? ⟨w1.heap.size, 0, none⟩ = some (.slice a1 n1 c1) ∧ w'.cell? ⟨w1.heap.size, 1, none⟩ = some (.bool m1) ∧ w'.cell? ⟨w2.heap.size, 0, none⟩ = some (.slice a2 n2 c2) ∧ w'.cell? ⟨w2.heap.size, 1, none⟩ = some (.bool m2) ∧ w'.cell? ⟨w3.heap.size, 0, none⟩ = some (.slice a3 n3 c3) ∧ w'.cell? ⟨w3.heap.size, 1, none⟩ = some (.bool m3) ∧ w'.cell? ⟨w3.heap.size, 2, none⟩ = some (.slice d3 e3 f3) ∧ w'.cell? ⟨w4.heap.size, 0, none⟩ = some (.slice a4 n4 c4) ∧ w'.cell? ⟨w4.heap.size, 1, none⟩ = some (.bool m4) ∧ w'.cell? ⟨w4.heap.size, 2, none⟩ = some (.slice d4 e4 f4) ∧ w'.cell? ⟨w31.heap.size, 0, none⟩ = some (.slice a31 n31 c31) ∧ w'.cell? ⟨w31.heap.size, 1, none⟩ = some (.bool m31) ∧ w'.cell? ⟨w33.heap.size, 0, none⟩ = some (.slice a33 n33 c33) ∧ w'.cell? ⟨w33.heap.size, 1, none⟩ = some (.bool m33) ∧ w'.cell? ⟨w33.heap.size, 2, none⟩ = some (.slice d33 e33 f33) ∧ True)
    (first
      | (with_reducible refine And.intro (?_ : World.cell? w43 _ = _) ?_; exact hC43.out.cell 0 0 rfl rfl; exact ⟨hC43.out.cell 0 1 rfl rfl, hC43.out.cell 1 0 rfl rfl, hC43.out.cell 1 1 rfl rfl, hC43.out.cell 2 0 rfl rfl, hC43.out.cell 2 1 rfl rfl, hC43.out.cell 2 2 rfl rfl, hC43.out.cell 3 0 rfl rfl, hC43.out.cell 3 1 rfl rfl, hC43.out.cell 3 2 rfl rfl, hC43.out.cell 4 0 rfl rfl, hC43.out.cell 4 1 rfl rfl, hC43.out.cell 5 0 rfl rfl, hC43.out.cell 5 1 rfl rfl, hC43.out.cell 5 2 rfl rfl, trivial⟩)
      | (with_reducible refine And.intro (?_ : World.cell? w42 _ = _) ?_; exact hC42.out.cell 0 0 rfl rfl; exact ⟨hC42.out.cell 0 1 rfl rfl, hC42.out.cell 1 0 rfl rfl, hC42.out.cell 1 1 rfl rfl, hC42.out.cell 2 0 rfl rfl, hC42.out.cell 2 1 rfl rfl, hC42.out.cell 2 2 rfl rfl, hC42.out.cell 3 0 rfl rfl, hC42.out.cell 3 1 rfl rfl, hC42.out.cell 3 2 rfl rfl, hC42.out.cell 4 0 rfl rfl, hC42.out.cell 4 1 rfl rfl, hC42.out.cell 5 0 rfl rfl, hC42.out.cell 5 1 rfl rfl, hC42.out.cell 5 2 rfl rfl, trivial⟩)
      | (with_reducible refine And.intro (?_ : World.cell? w41 _ = _) ?_; exact hC41.out.cell 0 0 rfl rfl; exact ⟨hC41.out.cell 0 1 rfl rfl, hC41.out.cell 1 0 rfl rfl, hC41.out.cell 1 1 rfl rfl, hC41.out.cell 2 0 rfl rfl, hC41.out.cell 2 1 rfl rfl, hC41.out.cell 2 2 rfl rfl, hC41.out.cell 3 0 rfl rfl, hC41.out.cell 3 1 rfl rfl, hC41.out.cell 3 2 rfl rfl, hC41.out.cell 4 0 rfl rfl, hC41.out.cell 4 1 rfl rfl, hC41.out.cell 5 0 rfl rfl, hC41.out.cell 5 1 rfl rfl, hC41.out.cell 5 2 rfl rfl, trivial⟩)
      | (with_reducible refine And.intro (?_ : World.cell? w40 _ = _) ?_; exact hC40.out.cell 0 0 rfl rfl; exact ⟨hC40.out.cell 0 1 rfl rfl, hC40.out.cell 1 0 rfl rfl, hC40.out.cell 1 1 rfl rfl, hC40.out.cell 2 0 rfl rfl, hC40.out.cell 2 1 rfl rfl, hC40.out.cell 2 2 rfl rfl, hC40.out.cell 3 0 rfl rfl, hC40.out.cell 3 1 rfl rfl, hC40.out.cell 3 2 rfl rfl, hC40.out.cell 4 0 rfl rfl, hC40.out.cell 4 1 rfl rfl, hC40.out.cell 5 0 rfl rfl, hC40.out.cell 5 1 rfl rfl, hC40.out.cell 5 2 rfl rfl, trivial⟩)
      | (with_reducible refine And.intro (?_ : World.cell? w39 _ = _) ?_; exact hC39.out.cell 0 0 rfl rfl; exact ⟨hC39.out.cell 0 1 rfl rfl, hC39.out.cell 1 0 rfl rfl, hC39.out.cell 1 1 rfl rfl, hC39.out.cell 2 0 rfl rfl, hC39.out.cell 2 1 rfl rfl, hC39.out.cell 2 2 rfl rfl, hC39.out.cell 3 0 rfl rfl, hC39.out.cell 3 1 rfl rfl, hC39.out.cell 3 2 rfl rfl, hC39.out.cell 4 0 rfl rfl, hC39.out.cell 4 1 rfl rfl, hC39.out.cell 5 0 rfl rfl, hC39.out.cell 5 1 rfl rfl, hC39.out.cell 5 2 rfl rfl, trivial⟩)
      | (with_reducible refine And.intro (?_ : World.cell? w38 _ = _) ?_; exact hC38.out.cell 0 0 rfl rfl; exact ⟨hC38.out.cell 0 1 rfl rfl, hC38.out.cell 1 0 rfl rfl, hC38.out.cell 1 1 rfl rfl, hC38.out.cell 2 0 rfl rfl, hC38.out.cell 2 1 rfl rfl, hC38.out.cell 2 2 rfl rfl, hC38.out.cell 3 0 rfl rfl, hC38.out.cell 3 1 rfl rfl, hC38.out.cell 3 2 rfl rfl, hC38.out.cell 4 0 rfl rfl, hC38.out.cell 4 1 rfl rfl, hC38.out.cell 5 0 rfl rfl, hC38.out.cell 5 1 rfl rfl, hC38.out.cell 5 2 rfl rfl, trivial⟩)
      | (with_reducible refine And.intro (?_ : World.cell? w37 _ = _) ?_; exact hC37.out.cell 0 0 rfl rfl; exact ⟨hC37.out.cell 0 1 rfl rfl, hC37.out.cell 1 0 rfl rfl, hC37.out.cell 1 1 rfl rfl, hC37.out.cell 2 0 rfl rfl, hC37.out.cell 2 1 rfl rfl, hC37.out.cell 2 2 rfl rfl, hC37.out.cell 3 0 rfl rfl, hC37.out.cell 3 1 rfl rfl, hC37.out.cell 3 2 rfl rfl, hC37.out.cell 4 0 rfl rfl, hC37.out.cell 4 1 rfl rfl, hC37.out.cell 5 0 rfl rfl, hC37.out.cell 5 1 rfl rfl, hC37.out.cell 5 2 rfl rfl, trivial⟩)
      | (with_reducible refine And.intro (?_ : World.cell? w36 _ = _) ?_; exact hC36.out.cell 0 0 rfl rfl; exact ⟨hC36.out.cell 0 1 rfl rfl, hC36.out.cell 1 0 rfl rfl, hC36.out.cell 1 1 rfl rfl, hC36.out.cell 2 0 rfl rfl, hC36.out.cell 2 1 rfl rfl, hC36.out.cell 2 2 rfl rfl, hC36.out.cell 3 0 rfl rfl, hC36.out.cell 3 1 rfl rfl, hC36.out.cell 3 2 rfl rfl, hC36.out.cell 4 0 rfl rfl, hC36.out.cell 4 1 rfl rfl, hC36.out.cell 5 0 rfl rfl, hC36.out.cell 5 1 rfl rfl, hC36.out.cell 5 2 rfl rfl, trivial⟩)
      | (with_reducible refine And.intro (?_ : World.cell? w35 _ = _) ?_; exact hC35.out.cell 0 0 rfl rfl; exact ⟨hC35.out.cell 0 1 rfl rfl, hC35.out.cell 1 0 rfl rfl, hC35.out.cell 1 1 rfl rfl, hC35.out.cell 2 0 rfl rfl, hC35.out.cell 2 1 rfl rfl, hC35.out.cell 2 2 rfl rfl, hC35.out.cell 3 0 rfl rfl, hC35.out.cell 3 1 rfl rfl, hC35.out.cell 3 2 rfl rfl, hC35.out.cell 4 0 rfl rfl, hC35.out.cell 4 1 rfl rfl, hC35.out.cell 5 0 rfl rfl, hC35.out.cell 5 1 rfl rfl, hC35.out.cell 5 2 rfl rfl, trivial⟩)
      | (with_reducible refine And.intro (?_ : World.cell? (World.drew W34) _ = _) ?_; exact hD34.out.drew.cell 0 0 rfl rfl; exact ⟨hD34.out.drew.cell 0 1 rfl rfl, hD34.out.drew.cell 1 0 rfl rfl, hD34.out.drew.cell 1 1 rfl rfl, hD34.out.drew.cell 2 0 rfl rfl, hD34.out.drew.cell 2 1 rfl rfl, hD34.out.drew.cell 2 2 rfl rfl, hD34.out.drew.cell 3 0 rfl rfl, hD34.out.drew.cell 3 1 rfl rfl, hD34.out.drew.cell 3 2 rfl rfl, hD34.out.drew.cell 4 0 rfl rfl, hD34.out.drew.cell 4 1 rfl rfl, hD34.out.drew.cell 5 0 rfl rfl, hD34.out.drew.cell 5 1 rfl rfl, hD34.out.drew.cell 5 2 rfl rfl, trivial⟩))
    (first
      | (have _t := hC42; go_at_call 19; refine (awake_any _).mono ?_; rintro e w43 ⟨rfl, hb⟩; have hC43 : Hid (St w w43 [(w1.heap.size, #[.slice a1 n1 c1, .bool m1], 28), (w2.heap.size, #[.slice a2 n2 c2, .bool m2], 28), (w3.heap.size, #[.slice a3 n3 c3, .bool m3, .slice d3 e3 f3], 48), (w4.heap.size, #[.slice a4 n4 c4, .bool m4, .slice d4 e4 f4], 48), (w31.heap.size, #[.slice a31 n31 c31, .bool m31], 28), (w33.heap.size, #[.slice a33 n33 c33, .bool m33, .slice d33 e33 f33], 48)] [fun V => Zd V (.slice a1 n1 c1) m1 (x1), fun V => Zd V (.slice a2 n2 c2) m2 (x2), fun V => Rd V (.slice a3 n3 c3) m3 (.slice d3 e3 f3) (x3), fun V => Rd V (.slice a4 n4 c4) m4 (.slice d4 e4 f4) (x4), fun V => Zd V (.slice a31 n31 c31) m31 (x1), fun V => Rd V (.slice a33 n33 c33) m33 (.slice d33 e33 f33) (x3)]) := Lib.hid (St.pick ((hC42.out.call hb)) [0, 1, 2, 3, 4, 5] rfl); clear hb; clear _t hC42)
      | (have _t := hC41; go_at_call 30; refine (rtext_is (hC41.out.r 3 rfl) E4.out (by omega) HT4.out).mono ?_; rintro e w42 ⟨rfl, hb⟩; have hC42 : Hid (St w w42 [(w1.heap.size, #[.slice a1 n1 c1, .bool m1], 28), (w2.heap.size, #[.slice a2 n2 c2, .bool m2], 28), (w3.heap.size, #[.slice a3 n3 c3, .bool m3, .slice d3 e3 f3], 48), (w4.heap.size, #[.slice a4 n4 c4, .bool m4, .slice d4 e4 f4], 48), (w31.heap.size, #[.slice a31 n31 c31, .bool m31], 28), (w33.heap.size, #[.slice a33 n33 c33, .bool m33, .slice d33 e33 f33], 48)] [fun V => Zd V (.slice a1 n1 c1) m1 (x1), fun V => Zd V (.slice a2 n2 c2) m2 (x2), fun V => Rd V (.slice a3 n3 c3) m3 (.slice d3 e3 f3) (x3), fun V => Rd V (.slice a4 n4 c4) m4 (.slice d4 e4 f4) (x4), fun V => Zd V (.slice a31 n31 c31) m31 (x1), fun V => Rd V (.slice a33 n33 c33) m33 (.slice d33 e33 f33) (x3)]) := Lib.hid (St.pick ((hC41.out.call hb)) [0, 1, 2, 3, 4, 5] rfl); clear hb; clear _t hC41)
      | (have _t := hC40; go_at_call 30; refine (rtext_is (hC40.out.r 2 rfl) E3.out (by omega) HT3.out).mono ?_; rintro e w41 ⟨rfl, hb⟩; have hC41 : Hid (St w w41 [(w1.heap.size, #[.slice a1 n1 c1, .bool m1], 28), (w2.heap.size, #[.slice a2 n2 c2, .bool m2], 28), (w3.heap.size, #[.slice a3 n3 c3, .bool m3, .slice d3 e3 f3], 48), (w4.heap.size, #[.slice a4 n4 c4, .bool m4, .slice d4 e4 f4], 48), (w31.heap.size, #[.slice a31 n31 c31, .bool m31], 28), (w33.heap.size, #[.slice a33 n33 c33, .bool m33, .slice d33 e33 f33], 48)] [fun V => Zd V (.slice a1 n1 c1) m1 (x1), fun V => Zd V (.slice a2 n2 c2) m2 (x2), fun V => Rd V (.slice a3 n3 c3) m3 (.slice d3 e3 f3) (x3), fun V => Rd V (.slice a4 n4 c4) m4 (.slice d4 e4 f4) (x4), fun V => Zd V (.slice a31 n31 c31) m31 (x1), fun V => Rd V (.slice a33 n33 c33) m33 (.slice d33 e33 f33) (x3)]) := Lib.hid (St.pick ((hC40.out.call hb)) [0, 1, 2, 3, 4, 5] rfl); clear hb; clear _t hC40)
      | (have _t := hC39; go_at_call 32; refine (rcmp_is (hC39.out.r 2 rfl) (hC39.out.r 3 rfl) E3.out E4.out (by omega) (by omega) HV.out).mono ?_; rintro e w40 ⟨rfl, hb⟩; have hC40 : Hid (St w w40 [(w1.heap.size, #[.slice a1 n1 c1, .bool m1], 28), (w2.heap.size, #[.slice a2 n2 c2, .bool m2], 28), (w3.heap.size, #[.slice a3 n3 c3, .bool m3, .slice d3 e3 f3], 48), (w4.heap.size, #[.slice a4 n4 c4, .bool m4, .slice d4 e4 f4], 48), (w31.heap.size, #[.slice a31 n31 c31, .bool m31], 28), (w33.heap.size, #[.slice a33 n33 c33, .bool m33, .slice d33 e33 f33], 48)] [fun V => Zd V (.slice a1 n1 c1) m1 (x1), fun V => Zd V (.slice a2 n2 c2) m2 (x2), fun V => Rd V (.slice a3 n3 c3) m3 (.slice d3 e3 f3) (x3), fun V => Rd V (.slice a4 n4 c4) m4 (.slice d4 e4 f4) (x4), fun V => Zd V (.slice a31 n31 c31) m31 (x1), fun V => Rd V (.slice a33 n33 c33) m33 (.slice d33 e33 f33) (x3)]) := Lib.hid (St.pick ((hC39.out.call hb)) [0, 1, 2, 3, 4, 5] rfl); clear hb; clear _t hC39)
      | (have _t := hC38; go_at_call 29; refine (ztext_is (hC38.out.z 1 rfl) E2.out (by omega) HT2.out).mono ?_; rintro e w39 ⟨rfl, hb⟩; have hC39 : Hid (St w w39 [(w1.heap.size, #[.slice a1 n1 c1, .bool m1], 28), (w2.heap.size, #[.slice a2 n2 c2, .bool m2], 28), (w3.heap.size, #[.slice a3 n3 c3, .bool m3, .slice d3 e3 f3], 48), (w4.heap.size, #[.slice a4 n4 c4, .bool m4, .slice d4 e4 f4], 48), (w31.heap.size, #[.slice a31 n31 c31, .bool m31], 28), (w33.heap.size, #[.slice a33 n33 c33, .bool m33, .slice d33 e33 f33], 48)] [fun V => Zd V (.slice a1 n1 c1) m1 (x1), fun V => Zd V (.slice a2 n2 c2) m2 (x2), fun V => Rd V (.slice a3 n3 c3) m3 (.slice d3 e3 f3) (x3), fun V => Rd V (.slice a4 n4 c4) m4 (.slice d4 e4 f4) (x4), fun V => Zd V (.slice a31 n31 c31) m31 (x1), fun V => Rd V (.slice a33 n33 c33) m33 (.slice d33 e33 f33) (x3)]) := Lib.hid (St.pick ((hC38.out.call hb)) [0, 1, 2, 3, 4, 5] rfl); clear hb; clear _t hC38)
      | (have _t := hC37; go_at_call 29; refine (ztext_is (hC37.out.z 0 rfl) E1.out (by omega) HT1.out).mono ?_; rintro e w38 ⟨rfl, hb⟩; have hC38 : Hid (St w w38 [(w1.heap.size, #[.slice a1 n1 c1, .bool m1], 28), (w2.heap.size, #[.slice a2 n2 c2, .bool m2], 28), (w3.heap.size, #[.slice a3 n3 c3, .bool m3, .slice d3 e3 f3], 48), (w4.heap.size, #[.slice a4 n4 c4, .bool m4, .slice d4 e4 f4], 48), (w31.heap.size, #[.slice a31 n31 c31, .bool m31], 28), (w33.heap.size, #[.slice a33 n33 c33, .bool m33, .slice d33 e33 f33], 48)] [fun V => Zd V (.slice a1 n1 c1) m1 (x1), fun V => Zd V (.slice a2 n2 c2) m2 (x2), fun V => Rd V (.slice a3 n3 c3) m3 (.slice d3 e3 f3) (x3), fun V => Rd V (.slice a4 n4 c4) m4 (.slice d4 e4 f4) (x4), fun V => Zd V (.slice a31 n31 c31) m31 (x1), fun V => Rd V (.slice a33 n33 c33) m33 (.slice d33 e33 f33) (x3)]) := Lib.hid (St.pick ((hC37.out.call hb)) [0, 1, 2, 3, 4, 5] rfl); clear hb; clear _t hC37)
      | (have _t := hC36; go_at_call 31; refine (cmp_is (hC36.out.z 0 rfl) (hC36.out.z 1 rfl) E1.out E2.out (by omega) (by omega) HU.out).mono ?_; rintro e w37 ⟨rfl, hb⟩; have hC37 : Hid (St w w37 [(w1.heap.size, #[.slice a1 n1 c1, .bool m1], 28), (w2.heap.size, #[.slice a2 n2 c2, .bool m2], 28), (w3.heap.size, #[.slice a3 n3 c3, .bool m3, .slice d3 e3 f3], 48), (w4.heap.size, #[.slice a4 n4 c4, .bool m4, .slice d4 e4 f4], 48), (w31.heap.size, #[.slice a31 n31 c31, .bool m31], 28), (w33.heap.size, #[.slice a33 n33 c33, .bool m33, .slice d33 e33 f33], 48)] [fun V => Zd V (.slice a1 n1 c1) m1 (x1), fun V => Zd V (.slice a2 n2 c2) m2 (x2), fun V => Rd V (.slice a3 n3 c3) m3 (.slice d3 e3 f3) (x3), fun V => Rd V (.slice a4 n4 c4) m4 (.slice d4 e4 f4) (x4), fun V => Zd V (.slice a31 n31 c31) m31 (x1), fun V => Rd V (.slice a33 n33 c33) m33 (.slice d33 e33 f33) (x3)]) := Lib.hid (St.pick ((hC36.out.call hb)) [0, 1, 2, 3, 4, 5] rfl); clear hb; clear _t hC36)
      | (have _t := hC35; go_at_call 32; refine (rcmp_is (hC35.out.r 5 rfl) (hC35.out.r 2 rfl) E3.out E3.out (by omega) (by omega) (cmpQ_eq rfl)).mono ?_; rintro e w36 ⟨rfl, hb⟩; have hC36 : Hid (St w w36 [(w1.heap.size, #[.slice a1 n1 c1, .bool m1], 28), (w2.heap.size, #[.slice a2 n2 c2, .bool m2], 28), (w3.heap.size, #[.slice a3 n3 c3, .bool m3, .slice d3 e3 f3], 48), (w4.heap.size, #[.slice a4 n4 c4, .bool m4, .slice d4 e4 f4], 48), (w31.heap.size, #[.slice a31 n31 c31, .bool m31], 28), (w33.heap.size, #[.slice a33 n33 c33, .bool m33, .slice d33 e33 f33], 48)] [fun V => Zd V (.slice a1 n1 c1) m1 (x1), fun V => Zd V (.slice a2 n2 c2) m2 (x2), fun V => Rd V (.slice a3 n3 c3) m3 (.slice d3 e3 f3) (x3), fun V => Rd V (.slice a4 n4 c4) m4 (.slice d4 e4 f4) (x4), fun V => Zd V (.slice a31 n31 c31) m31 (x1), fun V => Rd V (.slice a33 n33 c33) m33 (.slice d33 e33 f33) (x3)]) := Lib.hid (St.pick ((hC35.out.call hb)) [0, 1, 2, 3, 4, 5] rfl); clear hb; clear _t hC35)
      | (have _t := hD34; go_at_call 31; refine (cmp_is (hD34.out.drew.z 4 rfl) (hD34.out.drew.z 0 rfl) E1.out E1.out (by omega) (by omega) (sgn_eq rfl)).mono ?_; rintro e w35 ⟨rfl, hb⟩; have hC35 : Hid (St w w35 [(w1.heap.size, #[.slice a1 n1 c1, .bool m1], 28), (w2.heap.size, #[.slice a2 n2 c2, .bool m2], 28), (w3.heap.size, #[.slice a3 n3 c3, .bool m3, .slice d3 e3 f3], 48), (w4.heap.size, #[.slice a4 n4 c4, .bool m4, .slice d4 e4 f4], 48), (w31.heap.size, #[.slice a31 n31 c31, .bool m31], 28), (w33.heap.size, #[.slice a33 n33 c33, .bool m33, .slice d33 e33 f33], 48)] [fun V => Zd V (.slice a1 n1 c1) m1 (x1), fun V => Zd V (.slice a2 n2 c2) m2 (x2), fun V => Rd V (.slice a3 n3 c3) m3 (.slice d3 e3 f3) (x3), fun V => Rd V (.slice a4 n4 c4) m4 (.slice d4 e4 f4) (x4), fun V => Zd V (.slice a31 n31 c31) m31 (x1), fun V => Rd V (.slice a33 n33 c33) m33 (.slice d33 e33 f33) (x3)]) := Lib.hid (St.pick ((hD34.out.drew.call hb)) [0, 1, 2, 3, 4, 5] rfl); clear hb; clear _t hD34)
      | fail)
  go_wp2_with fail
  go_wp2
  go_ret
  exact ⟨rfl, hC43.out.be⟩

end Go.Proofs.YtmfplelodnoicaaGreatDoor

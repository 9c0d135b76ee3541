/- the law WholeRatios: its walk -/
import Derived.Test.YtmfplelodnoicaaGreatDoorWB1
import Derived.Test.YtmfplelodnoicaaGreatDoorWBZ
import Derived.Test.YtmfplelodnoicaaGreatDoorWB8
import Derived.Test.YtmfplelodnoicaaGreatDoorWB6
import Derived.Test.YtmfplelodnoicaaGreatDoorWR
namespace Go.Proofs.YtmfplelodnoicaaGreatDoor
open Go.RowKit Dig

section
variable {w : World} {a1 : Option Addr} {n1 c1 : Nat} {m1 : Bool} {z1 : Int} {a2 : Option Addr} {n2 c2 : Nat} {m2 : Bool} {z2 : Int} {k1 k2 : Nat}
theorem ratioI_z {x y : Int} (hx : -9223372036854775808 ≤ x ∧ x < 9223372036854775808) (hy : y = 0) : Calls Tryz.prog 52 #[.int .i64 x, .int .i64 y] w (RetRE w 0 9) := by
  subst hy
  have := ratioI_any x 0 hx (by omega) w
  rwa [Rat.divInt_zero] at this
theorem ratioI_n {x y : Int} (hx : -9223372036854775808 ≤ x ∧ x < 9223372036854775808) (hy : -9223372036854775808 ≤ y ∧ y < 9223372036854775808) (h0 : y ≠ 0) : Calls Tryz.prog 52 #[.int .i64 x, .int .i64 y] w (RetRE w (Rat.divInt x y) 0) := by
  have := ratioI_any x y hx hy w
  unfold ofzE at this
  rwa [if_neg h0] at this
theorem ofz_z (h1 : Zd w (.slice a1 n1 c1) m1 z1) (h2 : Zd w (.slice a2 n2 c2) m2 z2) (b1 : Bd k1 z1) (b2 : Bd k2 z2) (hk1 : k1 ≤ 200000) (hk2 : k2 ≤ 200000) (h0 : z2 = 0) : Calls Tryz.prog 54 #[.agg #[.slice a1 n1 c1, .bool m1], .agg #[.slice a2 n2 c2, .bool m2]] w (RetRE w 0 9) := by
  have := ofz_b h1 h2 b1 b2 hk1 hk2
  rw [h0, Rat.divInt_zero] at this
  exact this
theorem ofz_n (h1 : Zd w (.slice a1 n1 c1) m1 z1) (h2 : Zd w (.slice a2 n2 c2) m2 z2) (b1 : Bd k1 z1) (b2 : Bd k2 z2) (hk1 : k1 ≤ 200000) (hk2 : k2 ≤ 200000) (h0 : z2 ≠ 0) : Calls Tryz.prog 54 #[.agg #[.slice a1 n1 c1, .bool m1], .agg #[.slice a2 n2 c2, .bool m2]] w (RetRE w (Rat.divInt z1 z2) 0) := by
  have := ofz_b h1 h2 b1 b2 hk1 hk2
  unfold ofzE at this
  rwa [if_neg h0] at this
end

set_option maxRecDepth 100000 in
set_option maxHeartbeats 16000000 in
theorem ratios_zz (A1 B1 C1 P1 : Int) (A2 B2 C2 P2 : Int) (K J : Int) (w : World) (hA1 : -9223372036854775808 ≤ A1 ∧ A1 < 9223372036854775808) (hB1 : -9223372036854775808 ≤ B1 ∧ B1 < 9223372036854775808) (hC1 : -9223372036854775808 ≤ C1 ∧ C1 < 9223372036854775808) (hP1 : 0 ≤ P1 ∧ P1 < 256) (hA2 : -9223372036854775808 ≤ A2 ∧ A2 < 9223372036854775808) (hB2 : -9223372036854775808 ≤ B2 ∧ B2 < 9223372036854775808) (hC2 : -9223372036854775808 ≤ C2 ∧ C2 < 9223372036854775808) (hP2 : 0 ≤ P2 ∧ P2 < 256) (hK : -9223372036854775808 ≤ K ∧ K < 9223372036854775808) (hJ : -9223372036854775808 ≤ J ∧ J < 9223372036854775808) (h0 : big A2 B2 C2 P2 = 0) (j0 : J = 0) :
    Calls Tryz.prog 7 #[.agg #[.int .i64 A1, .int .i64 B1, .int .i64 C1, .int .u8 P1], .agg #[.int .i64 A2, .int .i64 B2, .int .i64 C2, .int .u8 P2], .int .i64 K, .int .i64 J] w (fun e w' => e = .returned (.bool true) ∧ Below w.heap.size w w') := by
  have HK := Lib.hid hK
  clear hK
  have HJ := Lib.hid hJ
  have HJ0 := Lib.hid j0
  have dj : (J == 0) = true := by simpa using j0
  have dj2 : (J != 0) = false := by simpa using j0
  clear hJ j0
  obtain ⟨x1, h1, b1⟩ : ∃ x : Int, big A1 B1 C1 P1 = x ∧ Bd 772 x := ⟨_, rfl, big_bd hA1 hB1 hC1⟩
  have H1 := Lib.hid h1
  have E1 := Lib.hid b1
  clear h1 b1
  have HA1 := Lib.hid hA1
  clear hA1
  have HB1 := Lib.hid hB1
  clear hB1
  have HC1 := Lib.hid hC1
  clear hC1
  have HP1 := Lib.hid hP1
  clear hP1
  obtain ⟨x2, h1, b1⟩ : ∃ x : Int, big A2 B2 C2 P2 = x ∧ Bd 772 x := ⟨_, rfl, big_bd hA2 hB2 hC2⟩
  have H2 := Lib.hid h1
  have E2 := Lib.hid b1
  clear h1 b1
  have HA2 := Lib.hid hA2
  clear hA2
  have HB2 := Lib.hid hB2
  clear hB2
  have HC2 := Lib.hid hC2
  clear hC2
  have HP2 := Lib.hid hP2
  clear hP2
  have hC := Lib.hid (((St.enter w).al (w.heap.size) #[.int .i64 A1, .int .i64 B1, .int .i64 C1, .int .u8 P1] 23 rfl rfl).al (w.heap.size + 1) #[.int .i64 A2, .int .i64 B2, .int .i64 C2, .int .u8 P2] 23 (by simp) rfl)
  have HB0 : Hid (x2 = 0) := Lib.hid (by rw [← H2.out]; exact h0)
  clear h0
  go_enter Tryz.func7, Tryz.ntmps7
  have y0 := hC.out.cell 0 0 rfl rfl
  have y1 := hC.out.cell 0 1 rfl rfl
  have y2 := hC.out.cell 0 2 rfl rfl
  have y3 := hC.out.cell 0 3 rfl rfl
  go_wp2_with fail
  refine (bothZ_any A1 B1 C1 P1 _ HA1.out HB1.out HC1.out HP1.out).mono ?_
  rintro e w1 ⟨a1, n1, c1, m1, s11, a11, n11, c11, rfl, hz, hn, hb⟩
  rw [H1.out] at hz hn
  have hC1 := Lib.hid ((((hC.out.call hb).pz hz).pn hn |>.al w1.heap.size #[.slice a1 n1 c1, .bool m1] 28 rfl rfl).al (w1.heap.size + 1) #[.int .i64 s11, .slice a11 n11 c11] 31 (by simp) rfl)
  clear hz hn hb hC y0 y1 y2 y3
  have y0 := hC1.out.cell 1 0 rfl rfl
  have y1 := hC1.out.cell 1 1 rfl rfl
  have y2 := hC1.out.cell 1 2 rfl rfl
  have y3 := hC1.out.cell 1 3 rfl rfl
  go_wp2_with fail
  refine (bothZ_any A2 B2 C2 P2 _ HA2.out HB2.out HC2.out HP2.out).mono ?_
  rintro e w2 ⟨a2, n2, c2, m2, s12, a12, n12, c12, rfl, hz, hn, hb⟩
  rw [H2.out] at hz hn
  have hC2 := Lib.hid ((((hC1.out.call hb).pz hz).pn hn |>.al w2.heap.size #[.slice a2 n2 c2, .bool m2] 28 rfl rfl).al (w2.heap.size + 1) #[.int .i64 s12, .slice a12 n12 c12] 31 (by simp) rfl)
  clear hz hn hb hC1 y0 y1 y2 y3
  go_wp2_with fail
  refine wp_gen ((hC2.out.pick [0, 1, 2, 3] (rs' := [fun V => Zd V (.slice a1 n1 c1) m1 (x1), fun V => Nz V s11 (.slice a11 n11 c11) (x1), fun V => Zd V (.slice a2 n2 c2) m2 (x2), fun V => Nz V s12 (.slice a12 n12 c12) (x2)]) rfl).bpick [2, 3, 4, 5] (by decide) (bs' := [(w1.heap.size, #[.slice a1 n1 c1, .bool m1], 28), (w1.heap.size + 1, #[.int .i64 s11, .slice a11 n11 c11], 31), (w2.heap.size, #[.slice a2 n2 c2, .bool m2], 28), (w2.heap.size + 1, #[.int .i64 s12, .slice a12 n12 c12], 31)]) rfl) ?_
  intro W hc
  clear hC2
  have hC0 := Lib.hid hc
  clear hc
  have ds : (s12 == 0) = true := by
    have h := (hC0.out.n 3 rfl).s0
    have h2 : s12 = 0 := h.2.2 HB0.out
    simpa using h2
  refine wp_region_held_drew (S := (fun w' => w'.cell? ⟨w1.heap.size, 0, none⟩ = some (.slice a1 n1 c1) ∧ w'.cell? ⟨w1.heap.size, 1, none⟩ = some (.bool m1) ∧ w'.cell? ⟨w1.heap.size + 1, 0, none⟩ = some (.int .i64 s11) ∧ w'.cell? ⟨w1.heap.size + 1, 1, none⟩ = some (.slice a11 n11 c11) ∧ w'.cell? ⟨w2.heap.size, 0, none⟩ = some (.slice a2 n2 c2) ∧ w'.cell? ⟨w2.heap.size, 1, none⟩ = some (.bool m2) ∧ w'.cell? ⟨w2.heap.size + 1, 0, none⟩ = some (.int .i64 s12) ∧ w'.cell? ⟨w2.heap.size + 1, 1, none⟩ = some (.slice a12 n12 c12) ∧ True)) (by kernel_rfl) ?_ (fun hH0 => ?_)
  · (try dsimp only)
    all_goals (with_reducible refine And.intro (?_ : World.cell? (World.drew W) _ = _) ?_; exact hC0.out.drew.cell 0 0 rfl rfl; exact ⟨hC0.out.drew.cell 0 1 rfl rfl, hC0.out.drew.cell 1 0 rfl rfl, hC0.out.drew.cell 1 1 rfl rfl, hC0.out.drew.cell 2 0 rfl rfl, hC0.out.drew.cell 2 1 rfl rfl, hC0.out.drew.cell 3 0 rfl rfl, hC0.out.drew.cell 3 1 rfl rfl, trivial⟩)
  refine wpAnyH_take (i := 0) (oi := ⟨_, _, _, _, _, _⟩) (v := ?_) rfl (by kernel_rfl) (by kernel_rfl) (by kernel_rfl) (fun _ _ _ h => h) (Or.inl ⟨by rfl, ?_⟩) hH0 ?_
  rotate_left
  · intro wS hSw; (try dsimp only at hSw); go_simp; try with_reducible rfl
  try simp only [Act.put, List.setIfInBounds_toArray, List.set_cons_zero, List.set_cons_succ]
  refine wpAnyH_take (i := 2) (oi := ⟨_, _, _, _, _, _⟩) (v := ?_) rfl (by kernel_rfl) (by kernel_rfl) (by kernel_rfl) (fun _ _ _ h => h) (Or.inl ⟨by rfl, ?_⟩) hH0 ?_
  rotate_left
  · intro wS hSw; (try dsimp only at hSw); go_simp; try with_reducible rfl
  try simp only [Act.put, List.setIfInBounds_toArray, List.set_cons_zero, List.set_cons_succ]
  refine wpAnyH_ready (rs := [1]) (by kernel_rfl) (by simp) ?_
  refine AllReadyH.cons (o := ⟨_, _, _, _, _, _⟩) rfl (fun Kq hKq => ?_) AllReadyH.nil
  go_simp
  (have _t := hC0; go_at_call 48; refine (of_any K HK.out _).mono ?_; rintro e w30 ⟨a30, n30, c30, m30, d30, e30, f30, rfl, hz, hb⟩; have hC30 : Hid (St w w30 [(w1.heap.size, #[.slice a1 n1 c1, .bool m1], 28), (w1.heap.size + 1, #[.int .i64 s11, .slice a11 n11 c11], 31), (w2.heap.size, #[.slice a2 n2 c2, .bool m2], 28), (w2.heap.size + 1, #[.int .i64 s12, .slice a12 n12 c12], 31)] [fun V => Zd V (.slice a1 n1 c1) m1 (x1), fun V => Nz V s11 (.slice a11 n11 c11) (x1), fun V => Zd V (.slice a2 n2 c2) m2 (x2), fun V => Nz V s12 (.slice a12 n12 c12) (x2), fun V => Rd V (.slice a30 n30 c30) m30 (.slice d30 e30 f30) ((K : Rat))]) := Lib.hid (St.pick ((hC0.out.drew.call hb).pr hz) [0, 1, 2, 3, 4] rfl); clear hb hz; clear _t hC0)
  (try go_wp2_with fail)
  refine hKq.out _ _ ?_ (fun hH1 => ?_)
  · (try dsimp only)
    all_goals (with_reducible refine And.intro (?_ : World.cell? w30 _ = _) ?_; exact hC30.out.cell 0 0 rfl rfl; exact ⟨hC30.out.cell 0 1 rfl rfl, hC30.out.cell 1 0 rfl rfl, hC30.out.cell 1 1 rfl rfl, hC30.out.cell 2 0 rfl rfl, hC30.out.cell 2 1 rfl rfl, hC30.out.cell 3 0 rfl rfl, hC30.out.cell 3 1 rfl rfl, trivial⟩)
  clear hKq Kq hH0
  try simp only [Act.put, List.setIfInBounds_toArray, List.set_cons_zero, List.set_cons_succ]
  refine wpAnyH_ready (rs := [3]) (by kernel_rfl) (by simp) ?_
  refine AllReadyH.cons (o := ⟨_, _, _, _, _, _⟩) rfl (fun Kq hKq => ?_) AllReadyH.nil
  go_simp
  (have _t := hC30; go_at_call 49; refine (ofN_any K HK.out _).mono ?_; rintro e w31 ⟨s31, a31, n31, c31, t31, d31, e31, f31, rfl, hz, hb⟩; have hC31 : Hid (St w w31 [(w1.heap.size, #[.slice a1 n1 c1, .bool m1], 28), (w1.heap.size + 1, #[.int .i64 s11, .slice a11 n11 c11], 31), (w2.heap.size, #[.slice a2 n2 c2, .bool m2], 28), (w2.heap.size + 1, #[.int .i64 s12, .slice a12 n12 c12], 31)] [fun V => Zd V (.slice a1 n1 c1) m1 (x1), fun V => Nz V s11 (.slice a11 n11 c11) (x1), fun V => Zd V (.slice a2 n2 c2) m2 (x2), fun V => Nz V s12 (.slice a12 n12 c12) (x2), fun V => Rd V (.slice a30 n30 c30) m30 (.slice d30 e30 f30) ((K : Rat)), fun V => Nq V s31 (.slice a31 n31 c31) t31 (.slice d31 e31 f31) ((K : Rat))]) := Lib.hid (St.pick ((hC30.out.call hb).pq hz) [0, 1, 2, 3, 4, 5] rfl); clear hb hz; clear _t hC30)
  (try go_wp2_with fail)
  refine hKq.out _ _ ?_ (fun hH2 => ?_)
  · (try dsimp only)
    all_goals (with_reducible refine And.intro (?_ : World.cell? w31 _ = _) ?_; exact hC31.out.cell 0 0 rfl rfl; exact ⟨hC31.out.cell 0 1 rfl rfl, hC31.out.cell 1 0 rfl rfl, hC31.out.cell 1 1 rfl rfl, hC31.out.cell 2 0 rfl rfl, hC31.out.cell 2 1 rfl rfl, hC31.out.cell 3 0 rfl rfl, hC31.out.cell 3 1 rfl rfl, trivial⟩)
  clear hKq Kq hH1
  try simp only [Act.put, List.setIfInBounds_toArray, List.set_cons_zero, List.set_cons_succ]
  refine wpAnyH_ready (rs := [4]) (by kernel_rfl) (by simp) ?_
  refine AllReadyH.cons (o := ⟨_, _, _, _, _, _⟩) rfl (fun Kq hKq => ?_) AllReadyH.nil
  go_simp
  (have _t := hC31; go_at_call 27; refine (same_b (hC31.out.r 4 rfl) (hC31.out.rq 5 rfl) (Bq.int (Bd.i64 HK.out)) (by omega)).mono ?_; rintro e w32 ⟨rfl, hb⟩; have hC32 : Hid (St w w32 [(w1.heap.size, #[.slice a1 n1 c1, .bool m1], 28), (w1.heap.size + 1, #[.int .i64 s11, .slice a11 n11 c11], 31), (w2.heap.size, #[.slice a2 n2 c2, .bool m2], 28), (w2.heap.size + 1, #[.int .i64 s12, .slice a12 n12 c12], 31)] [fun V => Zd V (.slice a1 n1 c1) m1 (x1), fun V => Nz V s11 (.slice a11 n11 c11) (x1), fun V => Zd V (.slice a2 n2 c2) m2 (x2), fun V => Nz V s12 (.slice a12 n12 c12) (x2)]) := Lib.hid (St.pick ((hC31.out.call hb)) [0, 1, 2, 3] rfl); clear hb; clear _t hC31)
  (try go_wp2_with fail)
  refine hKq.out _ _ ?_ (fun hH3 => ?_)
  · (try dsimp only)
    all_goals (with_reducible refine And.intro (?_ : World.cell? w32 _ = _) ?_; exact hC32.out.cell 0 0 rfl rfl; exact ⟨hC32.out.cell 0 1 rfl rfl, hC32.out.cell 1 0 rfl rfl, hC32.out.cell 1 1 rfl rfl, hC32.out.cell 2 0 rfl rfl, hC32.out.cell 2 1 rfl rfl, hC32.out.cell 3 0 rfl rfl, hC32.out.cell 3 1 rfl rfl, trivial⟩)
  clear hKq Kq hH2
  try simp only [Act.put, List.setIfInBounds_toArray, List.set_cons_zero, List.set_cons_succ]
  refine wpAnyH_take (i := 5) (oi := ⟨_, _, _, _, _, _⟩) (v := ?_) rfl (by kernel_rfl) (by kernel_rfl) (by kernel_rfl) (fun _ _ _ h => h) (Or.inl ⟨by rfl, ?_⟩) hH3 ?_
  rotate_left
  · intro wS hSw; (try dsimp only at hSw); go_simp; try with_reducible rfl
  try simp only [Act.put, List.setIfInBounds_toArray, List.set_cons_zero, List.set_cons_succ]
  refine wpAnyH_take (i := 6) (oi := ⟨_, _, _, _, _, _⟩) (v := ?_) rfl (by kernel_rfl) (by kernel_rfl) (by kernel_rfl) (fun _ _ _ h => h) (Or.inl ⟨by rfl, ?_⟩) hH3 ?_
  rotate_left
  · intro wS hSw; (try dsimp only at hSw); go_simp; try with_reducible rfl
  try simp only [Act.put, List.setIfInBounds_toArray, List.set_cons_zero, List.set_cons_succ]
  refine wpAnyH_take (i := 7) (oi := ⟨_, _, _, _, _, _⟩) (v := ?_) rfl (by kernel_rfl) (by kernel_rfl) (by kernel_rfl) (fun _ _ _ h => h) (Or.inl ⟨by rfl, ?_⟩) hH3 ?_
  rotate_left
  · intro wS hSw; (try dsimp only at hSw); go_simp; try with_reducible rfl
  try simp only [Act.put, List.setIfInBounds_toArray, List.set_cons_zero, List.set_cons_succ]
  refine wpAnyH_take (i := 9) (oi := ⟨_, _, _, _, _, _⟩) (v := ?_) rfl (by kernel_rfl) (by kernel_rfl) (by kernel_rfl) (fun _ _ _ h => h) (Or.inl ⟨by rfl, ?_⟩) hH3 ?_
  rotate_left
  · intro wS hSw; (try dsimp only at hSw); go_simp; try with_reducible rfl
  try simp only [Act.put, List.setIfInBounds_toArray, List.set_cons_zero, List.set_cons_succ]
  refine wpAnyH_ready (rs := [8]) (by kernel_rfl) (by simp) ?_
  refine AllReadyH.cons (o := ⟨_, _, _, _, _, _⟩) rfl (fun Kq hKq => ?_) AllReadyH.nil
  go_simp
  (have _t := hC32; go_at_call 50; refine (whole_any _ _ _ _ _ _ (hC32.out.z 0 rfl)).mono ?_; rintro e w33 ⟨a33, n33, c33, m33, d33, e33, f33, rfl, hz, hb⟩; have hC33 : Hid (St w w33 [(w1.heap.size, #[.slice a1 n1 c1, .bool m1], 28), (w1.heap.size + 1, #[.int .i64 s11, .slice a11 n11 c11], 31), (w2.heap.size, #[.slice a2 n2 c2, .bool m2], 28), (w2.heap.size + 1, #[.int .i64 s12, .slice a12 n12 c12], 31)] [fun V => Zd V (.slice a1 n1 c1) m1 (x1), fun V => Nz V s11 (.slice a11 n11 c11) (x1), fun V => Zd V (.slice a2 n2 c2) m2 (x2), fun V => Nz V s12 (.slice a12 n12 c12) (x2), fun V => Rd V (.slice a33 n33 c33) m33 (.slice d33 e33 f33) (((x1 : Int) : Rat))]) := Lib.hid (St.pick ((hC32.out.call hb).pr hz) [0, 1, 2, 3, 4] rfl); clear hb hz; clear _t hC32)
  (try go_wp2_with fail)
  refine hKq.out _ _ ?_ (fun hH4 => ?_)
  · (try dsimp only)
    all_goals (with_reducible refine And.intro (?_ : World.cell? w33 _ = _) ?_; exact hC33.out.cell 0 0 rfl rfl; exact ⟨hC33.out.cell 0 1 rfl rfl, hC33.out.cell 1 0 rfl rfl, hC33.out.cell 1 1 rfl rfl, hC33.out.cell 2 0 rfl rfl, hC33.out.cell 2 1 rfl rfl, hC33.out.cell 3 0 rfl rfl, hC33.out.cell 3 1 rfl rfl, trivial⟩)
  clear hKq Kq hH3
  try simp only [Act.put, List.setIfInBounds_toArray, List.set_cons_zero, List.set_cons_succ]
  refine wpAnyH_ready (rs := [10]) (by kernel_rfl) (by simp) ?_
  refine AllReadyH.cons (o := ⟨_, _, _, _, _, _⟩) rfl (fun Kq hKq => ?_) AllReadyH.nil
  go_simp
  (have _t := hC33; go_at_call 51; refine (wholeN_any _ _ _ _ _ _ (hC33.out.n 1 rfl)).mono ?_; rintro e w34 ⟨s34, a34, n34, c34, t34, d34, e34, f34, rfl, hz, hb⟩; have hC34 : Hid (St w w34 [(w1.heap.size, #[.slice a1 n1 c1, .bool m1], 28), (w1.heap.size + 1, #[.int .i64 s11, .slice a11 n11 c11], 31), (w2.heap.size, #[.slice a2 n2 c2, .bool m2], 28), (w2.heap.size + 1, #[.int .i64 s12, .slice a12 n12 c12], 31)] [fun V => Zd V (.slice a1 n1 c1) m1 (x1), fun V => Nz V s11 (.slice a11 n11 c11) (x1), fun V => Zd V (.slice a2 n2 c2) m2 (x2), fun V => Nz V s12 (.slice a12 n12 c12) (x2), fun V => Rd V (.slice a33 n33 c33) m33 (.slice d33 e33 f33) (((x1 : Int) : Rat)), fun V => Nq V s34 (.slice a34 n34 c34) t34 (.slice d34 e34 f34) (((x1 : Int) : Rat))]) := Lib.hid (St.pick ((hC33.out.call hb).pq hz) [0, 1, 2, 3, 4, 5] rfl); clear hb hz; clear _t hC33)
  (try go_wp2_with fail)
  refine hKq.out _ _ ?_ (fun hH5 => ?_)
  · (try dsimp only)
    all_goals (with_reducible refine And.intro (?_ : World.cell? w34 _ = _) ?_; exact hC34.out.cell 0 0 rfl rfl; exact ⟨hC34.out.cell 0 1 rfl rfl, hC34.out.cell 1 0 rfl rfl, hC34.out.cell 1 1 rfl rfl, hC34.out.cell 2 0 rfl rfl, hC34.out.cell 2 1 rfl rfl, hC34.out.cell 3 0 rfl rfl, hC34.out.cell 3 1 rfl rfl, trivial⟩)
  clear hKq Kq hH4
  try simp only [Act.put, List.setIfInBounds_toArray, List.set_cons_zero, List.set_cons_succ]
  refine wpAnyH_ready (rs := [11]) (by kernel_rfl) (by simp) ?_
  refine AllReadyH.cons (o := ⟨_, _, _, _, _, _⟩) rfl (fun Kq hKq => ?_) AllReadyH.nil
  go_simp
  (have _t := hC34; go_at_call 27; refine (same_b (hC34.out.r 4 rfl) (hC34.out.rq 5 rfl) (Bq.int (E1.out)) (by omega)).mono ?_; rintro e w35 ⟨rfl, hb⟩; have hC35 : Hid (St w w35 [(w1.heap.size, #[.slice a1 n1 c1, .bool m1], 28), (w1.heap.size + 1, #[.int .i64 s11, .slice a11 n11 c11], 31), (w2.heap.size, #[.slice a2 n2 c2, .bool m2], 28), (w2.heap.size + 1, #[.int .i64 s12, .slice a12 n12 c12], 31)] [fun V => Zd V (.slice a1 n1 c1) m1 (x1), fun V => Nz V s11 (.slice a11 n11 c11) (x1), fun V => Zd V (.slice a2 n2 c2) m2 (x2), fun V => Nz V s12 (.slice a12 n12 c12) (x2)]) := Lib.hid (St.pick ((hC34.out.call hb)) [0, 1, 2, 3] rfl); clear hb; clear _t hC34)
  (try go_wp2_with fail)
  refine hKq.out _ _ ?_ (fun hH6 => ?_)
  · (try dsimp only)
    all_goals (with_reducible refine And.intro (?_ : World.cell? w35 _ = _) ?_; exact hC35.out.cell 0 0 rfl rfl; exact ⟨hC35.out.cell 0 1 rfl rfl, hC35.out.cell 1 0 rfl rfl, hC35.out.cell 1 1 rfl rfl, hC35.out.cell 2 0 rfl rfl, hC35.out.cell 2 1 rfl rfl, hC35.out.cell 3 0 rfl rfl, hC35.out.cell 3 1 rfl rfl, trivial⟩)
  clear hKq Kq hH5
  try simp only [Act.put, List.setIfInBounds_toArray, List.set_cons_zero, List.set_cons_succ]
  refine wpAnyH_take (i := 12) (oi := ⟨_, _, _, _, _, _⟩) (v := ?_) rfl (by kernel_rfl) (by kernel_rfl) (by kernel_rfl) (fun _ _ _ h => h) (Or.inl ⟨by rfl, ?_⟩) hH6 ?_
  rotate_left
  · intro wS hSw; (try dsimp only at hSw); go_simp; try with_reducible rfl
  try simp only [Act.put, List.setIfInBounds_toArray, List.set_cons_zero, List.set_cons_succ]
  refine wpAnyH_take (i := 13) (oi := ⟨_, _, _, _, _, _⟩) (v := ?_) rfl (by kernel_rfl) (by kernel_rfl) (by kernel_rfl) (fun _ _ _ h => h) (Or.inl ⟨by rfl, ?_⟩) hH6 ?_
  rotate_left
  · intro wS hSw; (try dsimp only at hSw); go_simp; try with_reducible rfl
  try simp only [Act.put, List.setIfInBounds_toArray, List.set_cons_zero, List.set_cons_succ]
  refine wpAnyH_done (by kernel_rfl) ?_ _
  go_wp2_with fail
  go_wp2_with fail
  refine (ratioI_z HK.out HJ0.out).mono ?_
  rintro e w36 ⟨a36, n36, c36, m36, d36, e36, f36, rfl, hz, hb⟩
  have hC36 : Hid (St w _ [(w1.heap.size, #[.slice a1 n1 c1, .bool m1], 28), (w1.heap.size + 1, #[.int .i64 s11, .slice a11 n11 c11], 31), (w2.heap.size, #[.slice a2 n2 c2, .bool m2], 28), (w2.heap.size + 1, #[.int .i64 s12, .slice a12 n12 c12], 31), (w36.heap.size, #[.slice a36 n36 c36, .bool m36, .slice d36 e36 f36], 48)] [fun V => Zd V (.slice a1 n1 c1) m1 (x1), fun V => Nz V s11 (.slice a11 n11 c11) (x1), fun V => Zd V (.slice a2 n2 c2) m2 (x2), fun V => Nz V s12 (.slice a12 n12 c12) (x2), fun V => Rd V (.slice a36 n36 c36) m36 (.slice d36 e36 f36) (0)]) := Lib.hid (((hC35.out.call hb).pr hz).al w36.heap.size #[.slice a36 n36 c36, .bool m36, .slice d36 e36 f36] 48 rfl rfl)
  clear hb hz hC35
  go_upto_region 6 with fail
  refine wp_gen hC36.out ?_
  intro WR hc
  clear hC36
  have hR := Lib.hid hc
  clear hc
  refine wp_region_held_drew (S := (fun w' => w'.cell? ⟨w36.heap.size, 0, none⟩ = some (.slice a36 n36 c36) ∧ w'.cell? ⟨w36.heap.size, 1, none⟩ = some (.bool m36) ∧ w'.cell? ⟨w36.heap.size, 2, none⟩ = some (.slice d36 e36 f36) ∧ True)) (by kernel_rfl) ?_ (fun hH0 => ?_)
  · (try dsimp only)
    all_goals (with_reducible refine And.intro (?_ : World.cell? (World.drew WR) _ = _) ?_; exact hR.out.drew.cell 4 0 rfl rfl; exact ⟨hR.out.drew.cell 4 1 rfl rfl, hR.out.drew.cell 4 2 rfl rfl, trivial⟩)
  refine wpAnyH_take (i := 0) (oi := ⟨_, _, _, _, _, _⟩) (v := ?_) rfl (by kernel_rfl) (by kernel_rfl) (by kernel_rfl) (fun _ _ _ h => h) (Or.inl ⟨by rfl, ?_⟩) hH0 ?_
  rotate_left
  · intro wS hSw; (try dsimp only at hSw); go_simp; try with_reducible rfl
  try simp only [Act.put, List.setIfInBounds_toArray, List.set_cons_zero, List.set_cons_succ]
  refine wpAnyH_take (i := 1) (oi := ⟨_, _, _, _, _, _⟩) (v := ?_) rfl (by kernel_rfl) (by kernel_rfl) (by kernel_rfl) (fun _ _ _ h => h) (Or.inl ⟨by rfl, ?_⟩) hH0 ?_
  rotate_left
  · intro wS hSw; (try dsimp only at hSw); go_simp; try with_reducible rfl
  try simp only [Act.put, List.setIfInBounds_toArray, List.set_cons_zero, List.set_cons_succ]
  refine wpAnyH_take (i := 2) (oi := ⟨_, _, _, _, _, _⟩) (v := ?_) rfl (by kernel_rfl) (by kernel_rfl) (by kernel_rfl) (fun _ _ _ h => h) (Or.inl ⟨by rfl, ?_⟩) hH0 ?_
  rotate_left
  · intro wS hSw; (try dsimp only at hSw); go_simp; try with_reducible rfl
  try simp only [Act.put, List.setIfInBounds_toArray, List.set_cons_zero, List.set_cons_succ]
  refine wpAnyH_take (i := 3) (oi := ⟨_, _, _, _, _, _⟩) (v := ?_) rfl (by kernel_rfl) (by kernel_rfl) (by kernel_rfl) (fun _ _ _ h => h) (Or.inl ⟨by rfl, ?_⟩) hH0 ?_
  rotate_left
  · intro wS hSw; (try dsimp only at hSw); go_simp; try with_reducible rfl
  try simp only [Act.put, List.setIfInBounds_toArray, List.set_cons_zero, List.set_cons_succ]
  refine wpAnyH_take (i := 4) (oi := ⟨_, _, _, _, _, _⟩) (v := ?_) rfl (by kernel_rfl) (by kernel_rfl) (by kernel_rfl) (fun _ _ _ h => h) (Or.inl ⟨by rfl, ?_⟩) hH0 ?_
  rotate_left
  · intro wS hSw; (try dsimp only at hSw); go_simp; try with_reducible rfl
  try simp only [Act.put, List.setIfInBounds_toArray, List.set_cons_zero, List.set_cons_succ]
  refine wpAnyH_take (i := 5) (oi := ⟨_, _, _, _, _, _⟩) (v := ?_) rfl (by kernel_rfl) (by kernel_rfl) (by kernel_rfl) (fun _ _ _ h => h) (Or.inl ⟨by rfl, ?_⟩) hH0 ?_
  rotate_left
  · intro wS hSw; (try dsimp only at hSw); go_simp; try with_reducible rfl
  try simp only [Act.put, List.setIfInBounds_toArray, List.set_cons_zero, List.set_cons_succ]
  refine wpAnyH_take (i := 6) (oi := ⟨_, _, _, _, _, _⟩) (v := ?_) rfl (by kernel_rfl) (by kernel_rfl) (by kernel_rfl) (fun _ _ _ h => h) (Or.inl ⟨by rfl, ?_⟩) hH0 ?_
  rotate_left
  · intro wS hSw; (try dsimp only at hSw); go_simp; try with_reducible rfl
  try simp only [Act.put, List.setIfInBounds_toArray, List.set_cons_zero, List.set_cons_succ]
  refine wpAnyH_ready (rs := [7]) (by kernel_rfl) (by simp) ?_
  refine AllReadyH.cons (o := ⟨_, _, _, _, _, _⟩) rfl (fun Kq hKq => ?_) AllReadyH.nil
  go_simp
  (have _t := hR; go_at_call 23; refine (rsign_is (hR.out.drew.r 4 rfl) (sgnQ_0 rfl)).mono ?_; rintro e w37 ⟨rfl, hb⟩; have hC37 : Hid (St w w37 [(w1.heap.size, #[.slice a1 n1 c1, .bool m1], 28), (w1.heap.size + 1, #[.int .i64 s11, .slice a11 n11 c11], 31), (w2.heap.size, #[.slice a2 n2 c2, .bool m2], 28), (w2.heap.size + 1, #[.int .i64 s12, .slice a12 n12 c12], 31), (w36.heap.size, #[.slice a36 n36 c36, .bool m36, .slice d36 e36 f36], 48)] [fun V => Zd V (.slice a1 n1 c1) m1 (x1), fun V => Nz V s11 (.slice a11 n11 c11) (x1), fun V => Zd V (.slice a2 n2 c2) m2 (x2), fun V => Nz V s12 (.slice a12 n12 c12) (x2), fun V => Rd V (.slice a36 n36 c36) m36 (.slice d36 e36 f36) (0)]) := Lib.hid (St.pick ((hR.out.drew.call hb)) [0, 1, 2, 3, 4] rfl); clear hb; clear _t hR)
  (try go_wp2_with fail)
  refine hKq.out _ _ ?_ (fun hH1 => ?_)
  · (try dsimp only)
    all_goals (with_reducible refine And.intro (?_ : World.cell? w37 _ = _) ?_; exact hC37.out.cell 4 0 rfl rfl; exact ⟨hC37.out.cell 4 1 rfl rfl, hC37.out.cell 4 2 rfl rfl, trivial⟩)
  clear hKq Kq hH0
  try simp only [Act.put, List.setIfInBounds_toArray, List.set_cons_zero, List.set_cons_succ]
  refine wpAnyH_take (i := 8) (oi := ⟨_, _, _, _, _, _⟩) (v := ?_) rfl (by kernel_rfl) (by kernel_rfl) (by kernel_rfl) (fun _ _ _ h => h) (Or.inl ⟨by rfl, ?_⟩) hH1 ?_
  rotate_left
  · intro wS hSw; (try dsimp only at hSw); go_simp; try with_reducible rfl
  try simp only [Act.put, List.setIfInBounds_toArray, List.set_cons_zero, List.set_cons_succ]
  refine wpAnyH_take (i := 9) (oi := ⟨_, _, _, _, _, _⟩) (v := ?_) rfl (by kernel_rfl) (by kernel_rfl) (by kernel_rfl) (fun _ _ _ h => h) (Or.inl ⟨by rfl, ?_⟩) hH1 ?_
  rotate_left
  · intro wS hSw; (try dsimp only at hSw); go_simp; try with_reducible rfl
  try simp only [Act.put, List.setIfInBounds_toArray, List.set_cons_zero, List.set_cons_succ]
  refine wpAnyH_take (i := 10) (oi := ⟨_, _, _, _, _, _⟩) (v := ?_) rfl (by kernel_rfl) (by kernel_rfl) (by kernel_rfl) (fun _ _ _ h => h) (Or.inl ⟨by rfl, ?_⟩) hH1 ?_
  rotate_left
  · intro wS hSw; (try dsimp only at hSw); go_simp; try with_reducible rfl
  try simp only [Act.put, List.setIfInBounds_toArray, List.set_cons_zero, List.set_cons_succ]
  refine wpAnyH_take (i := 11) (oi := ⟨_, _, _, _, _, _⟩) (v := ?_) rfl (by kernel_rfl) (by kernel_rfl) (by kernel_rfl) (fun _ _ _ h => h) (Or.inl ⟨by rfl, ?_⟩) hH1 ?_
  rotate_left
  · intro wS hSw; (try dsimp only at hSw); go_simp; try with_reducible rfl
  try simp only [Act.put, List.setIfInBounds_toArray, List.set_cons_zero, List.set_cons_succ]
  refine wpAnyH_take (i := 12) (oi := ⟨_, _, _, _, _, _⟩) (v := ?_) rfl (by kernel_rfl) (by kernel_rfl) (by kernel_rfl) (fun _ _ _ h => h) (Or.inl ⟨by rfl, ?_⟩) hH1 ?_
  rotate_left
  · intro wS hSw; (try dsimp only at hSw); go_simp; try with_reducible rfl
  try simp only [Act.put, List.setIfInBounds_toArray, List.set_cons_zero, List.set_cons_succ]
  refine wpAnyH_take (i := 13) (oi := ⟨_, _, _, _, _, _⟩) (v := ?_) rfl (by kernel_rfl) (by kernel_rfl) (by kernel_rfl) (fun _ _ _ h => h) (Or.inl ⟨by rfl, ?_⟩) hH1 ?_
  rotate_left
  · intro wS hSw; (try dsimp only at hSw); go_simp; try with_reducible rfl
  try simp only [Act.put, List.setIfInBounds_toArray, List.set_cons_zero, List.set_cons_succ]
  refine wpAnyH_take (i := 14) (oi := ⟨_, _, _, _, _, _⟩) (v := ?_) rfl (by kernel_rfl) (by kernel_rfl) (by kernel_rfl) (fun _ _ _ h => h) (Or.inl ⟨by rfl, ?_⟩) hH1 ?_
  rotate_left
  · intro wS hSw; (try dsimp only at hSw); go_simp; try with_reducible rfl
  try simp only [Act.put, List.setIfInBounds_toArray, List.set_cons_zero, List.set_cons_succ]
  refine wpAnyH_take (i := 15) (oi := ⟨_, _, _, _, _, _⟩) (v := undef) rfl (by kernel_rfl) (by kernel_rfl) (by kernel_rfl) (fun _ _ _ h => h) (Or.inr ⟨by rfl, rfl⟩) hH1 ?_
  try simp only [Act.put, List.setIfInBounds_toArray, List.set_cons_zero, List.set_cons_succ]
  refine wpAnyH_take (i := 16) (oi := ⟨_, _, _, _, _, _⟩) (v := undef) rfl (by kernel_rfl) (by kernel_rfl) (by kernel_rfl) (fun _ _ _ h => h) (Or.inr ⟨by rfl, rfl⟩) hH1 ?_
  try simp only [Act.put, List.setIfInBounds_toArray, List.set_cons_zero, List.set_cons_succ]
  refine wpAnyH_take (i := 17) (oi := ⟨_, _, _, _, _, _⟩) (v := undef) rfl (by kernel_rfl) (by kernel_rfl) (by kernel_rfl) (fun _ _ _ h => h) (Or.inr ⟨by rfl, rfl⟩) hH1 ?_
  try simp only [Act.put, List.setIfInBounds_toArray, List.set_cons_zero, List.set_cons_succ]
  refine wpAnyH_take (i := 18) (oi := ⟨_, _, _, _, _, _⟩) (v := undef) rfl (by kernel_rfl) (by kernel_rfl) (by kernel_rfl) (fun _ _ _ h => h) (Or.inr ⟨by rfl, rfl⟩) hH1 ?_
  try simp only [Act.put, List.setIfInBounds_toArray, List.set_cons_zero, List.set_cons_succ]
  refine wpAnyH_take (i := 19) (oi := ⟨_, _, _, _, _, _⟩) (v := undef) rfl (by kernel_rfl) (by kernel_rfl) (by kernel_rfl) (fun _ _ _ h => h) (Or.inr ⟨by rfl, rfl⟩) hH1 ?_
  try simp only [Act.put, List.setIfInBounds_toArray, List.set_cons_zero, List.set_cons_succ]
  refine wpAnyH_take (i := 20) (oi := ⟨_, _, _, _, _, _⟩) (v := undef) rfl (by kernel_rfl) (by kernel_rfl) (by kernel_rfl) (fun _ _ _ h => h) (Or.inr ⟨by rfl, rfl⟩) hH1 ?_
  try simp only [Act.put, List.setIfInBounds_toArray, List.set_cons_zero, List.set_cons_succ]
  refine wpAnyH_take (i := 21) (oi := ⟨_, _, _, _, _, _⟩) (v := undef) rfl (by kernel_rfl) (by kernel_rfl) (by kernel_rfl) (fun _ _ _ h => h) (Or.inr ⟨by rfl, rfl⟩) hH1 ?_
  try simp only [Act.put, List.setIfInBounds_toArray, List.set_cons_zero, List.set_cons_succ]
  refine wpAnyH_take (i := 22) (oi := ⟨_, _, _, _, _, _⟩) (v := undef) rfl (by kernel_rfl) (by kernel_rfl) (by kernel_rfl) (fun _ _ _ h => h) (Or.inr ⟨by rfl, rfl⟩) hH1 ?_
  try simp only [Act.put, List.setIfInBounds_toArray, List.set_cons_zero, List.set_cons_succ]
  refine wpAnyH_take (i := 23) (oi := ⟨_, _, _, _, _, _⟩) (v := undef) rfl (by kernel_rfl) (by kernel_rfl) (by kernel_rfl) (fun _ _ _ h => h) (Or.inr ⟨by rfl, rfl⟩) hH1 ?_
  try simp only [Act.put, List.setIfInBounds_toArray, List.set_cons_zero, List.set_cons_succ]
  refine wpAnyH_take (i := 24) (oi := ⟨_, _, _, _, _, _⟩) (v := undef) rfl (by kernel_rfl) (by kernel_rfl) (by kernel_rfl) (fun _ _ _ h => h) (Or.inr ⟨by rfl, rfl⟩) hH1 ?_
  try simp only [Act.put, List.setIfInBounds_toArray, List.set_cons_zero, List.set_cons_succ]
  refine wpAnyH_take (i := 25) (oi := ⟨_, _, _, _, _, _⟩) (v := ?_) rfl (by kernel_rfl) (by kernel_rfl) (by kernel_rfl) (fun _ _ _ h => h) (Or.inl ⟨by rfl, ?_⟩) hH1 ?_
  rotate_left
  · intro wS hSw; (try dsimp only at hSw); go_simp; try with_reducible rfl
  try simp only [Act.put, List.setIfInBounds_toArray, List.set_cons_zero, List.set_cons_succ]
  refine wpAnyH_take (i := 26) (oi := ⟨_, _, _, _, _, _⟩) (v := ?_) rfl (by kernel_rfl) (by kernel_rfl) (by kernel_rfl) (fun _ _ _ h => h) (Or.inl ⟨by rfl, ?_⟩) hH1 ?_
  rotate_left
  · intro wS hSw; (try dsimp only at hSw); go_simp; try with_reducible rfl
  try simp only [Act.put, List.setIfInBounds_toArray, List.set_cons_zero, List.set_cons_succ]
  refine wpAnyH_done (by kernel_rfl) ?_ _
  go_upto_region 8 with fail
  have y00 := hC37.out.cell 0 0 rfl rfl
  have y01 := hC37.out.cell 0 1 rfl rfl
  have y20 := hC37.out.cell 2 0 rfl rfl
  have y21 := hC37.out.cell 2 1 rfl rfl
  go_wp2_with fail
  refine (ofz_z (hC37.out.z 0 rfl) (hC37.out.z 2 rfl) E1.out E2.out (by omega) (by omega) HB0.out).mono ?_
  rintro e w38 ⟨a38, n38, c38, m38, d38, e38, f38, rfl, hz, hb⟩
  have hC38 : Hid (St w _ [(w1.heap.size, #[.slice a1 n1 c1, .bool m1], 28), (w1.heap.size + 1, #[.int .i64 s11, .slice a11 n11 c11], 31), (w2.heap.size, #[.slice a2 n2 c2, .bool m2], 28), (w2.heap.size + 1, #[.int .i64 s12, .slice a12 n12 c12], 31), (w36.heap.size, #[.slice a36 n36 c36, .bool m36, .slice d36 e36 f36], 48), (w38.heap.size, #[.slice a38 n38 c38, .bool m38, .slice d38 e38 f38], 48)] [fun V => Zd V (.slice a1 n1 c1) m1 (x1), fun V => Nz V s11 (.slice a11 n11 c11) (x1), fun V => Zd V (.slice a2 n2 c2) m2 (x2), fun V => Nz V s12 (.slice a12 n12 c12) (x2), fun V => Rd V (.slice a36 n36 c36) m36 (.slice d36 e36 f36) (0), fun V => Rd V (.slice a38 n38 c38) m38 (.slice d38 e38 f38) (0)]) := Lib.hid (((hC37.out.call hb).pr hz).al w38.heap.size #[.slice a38 n38 c38, .bool m38, .slice d38 e38 f38] 48 rfl rfl)
  clear hb hz hC37
  clear y00 y01 y20 y21
  have y30 := hC38.out.cell 3 0 rfl rfl
  have y31 := hC38.out.cell 3 1 rfl rfl
  have y50 := hC38.out.cell 5 0 rfl rfl
  have y51 := hC38.out.cell 5 1 rfl rfl
  have y52 := hC38.out.cell 5 2 rfl rfl
  go_wp2_with fail
  refine (rsign_is (hC38.out.r 5 rfl) (sgnQ_0 rfl)).mono ?_
  rintro e w39 ⟨rfl, hb⟩
  have hC39 : Hid (St w w39 [(w1.heap.size, #[.slice a1 n1 c1, .bool m1], 28), (w1.heap.size + 1, #[.int .i64 s11, .slice a11 n11 c11], 31), (w2.heap.size, #[.slice a2 n2 c2, .bool m2], 28), (w2.heap.size + 1, #[.int .i64 s12, .slice a12 n12 c12], 31), (w36.heap.size, #[.slice a36 n36 c36, .bool m36, .slice d36 e36 f36], 48), (w38.heap.size, #[.slice a38 n38 c38, .bool m38, .slice d38 e38 f38], 48)] [fun V => Zd V (.slice a1 n1 c1) m1 (x1), fun V => Nz V s11 (.slice a11 n11 c11) (x1), fun V => Zd V (.slice a2 n2 c2) m2 (x2), fun V => Nz V s12 (.slice a12 n12 c12) (x2), fun V => Rd V (.slice a36 n36 c36) m36 (.slice d36 e36 f36) (0), fun V => Rd V (.slice a38 n38 c38) m38 (.slice d38 e38 f38) (0)]) := Lib.hid (hC38.out.call hb)
  clear hb hC38
  go_wp2_with fail
  refine (awake_any _).mono ?_
  rintro e w40 ⟨rfl, hb⟩
  have hC40 : Hid (St w w40 [(w1.heap.size, #[.slice a1 n1 c1, .bool m1], 28), (w1.heap.size + 1, #[.int .i64 s11, .slice a11 n11 c11], 31), (w2.heap.size, #[.slice a2 n2 c2, .bool m2], 28), (w2.heap.size + 1, #[.int .i64 s12, .slice a12 n12 c12], 31), (w36.heap.size, #[.slice a36 n36 c36, .bool m36, .slice d36 e36 f36], 48), (w38.heap.size, #[.slice a38 n38 c38, .bool m38, .slice d38 e38 f38], 48)] [fun V => Zd V (.slice a1 n1 c1) m1 (x1), fun V => Nz V s11 (.slice a11 n11 c11) (x1), fun V => Zd V (.slice a2 n2 c2) m2 (x2), fun V => Nz V s12 (.slice a12 n12 c12) (x2), fun V => Rd V (.slice a36 n36 c36) m36 (.slice d36 e36 f36) (0), fun V => Rd V (.slice a38 n38 c38) m38 (.slice d38 e38 f38) (0)]) := Lib.hid (hC39.out.call hb)
  clear hb hC39
  clear y30 y31 y50 y51 y52
  go_wp2
  go_ret
  exact ⟨rfl, hC40.out.be⟩

set_option maxRecDepth 100000 in
set_option maxHeartbeats 16000000 in
theorem ratios_zn (A1 B1 C1 P1 : Int) (A2 B2 C2 P2 : Int) (K J : Int) (w : World) (hA1 : -9223372036854775808 ≤ A1 ∧ A1 < 9223372036854775808) (hB1 : -9223372036854775808 ≤ B1 ∧ B1 < 9223372036854775808) (hC1 : -9223372036854775808 ≤ C1 ∧ C1 < 9223372036854775808) (hP1 : 0 ≤ P1 ∧ P1 < 256) (hA2 : -9223372036854775808 ≤ A2 ∧ A2 < 9223372036854775808) (hB2 : -9223372036854775808 ≤ B2 ∧ B2 < 9223372036854775808) (hC2 : -9223372036854775808 ≤ C2 ∧ C2 < 9223372036854775808) (hP2 : 0 ≤ P2 ∧ P2 < 256) (hK : -9223372036854775808 ≤ K ∧ K < 9223372036854775808) (hJ : -9223372036854775808 ≤ J ∧ J < 9223372036854775808) (h0 : big A2 B2 C2 P2 ≠ 0) (j0 : J = 0) :
    Calls Tryz.prog 7 #[.agg #[.int .i64 A1, .int .i64 B1, .int .i64 C1, .int .u8 P1], .agg #[.int .i64 A2, .int .i64 B2, .int .i64 C2, .int .u8 P2], .int .i64 K, .int .i64 J] w (fun e w' => e = .returned (.bool true) ∧ Below w.heap.size w w') := by
  have HK := Lib.hid hK
  clear hK
  have HJ := Lib.hid hJ
  have HJ0 := Lib.hid j0
  have dj : (J == 0) = true := by simpa using j0
  have dj2 : (J != 0) = false := by simpa using j0
  clear hJ j0
  obtain ⟨x1, h1, b1⟩ : ∃ x : Int, big A1 B1 C1 P1 = x ∧ Bd 772 x := ⟨_, rfl, big_bd hA1 hB1 hC1⟩
  have H1 := Lib.hid h1
  have E1 := Lib.hid b1
  clear h1 b1
  have HA1 := Lib.hid hA1
  clear hA1
  have HB1 := Lib.hid hB1
  clear hB1
  have HC1 := Lib.hid hC1
  clear hC1
  have HP1 := Lib.hid hP1
  clear hP1
  obtain ⟨x2, h1, b1⟩ : ∃ x : Int, big A2 B2 C2 P2 = x ∧ Bd 772 x := ⟨_, rfl, big_bd hA2 hB2 hC2⟩
  have H2 := Lib.hid h1
  have E2 := Lib.hid b1
  clear h1 b1
  have HA2 := Lib.hid hA2
  clear hA2
  have HB2 := Lib.hid hB2
  clear hB2
  have HC2 := Lib.hid hC2
  clear hC2
  have HP2 := Lib.hid hP2
  clear hP2
  have hC := Lib.hid (((St.enter w).al (w.heap.size) #[.int .i64 A1, .int .i64 B1, .int .i64 C1, .int .u8 P1] 23 rfl rfl).al (w.heap.size + 1) #[.int .i64 A2, .int .i64 B2, .int .i64 C2, .int .u8 P2] 23 (by simp) rfl)
  have HB0 : Hid (x2 ≠ 0) := Lib.hid (by rw [← H2.out]; exact h0)
  clear h0
  go_enter Tryz.func7, Tryz.ntmps7
  have y0 := hC.out.cell 0 0 rfl rfl
  have y1 := hC.out.cell 0 1 rfl rfl
  have y2 := hC.out.cell 0 2 rfl rfl
  have y3 := hC.out.cell 0 3 rfl rfl
  go_wp2_with fail
  refine (bothZ_any A1 B1 C1 P1 _ HA1.out HB1.out HC1.out HP1.out).mono ?_
  rintro e w1 ⟨a1, n1, c1, m1, s11, a11, n11, c11, rfl, hz, hn, hb⟩
  rw [H1.out] at hz hn
  have hC1 := Lib.hid ((((hC.out.call hb).pz hz).pn hn |>.al w1.heap.size #[.slice a1 n1 c1, .bool m1] 28 rfl rfl).al (w1.heap.size + 1) #[.int .i64 s11, .slice a11 n11 c11] 31 (by simp) rfl)
  clear hz hn hb hC y0 y1 y2 y3
  have y0 := hC1.out.cell 1 0 rfl rfl
  have y1 := hC1.out.cell 1 1 rfl rfl
  have y2 := hC1.out.cell 1 2 rfl rfl
  have y3 := hC1.out.cell 1 3 rfl rfl
  go_wp2_with fail
  refine (bothZ_any A2 B2 C2 P2 _ HA2.out HB2.out HC2.out HP2.out).mono ?_
  rintro e w2 ⟨a2, n2, c2, m2, s12, a12, n12, c12, rfl, hz, hn, hb⟩
  rw [H2.out] at hz hn
  have hC2 := Lib.hid ((((hC1.out.call hb).pz hz).pn hn |>.al w2.heap.size #[.slice a2 n2 c2, .bool m2] 28 rfl rfl).al (w2.heap.size + 1) #[.int .i64 s12, .slice a12 n12 c12] 31 (by simp) rfl)
  clear hz hn hb hC1 y0 y1 y2 y3
  go_wp2_with fail
  refine wp_gen ((hC2.out.pick [0, 1, 2, 3] (rs' := [fun V => Zd V (.slice a1 n1 c1) m1 (x1), fun V => Nz V s11 (.slice a11 n11 c11) (x1), fun V => Zd V (.slice a2 n2 c2) m2 (x2), fun V => Nz V s12 (.slice a12 n12 c12) (x2)]) rfl).bpick [2, 3, 4, 5] (by decide) (bs' := [(w1.heap.size, #[.slice a1 n1 c1, .bool m1], 28), (w1.heap.size + 1, #[.int .i64 s11, .slice a11 n11 c11], 31), (w2.heap.size, #[.slice a2 n2 c2, .bool m2], 28), (w2.heap.size + 1, #[.int .i64 s12, .slice a12 n12 c12], 31)]) rfl) ?_
  intro W hc
  clear hC2
  have hC0 := Lib.hid hc
  clear hc
  have ds : (s12 == 0) = false := by
    have h := (hC0.out.n 3 rfl).s0
    have h2 : s12 ≠ 0 := fun e => HB0.out (h.2.1 e)
    simpa using h2
  refine wp_region_held_drew (S := (fun w' => w'.cell? ⟨w1.heap.size, 0, none⟩ = some (.slice a1 n1 c1) ∧ w'.cell? ⟨w1.heap.size, 1, none⟩ = some (.bool m1) ∧ w'.cell? ⟨w1.heap.size + 1, 0, none⟩ = some (.int .i64 s11) ∧ w'.cell? ⟨w1.heap.size + 1, 1, none⟩ = some (.slice a11 n11 c11) ∧ w'.cell? ⟨w2.heap.size, 0, none⟩ = some (.slice a2 n2 c2) ∧ w'.cell? ⟨w2.heap.size, 1, none⟩ = some (.bool m2) ∧ w'.cell? ⟨w2.heap.size + 1, 0, none⟩ = some (.int .i64 s12) ∧ w'.cell? ⟨w2.heap.size + 1, 1, none⟩ = some (.slice a12 n12 c12) ∧ True)) (by kernel_rfl) ?_ (fun hH0 => ?_)
  · (try dsimp only)
    all_goals (with_reducible refine And.intro (?_ : World.cell? (World.drew W) _ = _) ?_; exact hC0.out.drew.cell 0 0 rfl rfl; exact ⟨hC0.out.drew.cell 0 1 rfl rfl, hC0.out.drew.cell 1 0 rfl rfl, hC0.out.drew.cell 1 1 rfl rfl, hC0.out.drew.cell 2 0 rfl rfl, hC0.out.drew.cell 2 1 rfl rfl, hC0.out.drew.cell 3 0 rfl rfl, hC0.out.drew.cell 3 1 rfl rfl, trivial⟩)
  refine wpAnyH_take (i := 0) (oi := ⟨_, _, _, _, _, _⟩) (v := ?_) rfl (by kernel_rfl) (by kernel_rfl) (by kernel_rfl) (fun _ _ _ h => h) (Or.inl ⟨by rfl, ?_⟩) hH0 ?_
  rotate_left
  · intro wS hSw; (try dsimp only at hSw); go_simp; try with_reducible rfl
  try simp only [Act.put, List.setIfInBounds_toArray, List.set_cons_zero, List.set_cons_succ]
  refine wpAnyH_take (i := 2) (oi := ⟨_, _, _, _, _, _⟩) (v := ?_) rfl (by kernel_rfl) (by kernel_rfl) (by kernel_rfl) (fun _ _ _ h => h) (Or.inl ⟨by rfl, ?_⟩) hH0 ?_
  rotate_left
  · intro wS hSw; (try dsimp only at hSw); go_simp; try with_reducible rfl
  try simp only [Act.put, List.setIfInBounds_toArray, List.set_cons_zero, List.set_cons_succ]
  refine wpAnyH_ready (rs := [1]) (by kernel_rfl) (by simp) ?_
  refine AllReadyH.cons (o := ⟨_, _, _, _, _, _⟩) rfl (fun Kq hKq => ?_) AllReadyH.nil
  go_simp
  (have _t := hC0; go_at_call 48; refine (of_any K HK.out _).mono ?_; rintro e w30 ⟨a30, n30, c30, m30, d30, e30, f30, rfl, hz, hb⟩; have hC30 : Hid (St w w30 [(w1.heap.size, #[.slice a1 n1 c1, .bool m1], 28), (w1.heap.size + 1, #[.int .i64 s11, .slice a11 n11 c11], 31), (w2.heap.size, #[.slice a2 n2 c2, .bool m2], 28), (w2.heap.size + 1, #[.int .i64 s12, .slice a12 n12 c12], 31)] [fun V => Zd V (.slice a1 n1 c1) m1 (x1), fun V => Nz V s11 (.slice a11 n11 c11) (x1), fun V => Zd V (.slice a2 n2 c2) m2 (x2), fun V => Nz V s12 (.slice a12 n12 c12) (x2), fun V => Rd V (.slice a30 n30 c30) m30 (.slice d30 e30 f30) ((K : Rat))]) := Lib.hid (St.pick ((hC0.out.drew.call hb).pr hz) [0, 1, 2, 3, 4] rfl); clear hb hz; clear _t hC0)
  (try go_wp2_with fail)
  refine hKq.out _ _ ?_ (fun hH1 => ?_)
  · (try dsimp only)
    all_goals (with_reducible refine And.intro (?_ : World.cell? w30 _ = _) ?_; exact hC30.out.cell 0 0 rfl rfl; exact ⟨hC30.out.cell 0 1 rfl rfl, hC30.out.cell 1 0 rfl rfl, hC30.out.cell 1 1 rfl rfl, hC30.out.cell 2 0 rfl rfl, hC30.out.cell 2 1 rfl rfl, hC30.out.cell 3 0 rfl rfl, hC30.out.cell 3 1 rfl rfl, trivial⟩)
  clear hKq Kq hH0
  try simp only [Act.put, List.setIfInBounds_toArray, List.set_cons_zero, List.set_cons_succ]
  refine wpAnyH_ready (rs := [3]) (by kernel_rfl) (by simp) ?_
  refine AllReadyH.cons (o := ⟨_, _, _, _, _, _⟩) rfl (fun Kq hKq => ?_) AllReadyH.nil
  go_simp
  (have _t := hC30; go_at_call 49; refine (ofN_any K HK.out _).mono ?_; rintro e w31 ⟨s31, a31, n31, c31, t31, d31, e31, f31, rfl, hz, hb⟩; have hC31 : Hid (St w w31 [(w1.heap.size, #[.slice a1 n1 c1, .bool m1], 28), (w1.heap.size + 1, #[.int .i64 s11, .slice a11 n11 c11], 31), (w2.heap.size, #[.slice a2 n2 c2, .bool m2], 28), (w2.heap.size + 1, #[.int .i64 s12, .slice a12 n12 c12], 31)] [fun V => Zd V (.slice a1 n1 c1) m1 (x1), fun V => Nz V s11 (.slice a11 n11 c11) (x1), fun V => Zd V (.slice a2 n2 c2) m2 (x2), fun V => Nz V s12 (.slice a12 n12 c12) (x2), fun V => Rd V (.slice a30 n30 c30) m30 (.slice d30 e30 f30) ((K : Rat)), fun V => Nq V s31 (.slice a31 n31 c31) t31 (.slice d31 e31 f31) ((K : Rat))]) := Lib.hid (St.pick ((hC30.out.call hb).pq hz) [0, 1, 2, 3, 4, 5] rfl); clear hb hz; clear _t hC30)
  (try go_wp2_with fail)
  refine hKq.out _ _ ?_ (fun hH2 => ?_)
  · (try dsimp only)
    all_goals (with_reducible refine And.intro (?_ : World.cell? w31 _ = _) ?_; exact hC31.out.cell 0 0 rfl rfl; exact ⟨hC31.out.cell 0 1 rfl rfl, hC31.out.cell 1 0 rfl rfl, hC31.out.cell 1 1 rfl rfl, hC31.out.cell 2 0 rfl rfl, hC31.out.cell 2 1 rfl rfl, hC31.out.cell 3 0 rfl rfl, hC31.out.cell 3 1 rfl rfl, trivial⟩)
  clear hKq Kq hH1
  try simp only [Act.put, List.setIfInBounds_toArray, List.set_cons_zero, List.set_cons_succ]
  refine wpAnyH_ready (rs := [4]) (by kernel_rfl) (by simp) ?_
  refine AllReadyH.cons (o := ⟨_, _, _, _, _, _⟩) rfl (fun Kq hKq => ?_) AllReadyH.nil
  go_simp
  (have _t := hC31; go_at_call 27; refine (same_b (hC31.out.r 4 rfl) (hC31.out.rq 5 rfl) (Bq.int (Bd.i64 HK.out)) (by omega)).mono ?_; rintro e w32 ⟨rfl, hb⟩; have hC32 : Hid (St w w32 [(w1.heap.size, #[.slice a1 n1 c1, .bool m1], 28), (w1.heap.size + 1, #[.int .i64 s11, .slice a11 n11 c11], 31), (w2.heap.size, #[.slice a2 n2 c2, .bool m2], 28), (w2.heap.size + 1, #[.int .i64 s12, .slice a12 n12 c12], 31)] [fun V => Zd V (.slice a1 n1 c1) m1 (x1), fun V => Nz V s11 (.slice a11 n11 c11) (x1), fun V => Zd V (.slice a2 n2 c2) m2 (x2), fun V => Nz V s12 (.slice a12 n12 c12) (x2)]) := Lib.hid (St.pick ((hC31.out.call hb)) [0, 1, 2, 3] rfl); clear hb; clear _t hC31)
  (try go_wp2_with fail)
  refine hKq.out _ _ ?_ (fun hH3 => ?_)
  · (try dsimp only)
    all_goals (with_reducible refine And.intro (?_ : World.cell? w32 _ = _) ?_; exact hC32.out.cell 0 0 rfl rfl; exact ⟨hC32.out.cell 0 1 rfl rfl, hC32.out.cell 1 0 rfl rfl, hC32.out.cell 1 1 rfl rfl, hC32.out.cell 2 0 rfl rfl, hC32.out.cell 2 1 rfl rfl, hC32.out.cell 3 0 rfl rfl, hC32.out.cell 3 1 rfl rfl, trivial⟩)
  clear hKq Kq hH2
  try simp only [Act.put, List.setIfInBounds_toArray, List.set_cons_zero, List.set_cons_succ]
  refine wpAnyH_take (i := 5) (oi := ⟨_, _, _, _, _, _⟩) (v := ?_) rfl (by kernel_rfl) (by kernel_rfl) (by kernel_rfl) (fun _ _ _ h => h) (Or.inl ⟨by rfl, ?_⟩) hH3 ?_
  rotate_left
  · intro wS hSw; (try dsimp only at hSw); go_simp; try with_reducible rfl
  try simp only [Act.put, List.setIfInBounds_toArray, List.set_cons_zero, List.set_cons_succ]
  refine wpAnyH_take (i := 6) (oi := ⟨_, _, _, _, _, _⟩) (v := ?_) rfl (by kernel_rfl) (by kernel_rfl) (by kernel_rfl) (fun _ _ _ h => h) (Or.inl ⟨by rfl, ?_⟩) hH3 ?_
  rotate_left
  · intro wS hSw; (try dsimp only at hSw); go_simp; try with_reducible rfl
  try simp only [Act.put, List.setIfInBounds_toArray, List.set_cons_zero, List.set_cons_succ]
  refine wpAnyH_take (i := 7) (oi := ⟨_, _, _, _, _, _⟩) (v := ?_) rfl (by kernel_rfl) (by kernel_rfl) (by kernel_rfl) (fun _ _ _ h => h) (Or.inl ⟨by rfl, ?_⟩) hH3 ?_
  rotate_left
  · intro wS hSw; (try dsimp only at hSw); go_simp; try with_reducible rfl
  try simp only [Act.put, List.setIfInBounds_toArray, List.set_cons_zero, List.set_cons_succ]
  refine wpAnyH_take (i := 9) (oi := ⟨_, _, _, _, _, _⟩) (v := ?_) rfl (by kernel_rfl) (by kernel_rfl) (by kernel_rfl) (fun _ _ _ h => h) (Or.inl ⟨by rfl, ?_⟩) hH3 ?_
  rotate_left
  · intro wS hSw; (try dsimp only at hSw); go_simp; try with_reducible rfl
  try simp only [Act.put, List.setIfInBounds_toArray, List.set_cons_zero, List.set_cons_succ]
  refine wpAnyH_ready (rs := [8]) (by kernel_rfl) (by simp) ?_
  refine AllReadyH.cons (o := ⟨_, _, _, _, _, _⟩) rfl (fun Kq hKq => ?_) AllReadyH.nil
  go_simp
  (have _t := hC32; go_at_call 50; refine (whole_any _ _ _ _ _ _ (hC32.out.z 0 rfl)).mono ?_; rintro e w33 ⟨a33, n33, c33, m33, d33, e33, f33, rfl, hz, hb⟩; have hC33 : Hid (St w w33 [(w1.heap.size, #[.slice a1 n1 c1, .bool m1], 28), (w1.heap.size + 1, #[.int .i64 s11, .slice a11 n11 c11], 31), (w2.heap.size, #[.slice a2 n2 c2, .bool m2], 28), (w2.heap.size + 1, #[.int .i64 s12, .slice a12 n12 c12], 31)] [fun V => Zd V (.slice a1 n1 c1) m1 (x1), fun V => Nz V s11 (.slice a11 n11 c11) (x1), fun V => Zd V (.slice a2 n2 c2) m2 (x2), fun V => Nz V s12 (.slice a12 n12 c12) (x2), fun V => Rd V (.slice a33 n33 c33) m33 (.slice d33 e33 f33) (((x1 : Int) : Rat))]) := Lib.hid (St.pick ((hC32.out.call hb).pr hz) [0, 1, 2, 3, 4] rfl); clear hb hz; clear _t hC32)
  (try go_wp2_with fail)
  refine hKq.out _ _ ?_ (fun hH4 => ?_)
  · (try dsimp only)
    all_goals (with_reducible refine And.intro (?_ : World.cell? w33 _ = _) ?_; exact hC33.out.cell 0 0 rfl rfl; exact ⟨hC33.out.cell 0 1 rfl rfl, hC33.out.cell 1 0 rfl rfl, hC33.out.cell 1 1 rfl rfl, hC33.out.cell 2 0 rfl rfl, hC33.out.cell 2 1 rfl rfl, hC33.out.cell 3 0 rfl rfl, hC33.out.cell 3 1 rfl rfl, trivial⟩)
  clear hKq Kq hH3
  try simp only [Act.put, List.setIfInBounds_toArray, List.set_cons_zero, List.set_cons_succ]
  refine wpAnyH_ready (rs := [10]) (by kernel_rfl) (by simp) ?_
  refine AllReadyH.cons (o := ⟨_, _, _, _, _, _⟩) rfl (fun Kq hKq => ?_) AllReadyH.nil
  go_simp
  (have _t := hC33; go_at_call 51; refine (wholeN_any _ _ _ _ _ _ (hC33.out.n 1 rfl)).mono ?_; rintro e w34 ⟨s34, a34, n34, c34, t34, d34, e34, f34, rfl, hz, hb⟩; have hC34 : Hid (St w w34 [(w1.heap.size, #[.slice a1 n1 c1, .bool m1], 28), (w1.heap.size + 1, #[.int .i64 s11, .slice a11 n11 c11], 31), (w2.heap.size, #[.slice a2 n2 c2, .bool m2], 28), (w2.heap.size + 1, #[.int .i64 s12, .slice a12 n12 c12], 31)] [fun V => Zd V (.slice a1 n1 c1) m1 (x1), fun V => Nz V s11 (.slice a11 n11 c11) (x1), fun V => Zd V (.slice a2 n2 c2) m2 (x2), fun V => Nz V s12 (.slice a12 n12 c12) (x2), fun V => Rd V (.slice a33 n33 c33) m33 (.slice d33 e33 f33) (((x1 : Int) : Rat)), fun V => Nq V s34 (.slice a34 n34 c34) t34 (.slice d34 e34 f34) (((x1 : Int) : Rat))]) := Lib.hid (St.pick ((hC33.out.call hb).pq hz) [0, 1, 2, 3, 4, 5] rfl); clear hb hz; clear _t hC33)
  (try go_wp2_with fail)
  refine hKq.out _ _ ?_ (fun hH5 => ?_)
  · (try dsimp only)
    all_goals (with_reducible refine And.intro (?_ : World.cell? w34 _ = _) ?_; exact hC34.out.cell 0 0 rfl rfl; exact ⟨hC34.out.cell 0 1 rfl rfl, hC34.out.cell 1 0 rfl rfl, hC34.out.cell 1 1 rfl rfl, hC34.out.cell 2 0 rfl rfl, hC34.out.cell 2 1 rfl rfl, hC34.out.cell 3 0 rfl rfl, hC34.out.cell 3 1 rfl rfl, trivial⟩)
  clear hKq Kq hH4
  try simp only [Act.put, List.setIfInBounds_toArray, List.set_cons_zero, List.set_cons_succ]
  refine wpAnyH_ready (rs := [11]) (by kernel_rfl) (by simp) ?_
  refine AllReadyH.cons (o := ⟨_, _, _, _, _, _⟩) rfl (fun Kq hKq => ?_) AllReadyH.nil
  go_simp
  (have _t := hC34; go_at_call 27; refine (same_b (hC34.out.r 4 rfl) (hC34.out.rq 5 rfl) (Bq.int (E1.out)) (by omega)).mono ?_; rintro e w35 ⟨rfl, hb⟩; have hC35 : Hid (St w w35 [(w1.heap.size, #[.slice a1 n1 c1, .bool m1], 28), (w1.heap.size + 1, #[.int .i64 s11, .slice a11 n11 c11], 31), (w2.heap.size, #[.slice a2 n2 c2, .bool m2], 28), (w2.heap.size + 1, #[.int .i64 s12, .slice a12 n12 c12], 31)] [fun V => Zd V (.slice a1 n1 c1) m1 (x1), fun V => Nz V s11 (.slice a11 n11 c11) (x1), fun V => Zd V (.slice a2 n2 c2) m2 (x2), fun V => Nz V s12 (.slice a12 n12 c12) (x2)]) := Lib.hid (St.pick ((hC34.out.call hb)) [0, 1, 2, 3] rfl); clear hb; clear _t hC34)
  (try go_wp2_with fail)
  refine hKq.out _ _ ?_ (fun hH6 => ?_)
  · (try dsimp only)
    all_goals (with_reducible refine And.intro (?_ : World.cell? w35 _ = _) ?_; exact hC35.out.cell 0 0 rfl rfl; exact ⟨hC35.out.cell 0 1 rfl rfl, hC35.out.cell 1 0 rfl rfl, hC35.out.cell 1 1 rfl rfl, hC35.out.cell 2 0 rfl rfl, hC35.out.cell 2 1 rfl rfl, hC35.out.cell 3 0 rfl rfl, hC35.out.cell 3 1 rfl rfl, trivial⟩)
  clear hKq Kq hH5
  try simp only [Act.put, List.setIfInBounds_toArray, List.set_cons_zero, List.set_cons_succ]
  refine wpAnyH_take (i := 12) (oi := ⟨_, _, _, _, _, _⟩) (v := ?_) rfl (by kernel_rfl) (by kernel_rfl) (by kernel_rfl) (fun _ _ _ h => h) (Or.inl ⟨by rfl, ?_⟩) hH6 ?_
  rotate_left
  · intro wS hSw; (try dsimp only at hSw); go_simp; try with_reducible rfl
  try simp only [Act.put, List.setIfInBounds_toArray, List.set_cons_zero, List.set_cons_succ]
  refine wpAnyH_take (i := 13) (oi := ⟨_, _, _, _, _, _⟩) (v := ?_) rfl (by kernel_rfl) (by kernel_rfl) (by kernel_rfl) (fun _ _ _ h => h) (Or.inl ⟨by rfl, ?_⟩) hH6 ?_
  rotate_left
  · intro wS hSw; (try dsimp only at hSw); go_simp; try with_reducible rfl
  try simp only [Act.put, List.setIfInBounds_toArray, List.set_cons_zero, List.set_cons_succ]
  refine wpAnyH_done (by kernel_rfl) ?_ _
  go_wp2_with fail
  go_wp2_with fail
  refine (ratioI_z HK.out HJ0.out).mono ?_
  rintro e w36 ⟨a36, n36, c36, m36, d36, e36, f36, rfl, hz, hb⟩
  have hC36 : Hid (St w _ [(w1.heap.size, #[.slice a1 n1 c1, .bool m1], 28), (w1.heap.size + 1, #[.int .i64 s11, .slice a11 n11 c11], 31), (w2.heap.size, #[.slice a2 n2 c2, .bool m2], 28), (w2.heap.size + 1, #[.int .i64 s12, .slice a12 n12 c12], 31), (w36.heap.size, #[.slice a36 n36 c36, .bool m36, .slice d36 e36 f36], 48)] [fun V => Zd V (.slice a1 n1 c1) m1 (x1), fun V => Nz V s11 (.slice a11 n11 c11) (x1), fun V => Zd V (.slice a2 n2 c2) m2 (x2), fun V => Nz V s12 (.slice a12 n12 c12) (x2), fun V => Rd V (.slice a36 n36 c36) m36 (.slice d36 e36 f36) (0)]) := Lib.hid (((hC35.out.call hb).pr hz).al w36.heap.size #[.slice a36 n36 c36, .bool m36, .slice d36 e36 f36] 48 rfl rfl)
  clear hb hz hC35
  go_upto_region 6 with fail
  refine wp_gen hC36.out ?_
  intro WR hc
  clear hC36
  have hR := Lib.hid hc
  clear hc
  refine wp_region_held_drew (S := (fun w' => w'.cell? ⟨w36.heap.size, 0, none⟩ = some (.slice a36 n36 c36) ∧ w'.cell? ⟨w36.heap.size, 1, none⟩ = some (.bool m36) ∧ w'.cell? ⟨w36.heap.size, 2, none⟩ = some (.slice d36 e36 f36) ∧ True)) (by kernel_rfl) ?_ (fun hH0 => ?_)
  · (try dsimp only)
    all_goals (with_reducible refine And.intro (?_ : World.cell? (World.drew WR) _ = _) ?_; exact hR.out.drew.cell 4 0 rfl rfl; exact ⟨hR.out.drew.cell 4 1 rfl rfl, hR.out.drew.cell 4 2 rfl rfl, trivial⟩)
  refine wpAnyH_take (i := 0) (oi := ⟨_, _, _, _, _, _⟩) (v := ?_) rfl (by kernel_rfl) (by kernel_rfl) (by kernel_rfl) (fun _ _ _ h => h) (Or.inl ⟨by rfl, ?_⟩) hH0 ?_
  rotate_left
  · intro wS hSw; (try dsimp only at hSw); go_simp; try with_reducible rfl
  try simp only [Act.put, List.setIfInBounds_toArray, List.set_cons_zero, List.set_cons_succ]
  refine wpAnyH_take (i := 1) (oi := ⟨_, _, _, _, _, _⟩) (v := ?_) rfl (by kernel_rfl) (by kernel_rfl) (by kernel_rfl) (fun _ _ _ h => h) (Or.inl ⟨by rfl, ?_⟩) hH0 ?_
  rotate_left
  · intro wS hSw; (try dsimp only at hSw); go_simp; try with_reducible rfl
  try simp only [Act.put, List.setIfInBounds_toArray, List.set_cons_zero, List.set_cons_succ]
  refine wpAnyH_take (i := 2) (oi := ⟨_, _, _, _, _, _⟩) (v := ?_) rfl (by kernel_rfl) (by kernel_rfl) (by kernel_rfl) (fun _ _ _ h => h) (Or.inl ⟨by rfl, ?_⟩) hH0 ?_
  rotate_left
  · intro wS hSw; (try dsimp only at hSw); go_simp; try with_reducible rfl
  try simp only [Act.put, List.setIfInBounds_toArray, List.set_cons_zero, List.set_cons_succ]
  refine wpAnyH_take (i := 3) (oi := ⟨_, _, _, _, _, _⟩) (v := ?_) rfl (by kernel_rfl) (by kernel_rfl) (by kernel_rfl) (fun _ _ _ h => h) (Or.inl ⟨by rfl, ?_⟩) hH0 ?_
  rotate_left
  · intro wS hSw; (try dsimp only at hSw); go_simp; try with_reducible rfl
  try simp only [Act.put, List.setIfInBounds_toArray, List.set_cons_zero, List.set_cons_succ]
  refine wpAnyH_take (i := 4) (oi := ⟨_, _, _, _, _, _⟩) (v := ?_) rfl (by kernel_rfl) (by kernel_rfl) (by kernel_rfl) (fun _ _ _ h => h) (Or.inl ⟨by rfl, ?_⟩) hH0 ?_
  rotate_left
  · intro wS hSw; (try dsimp only at hSw); go_simp; try with_reducible rfl
  try simp only [Act.put, List.setIfInBounds_toArray, List.set_cons_zero, List.set_cons_succ]
  refine wpAnyH_take (i := 5) (oi := ⟨_, _, _, _, _, _⟩) (v := ?_) rfl (by kernel_rfl) (by kernel_rfl) (by kernel_rfl) (fun _ _ _ h => h) (Or.inl ⟨by rfl, ?_⟩) hH0 ?_
  rotate_left
  · intro wS hSw; (try dsimp only at hSw); go_simp; try with_reducible rfl
  try simp only [Act.put, List.setIfInBounds_toArray, List.set_cons_zero, List.set_cons_succ]
  refine wpAnyH_take (i := 6) (oi := ⟨_, _, _, _, _, _⟩) (v := ?_) rfl (by kernel_rfl) (by kernel_rfl) (by kernel_rfl) (fun _ _ _ h => h) (Or.inl ⟨by rfl, ?_⟩) hH0 ?_
  rotate_left
  · intro wS hSw; (try dsimp only at hSw); go_simp; try with_reducible rfl
  try simp only [Act.put, List.setIfInBounds_toArray, List.set_cons_zero, List.set_cons_succ]
  refine wpAnyH_ready (rs := [7]) (by kernel_rfl) (by simp) ?_
  refine AllReadyH.cons (o := ⟨_, _, _, _, _, _⟩) rfl (fun Kq hKq => ?_) AllReadyH.nil
  go_simp
  (have _t := hR; go_at_call 23; refine (rsign_is (hR.out.drew.r 4 rfl) (sgnQ_0 rfl)).mono ?_; rintro e w37 ⟨rfl, hb⟩; have hC37 : Hid (St w w37 [(w1.heap.size, #[.slice a1 n1 c1, .bool m1], 28), (w1.heap.size + 1, #[.int .i64 s11, .slice a11 n11 c11], 31), (w2.heap.size, #[.slice a2 n2 c2, .bool m2], 28), (w2.heap.size + 1, #[.int .i64 s12, .slice a12 n12 c12], 31), (w36.heap.size, #[.slice a36 n36 c36, .bool m36, .slice d36 e36 f36], 48)] [fun V => Zd V (.slice a1 n1 c1) m1 (x1), fun V => Nz V s11 (.slice a11 n11 c11) (x1), fun V => Zd V (.slice a2 n2 c2) m2 (x2), fun V => Nz V s12 (.slice a12 n12 c12) (x2), fun V => Rd V (.slice a36 n36 c36) m36 (.slice d36 e36 f36) (0)]) := Lib.hid (St.pick ((hR.out.drew.call hb)) [0, 1, 2, 3, 4] rfl); clear hb; clear _t hR)
  (try go_wp2_with fail)
  refine hKq.out _ _ ?_ (fun hH1 => ?_)
  · (try dsimp only)
    all_goals (with_reducible refine And.intro (?_ : World.cell? w37 _ = _) ?_; exact hC37.out.cell 4 0 rfl rfl; exact ⟨hC37.out.cell 4 1 rfl rfl, hC37.out.cell 4 2 rfl rfl, trivial⟩)
  clear hKq Kq hH0
  try simp only [Act.put, List.setIfInBounds_toArray, List.set_cons_zero, List.set_cons_succ]
  refine wpAnyH_take (i := 8) (oi := ⟨_, _, _, _, _, _⟩) (v := ?_) rfl (by kernel_rfl) (by kernel_rfl) (by kernel_rfl) (fun _ _ _ h => h) (Or.inl ⟨by rfl, ?_⟩) hH1 ?_
  rotate_left
  · intro wS hSw; (try dsimp only at hSw); go_simp; try with_reducible rfl
  try simp only [Act.put, List.setIfInBounds_toArray, List.set_cons_zero, List.set_cons_succ]
  refine wpAnyH_take (i := 9) (oi := ⟨_, _, _, _, _, _⟩) (v := ?_) rfl (by kernel_rfl) (by kernel_rfl) (by kernel_rfl) (fun _ _ _ h => h) (Or.inl ⟨by rfl, ?_⟩) hH1 ?_
  rotate_left
  · intro wS hSw; (try dsimp only at hSw); go_simp; try with_reducible rfl
  try simp only [Act.put, List.setIfInBounds_toArray, List.set_cons_zero, List.set_cons_succ]
  refine wpAnyH_take (i := 10) (oi := ⟨_, _, _, _, _, _⟩) (v := ?_) rfl (by kernel_rfl) (by kernel_rfl) (by kernel_rfl) (fun _ _ _ h => h) (Or.inl ⟨by rfl, ?_⟩) hH1 ?_
  rotate_left
  · intro wS hSw; (try dsimp only at hSw); go_simp; try with_reducible rfl
  try simp only [Act.put, List.setIfInBounds_toArray, List.set_cons_zero, List.set_cons_succ]
  refine wpAnyH_take (i := 11) (oi := ⟨_, _, _, _, _, _⟩) (v := ?_) rfl (by kernel_rfl) (by kernel_rfl) (by kernel_rfl) (fun _ _ _ h => h) (Or.inl ⟨by rfl, ?_⟩) hH1 ?_
  rotate_left
  · intro wS hSw; (try dsimp only at hSw); go_simp; try with_reducible rfl
  try simp only [Act.put, List.setIfInBounds_toArray, List.set_cons_zero, List.set_cons_succ]
  refine wpAnyH_take (i := 12) (oi := ⟨_, _, _, _, _, _⟩) (v := ?_) rfl (by kernel_rfl) (by kernel_rfl) (by kernel_rfl) (fun _ _ _ h => h) (Or.inl ⟨by rfl, ?_⟩) hH1 ?_
  rotate_left
  · intro wS hSw; (try dsimp only at hSw); go_simp; try with_reducible rfl
  try simp only [Act.put, List.setIfInBounds_toArray, List.set_cons_zero, List.set_cons_succ]
  refine wpAnyH_take (i := 13) (oi := ⟨_, _, _, _, _, _⟩) (v := ?_) rfl (by kernel_rfl) (by kernel_rfl) (by kernel_rfl) (fun _ _ _ h => h) (Or.inl ⟨by rfl, ?_⟩) hH1 ?_
  rotate_left
  · intro wS hSw; (try dsimp only at hSw); go_simp; try with_reducible rfl
  try simp only [Act.put, List.setIfInBounds_toArray, List.set_cons_zero, List.set_cons_succ]
  refine wpAnyH_take (i := 14) (oi := ⟨_, _, _, _, _, _⟩) (v := ?_) rfl (by kernel_rfl) (by kernel_rfl) (by kernel_rfl) (fun _ _ _ h => h) (Or.inl ⟨by rfl, ?_⟩) hH1 ?_
  rotate_left
  · intro wS hSw; (try dsimp only at hSw); go_simp; try with_reducible rfl
  try simp only [Act.put, List.setIfInBounds_toArray, List.set_cons_zero, List.set_cons_succ]
  refine wpAnyH_take (i := 15) (oi := ⟨_, _, _, _, _, _⟩) (v := undef) rfl (by kernel_rfl) (by kernel_rfl) (by kernel_rfl) (fun _ _ _ h => h) (Or.inr ⟨by rfl, rfl⟩) hH1 ?_
  try simp only [Act.put, List.setIfInBounds_toArray, List.set_cons_zero, List.set_cons_succ]
  refine wpAnyH_take (i := 16) (oi := ⟨_, _, _, _, _, _⟩) (v := undef) rfl (by kernel_rfl) (by kernel_rfl) (by kernel_rfl) (fun _ _ _ h => h) (Or.inr ⟨by rfl, rfl⟩) hH1 ?_
  try simp only [Act.put, List.setIfInBounds_toArray, List.set_cons_zero, List.set_cons_succ]
  refine wpAnyH_take (i := 17) (oi := ⟨_, _, _, _, _, _⟩) (v := undef) rfl (by kernel_rfl) (by kernel_rfl) (by kernel_rfl) (fun _ _ _ h => h) (Or.inr ⟨by rfl, rfl⟩) hH1 ?_
  try simp only [Act.put, List.setIfInBounds_toArray, List.set_cons_zero, List.set_cons_succ]
  refine wpAnyH_take (i := 18) (oi := ⟨_, _, _, _, _, _⟩) (v := undef) rfl (by kernel_rfl) (by kernel_rfl) (by kernel_rfl) (fun _ _ _ h => h) (Or.inr ⟨by rfl, rfl⟩) hH1 ?_
  try simp only [Act.put, List.setIfInBounds_toArray, List.set_cons_zero, List.set_cons_succ]
  refine wpAnyH_take (i := 19) (oi := ⟨_, _, _, _, _, _⟩) (v := undef) rfl (by kernel_rfl) (by kernel_rfl) (by kernel_rfl) (fun _ _ _ h => h) (Or.inr ⟨by rfl, rfl⟩) hH1 ?_
  try simp only [Act.put, List.setIfInBounds_toArray, List.set_cons_zero, List.set_cons_succ]
  refine wpAnyH_take (i := 20) (oi := ⟨_, _, _, _, _, _⟩) (v := undef) rfl (by kernel_rfl) (by kernel_rfl) (by kernel_rfl) (fun _ _ _ h => h) (Or.inr ⟨by rfl, rfl⟩) hH1 ?_
  try simp only [Act.put, List.setIfInBounds_toArray, List.set_cons_zero, List.set_cons_succ]
  refine wpAnyH_take (i := 21) (oi := ⟨_, _, _, _, _, _⟩) (v := undef) rfl (by kernel_rfl) (by kernel_rfl) (by kernel_rfl) (fun _ _ _ h => h) (Or.inr ⟨by rfl, rfl⟩) hH1 ?_
  try simp only [Act.put, List.setIfInBounds_toArray, List.set_cons_zero, List.set_cons_succ]
  refine wpAnyH_take (i := 22) (oi := ⟨_, _, _, _, _, _⟩) (v := undef) rfl (by kernel_rfl) (by kernel_rfl) (by kernel_rfl) (fun _ _ _ h => h) (Or.inr ⟨by rfl, rfl⟩) hH1 ?_
  try simp only [Act.put, List.setIfInBounds_toArray, List.set_cons_zero, List.set_cons_succ]
  refine wpAnyH_take (i := 23) (oi := ⟨_, _, _, _, _, _⟩) (v := undef) rfl (by kernel_rfl) (by kernel_rfl) (by kernel_rfl) (fun _ _ _ h => h) (Or.inr ⟨by rfl, rfl⟩) hH1 ?_
  try simp only [Act.put, List.setIfInBounds_toArray, List.set_cons_zero, List.set_cons_succ]
  refine wpAnyH_take (i := 24) (oi := ⟨_, _, _, _, _, _⟩) (v := undef) rfl (by kernel_rfl) (by kernel_rfl) (by kernel_rfl) (fun _ _ _ h => h) (Or.inr ⟨by rfl, rfl⟩) hH1 ?_
  try simp only [Act.put, List.setIfInBounds_toArray, List.set_cons_zero, List.set_cons_succ]
  refine wpAnyH_take (i := 25) (oi := ⟨_, _, _, _, _, _⟩) (v := ?_) rfl (by kernel_rfl) (by kernel_rfl) (by kernel_rfl) (fun _ _ _ h => h) (Or.inl ⟨by rfl, ?_⟩) hH1 ?_
  rotate_left
  · intro wS hSw; (try dsimp only at hSw); go_simp; try with_reducible rfl
  try simp only [Act.put, List.setIfInBounds_toArray, List.set_cons_zero, List.set_cons_succ]
  refine wpAnyH_take (i := 26) (oi := ⟨_, _, _, _, _, _⟩) (v := ?_) rfl (by kernel_rfl) (by kernel_rfl) (by kernel_rfl) (fun _ _ _ h => h) (Or.inl ⟨by rfl, ?_⟩) hH1 ?_
  rotate_left
  · intro wS hSw; (try dsimp only at hSw); go_simp; try with_reducible rfl
  try simp only [Act.put, List.setIfInBounds_toArray, List.set_cons_zero, List.set_cons_succ]
  refine wpAnyH_done (by kernel_rfl) ?_ _
  go_upto_region 8 with fail
  have y00 := hC37.out.cell 0 0 rfl rfl
  have y01 := hC37.out.cell 0 1 rfl rfl
  have y20 := hC37.out.cell 2 0 rfl rfl
  have y21 := hC37.out.cell 2 1 rfl rfl
  go_wp2_with fail
  refine (ofz_n (hC37.out.z 0 rfl) (hC37.out.z 2 rfl) E1.out E2.out (by omega) (by omega) HB0.out).mono ?_
  rintro e w38 ⟨a38, n38, c38, m38, d38, e38, f38, rfl, hz, hb⟩
  have hC38 : Hid (St w _ [(w1.heap.size, #[.slice a1 n1 c1, .bool m1], 28), (w1.heap.size + 1, #[.int .i64 s11, .slice a11 n11 c11], 31), (w2.heap.size, #[.slice a2 n2 c2, .bool m2], 28), (w2.heap.size + 1, #[.int .i64 s12, .slice a12 n12 c12], 31), (w36.heap.size, #[.slice a36 n36 c36, .bool m36, .slice d36 e36 f36], 48), (w38.heap.size, #[.slice a38 n38 c38, .bool m38, .slice d38 e38 f38], 48)] [fun V => Zd V (.slice a1 n1 c1) m1 (x1), fun V => Nz V s11 (.slice a11 n11 c11) (x1), fun V => Zd V (.slice a2 n2 c2) m2 (x2), fun V => Nz V s12 (.slice a12 n12 c12) (x2), fun V => Rd V (.slice a36 n36 c36) m36 (.slice d36 e36 f36) (0), fun V => Rd V (.slice a38 n38 c38) m38 (.slice d38 e38 f38) ((Rat.divInt x1 x2))]) := Lib.hid (((hC37.out.call hb).pr hz).al w38.heap.size #[.slice a38 n38 c38, .bool m38, .slice d38 e38 f38] 48 rfl rfl)
  clear hb hz hC37
  clear y00 y01 y20 y21
  have y10 := hC38.out.cell 1 0 rfl rfl
  have y11 := hC38.out.cell 1 1 rfl rfl
  have y30 := hC38.out.cell 3 0 rfl rfl
  have y31 := hC38.out.cell 3 1 rfl rfl
  go_wp2_with fail
  refine (ofzN_b (hC38.out.n 1 rfl) (hC38.out.n 3 rfl) E1.out E2.out (by omega) (by omega) HB0.out).mono ?_
  rintro e w39 ⟨s39, a39, n39, c39, t39, d39, e39, f39, rfl, hz, hb⟩
  have hC39 : Hid (St w _ [(w1.heap.size, #[.slice a1 n1 c1, .bool m1], 28), (w1.heap.size + 1, #[.int .i64 s11, .slice a11 n11 c11], 31), (w2.heap.size, #[.slice a2 n2 c2, .bool m2], 28), (w2.heap.size + 1, #[.int .i64 s12, .slice a12 n12 c12], 31), (w36.heap.size, #[.slice a36 n36 c36, .bool m36, .slice d36 e36 f36], 48), (w38.heap.size, #[.slice a38 n38 c38, .bool m38, .slice d38 e38 f38], 48), (w39.heap.size, #[.int .i64 s39, .slice a39 n39 c39, .int .i64 t39, .slice d39 e39 f39], 54)] [fun V => Zd V (.slice a1 n1 c1) m1 (x1), fun V => Nz V s11 (.slice a11 n11 c11) (x1), fun V => Zd V (.slice a2 n2 c2) m2 (x2), fun V => Nz V s12 (.slice a12 n12 c12) (x2), fun V => Rd V (.slice a36 n36 c36) m36 (.slice d36 e36 f36) (0), fun V => Rd V (.slice a38 n38 c38) m38 (.slice d38 e38 f38) ((Rat.divInt x1 x2)), fun V => Nq V s39 (.slice a39 n39 c39) t39 (.slice d39 e39 f39) ((Rat.divInt x1 x2))]) := Lib.hid (((hC38.out.call hb).pq hz).al w39.heap.size #[.int .i64 s39, .slice a39 n39 c39, .int .i64 t39, .slice d39 e39 f39] 54 rfl rfl)
  clear hb hz hC38
  clear y10 y11 y30 y31
  go_upto_region 12 with fail
  refine wp_gen hC39.out ?_
  intro WT hc
  clear hC39
  have hT := Lib.hid hc
  clear hc
  refine wp_region_held_drew (S := (fun w' => w'.cell? ⟨w38.heap.size, 0, none⟩ = some (.slice a38 n38 c38) ∧ w'.cell? ⟨w38.heap.size, 1, none⟩ = some (.bool m38) ∧ w'.cell? ⟨w38.heap.size, 2, none⟩ = some (.slice d38 e38 f38) ∧ w'.cell? ⟨w39.heap.size, 0, none⟩ = some (.int .i64 s39) ∧ w'.cell? ⟨w39.heap.size, 1, none⟩ = some (.slice a39 n39 c39) ∧ w'.cell? ⟨w39.heap.size, 2, none⟩ = some (.int .i64 t39) ∧ w'.cell? ⟨w39.heap.size, 3, none⟩ = some (.slice d39 e39 f39) ∧ True)) (by kernel_rfl) ?_ (fun hH0 => ?_)
  · (try dsimp only)
    all_goals (with_reducible refine And.intro (?_ : World.cell? (World.drew WT) _ = _) ?_; exact hT.out.drew.cell 5 0 rfl rfl; exact ⟨hT.out.drew.cell 5 1 rfl rfl, hT.out.drew.cell 5 2 rfl rfl, hT.out.drew.cell 6 0 rfl rfl, hT.out.drew.cell 6 1 rfl rfl, hT.out.drew.cell 6 2 rfl rfl, hT.out.drew.cell 6 3 rfl rfl, trivial⟩)
  refine wpAnyH_take (i := 0) (oi := ⟨_, _, _, _, _, _⟩) (v := ?_) rfl (by kernel_rfl) (by kernel_rfl) (by kernel_rfl) (fun _ _ _ h => h) (Or.inl ⟨by rfl, ?_⟩) hH0 ?_
  rotate_left
  · intro wS hSw; (try dsimp only at hSw); go_simp; try with_reducible rfl
  try simp only [Act.put, List.setIfInBounds_toArray, List.set_cons_zero, List.set_cons_succ]
  refine wpAnyH_take (i := 1) (oi := ⟨_, _, _, _, _, _⟩) (v := ?_) rfl (by kernel_rfl) (by kernel_rfl) (by kernel_rfl) (fun _ _ _ h => h) (Or.inl ⟨by rfl, ?_⟩) hH0 ?_
  rotate_left
  · intro wS hSw; (try dsimp only at hSw); go_simp; try with_reducible rfl
  try simp only [Act.put, List.setIfInBounds_toArray, List.set_cons_zero, List.set_cons_succ]
  refine wpAnyH_take (i := 2) (oi := ⟨_, _, _, _, _, _⟩) (v := ?_) rfl (by kernel_rfl) (by kernel_rfl) (by kernel_rfl) (fun _ _ _ h => h) (Or.inl ⟨by rfl, ?_⟩) hH0 ?_
  rotate_left
  · intro wS hSw; (try dsimp only at hSw); go_simp; try with_reducible rfl
  try simp only [Act.put, List.setIfInBounds_toArray, List.set_cons_zero, List.set_cons_succ]
  refine wpAnyH_take (i := 3) (oi := ⟨_, _, _, _, _, _⟩) (v := ?_) rfl (by kernel_rfl) (by kernel_rfl) (by kernel_rfl) (fun _ _ _ h => h) (Or.inl ⟨by rfl, ?_⟩) hH0 ?_
  rotate_left
  · intro wS hSw; (try dsimp only at hSw); go_simp; try with_reducible rfl
  try simp only [Act.put, List.setIfInBounds_toArray, List.set_cons_zero, List.set_cons_succ]
  refine wpAnyH_take (i := 4) (oi := ⟨_, _, _, _, _, _⟩) (v := ?_) rfl (by kernel_rfl) (by kernel_rfl) (by kernel_rfl) (fun _ _ _ h => h) (Or.inl ⟨by rfl, ?_⟩) hH0 ?_
  rotate_left
  · intro wS hSw; (try dsimp only at hSw); go_simp; try with_reducible rfl
  try simp only [Act.put, List.setIfInBounds_toArray, List.set_cons_zero, List.set_cons_succ]
  refine wpAnyH_ready (rs := [5]) (by kernel_rfl) (by simp) ?_
  refine AllReadyH.cons (o := ⟨_, _, _, _, _, _⟩) rfl (fun Kq hKq => ?_) AllReadyH.nil
  go_simp
  (have _t := hT; go_at_call 27; refine (same_b (hT.out.drew.r 5 rfl) (hT.out.drew.rq 6 rfl) (Bq.ofInt E1.out E2.out HB0.out (Nat.le_refl _) (Nat.le_refl _)) (by omega)).mono ?_; rintro e w40 ⟨rfl, hb⟩; have hC40 : Hid (St w w40 [(w1.heap.size, #[.slice a1 n1 c1, .bool m1], 28), (w1.heap.size + 1, #[.int .i64 s11, .slice a11 n11 c11], 31), (w2.heap.size, #[.slice a2 n2 c2, .bool m2], 28), (w2.heap.size + 1, #[.int .i64 s12, .slice a12 n12 c12], 31), (w36.heap.size, #[.slice a36 n36 c36, .bool m36, .slice d36 e36 f36], 48), (w38.heap.size, #[.slice a38 n38 c38, .bool m38, .slice d38 e38 f38], 48), (w39.heap.size, #[.int .i64 s39, .slice a39 n39 c39, .int .i64 t39, .slice d39 e39 f39], 54)] [fun V => Zd V (.slice a1 n1 c1) m1 (x1), fun V => Nz V s11 (.slice a11 n11 c11) (x1), fun V => Zd V (.slice a2 n2 c2) m2 (x2), fun V => Nz V s12 (.slice a12 n12 c12) (x2), fun V => Rd V (.slice a36 n36 c36) m36 (.slice d36 e36 f36) (0), fun V => Rd V (.slice a38 n38 c38) m38 (.slice d38 e38 f38) ((Rat.divInt x1 x2)), fun V => Nq V s39 (.slice a39 n39 c39) t39 (.slice d39 e39 f39) ((Rat.divInt x1 x2))]) := Lib.hid (St.pick ((hT.out.drew.call hb)) [0, 1, 2, 3, 4, 5, 6] rfl); clear hb; clear _t hT)
  (try go_wp2_with fail)
  refine hKq.out _ _ ?_ (fun hH1 => ?_)
  · (try dsimp only)
    all_goals (with_reducible refine And.intro (?_ : World.cell? w40 _ = _) ?_; exact hC40.out.cell 5 0 rfl rfl; exact ⟨hC40.out.cell 5 1 rfl rfl, hC40.out.cell 5 2 rfl rfl, hC40.out.cell 6 0 rfl rfl, hC40.out.cell 6 1 rfl rfl, hC40.out.cell 6 2 rfl rfl, hC40.out.cell 6 3 rfl rfl, trivial⟩)
  clear hKq Kq hH0
  try simp only [Act.put, List.setIfInBounds_toArray, List.set_cons_zero, List.set_cons_succ]
  refine wpAnyH_take (i := 6) (oi := ⟨_, _, _, _, _, _⟩) (v := ?_) rfl (by kernel_rfl) (by kernel_rfl) (by kernel_rfl) (fun _ _ _ h => h) (Or.inl ⟨by rfl, ?_⟩) hH1 ?_
  rotate_left
  · intro wS hSw; (try dsimp only at hSw); go_simp; try with_reducible rfl
  try simp only [Act.put, List.setIfInBounds_toArray, List.set_cons_zero, List.set_cons_succ]
  refine wpAnyH_take (i := 7) (oi := ⟨_, _, _, _, _, _⟩) (v := ?_) rfl (by kernel_rfl) (by kernel_rfl) (by kernel_rfl) (fun _ _ _ h => h) (Or.inl ⟨by rfl, ?_⟩) hH1 ?_
  rotate_left
  · intro wS hSw; (try dsimp only at hSw); go_simp; try with_reducible rfl
  try simp only [Act.put, List.setIfInBounds_toArray, List.set_cons_zero, List.set_cons_succ]
  refine wpAnyH_take (i := 8) (oi := ⟨_, _, _, _, _, _⟩) (v := ?_) rfl (by kernel_rfl) (by kernel_rfl) (by kernel_rfl) (fun _ _ _ h => h) (Or.inl ⟨by rfl, ?_⟩) hH1 ?_
  rotate_left
  · intro wS hSw; (try dsimp only at hSw); go_simp; try with_reducible rfl
  try simp only [Act.put, List.setIfInBounds_toArray, List.set_cons_zero, List.set_cons_succ]
  refine wpAnyH_take (i := 10) (oi := ⟨_, _, _, _, _, _⟩) (v := ?_) rfl (by kernel_rfl) (by kernel_rfl) (by kernel_rfl) (fun _ _ _ h => h) (Or.inl ⟨by rfl, ?_⟩) hH1 ?_
  rotate_left
  · intro wS hSw; (try dsimp only at hSw); go_simp; try with_reducible rfl
  try simp only [Act.put, List.setIfInBounds_toArray, List.set_cons_zero, List.set_cons_succ]
  refine wpAnyH_ready (rs := [9]) (by kernel_rfl) (by simp) ?_
  refine AllReadyH.cons (o := ⟨_, _, _, _, _, _⟩) rfl (fun Kq hKq => ?_) AllReadyH.nil
  go_simp
  (have _t := hC40; go_at_call 56; refine (num_any _ _ _ _ _ _ _ _ _ (hC40.out.r 5 rfl)).mono ?_; rintro e w41 ⟨a41, n41, c41, m41, rfl, hz, hb⟩; have hC41 : Hid (St w w41 [(w1.heap.size, #[.slice a1 n1 c1, .bool m1], 28), (w1.heap.size + 1, #[.int .i64 s11, .slice a11 n11 c11], 31), (w2.heap.size, #[.slice a2 n2 c2, .bool m2], 28), (w2.heap.size + 1, #[.int .i64 s12, .slice a12 n12 c12], 31), (w36.heap.size, #[.slice a36 n36 c36, .bool m36, .slice d36 e36 f36], 48), (w38.heap.size, #[.slice a38 n38 c38, .bool m38, .slice d38 e38 f38], 48), (w39.heap.size, #[.int .i64 s39, .slice a39 n39 c39, .int .i64 t39, .slice d39 e39 f39], 54)] [fun V => Zd V (.slice a1 n1 c1) m1 (x1), fun V => Nz V s11 (.slice a11 n11 c11) (x1), fun V => Zd V (.slice a2 n2 c2) m2 (x2), fun V => Nz V s12 (.slice a12 n12 c12) (x2), fun V => Rd V (.slice a36 n36 c36) m36 (.slice d36 e36 f36) (0), fun V => Rd V (.slice a38 n38 c38) m38 (.slice d38 e38 f38) ((Rat.divInt x1 x2)), fun V => Nq V s39 (.slice a39 n39 c39) t39 (.slice d39 e39 f39) ((Rat.divInt x1 x2)), fun V => Zd V (.slice a41 n41 c41) m41 (((Rat.divInt x1 x2)).num)]) := Lib.hid (St.pick ((hC40.out.call hb).pz hz) [0, 1, 2, 3, 4, 5, 6, 7] rfl); clear hb hz; clear _t hC40)
  (try go_wp2_with fail)
  refine hKq.out _ _ ?_ (fun hH2 => ?_)
  · (try dsimp only)
    all_goals (with_reducible refine And.intro (?_ : World.cell? w41 _ = _) ?_; exact hC41.out.cell 5 0 rfl rfl; exact ⟨hC41.out.cell 5 1 rfl rfl, hC41.out.cell 5 2 rfl rfl, hC41.out.cell 6 0 rfl rfl, hC41.out.cell 6 1 rfl rfl, hC41.out.cell 6 2 rfl rfl, hC41.out.cell 6 3 rfl rfl, trivial⟩)
  clear hKq Kq hH1
  try simp only [Act.put, List.setIfInBounds_toArray, List.set_cons_zero, List.set_cons_succ]
  refine wpAnyH_ready (rs := [11]) (by kernel_rfl) (by simp) ?_
  refine AllReadyH.cons (o := ⟨_, _, _, _, _, _⟩) rfl (fun Kq hKq => ?_) AllReadyH.nil
  go_simp
  (have _t := hC41; go_at_call 57; refine (numN_any _ _ _ _ _ _ _ _ _ _ (hC41.out.rq 6 rfl)).mono ?_; rintro e w42 ⟨s42, a42, n42, c42, rfl, hz, hb⟩; have hC42 : Hid (St w w42 [(w1.heap.size, #[.slice a1 n1 c1, .bool m1], 28), (w1.heap.size + 1, #[.int .i64 s11, .slice a11 n11 c11], 31), (w2.heap.size, #[.slice a2 n2 c2, .bool m2], 28), (w2.heap.size + 1, #[.int .i64 s12, .slice a12 n12 c12], 31), (w36.heap.size, #[.slice a36 n36 c36, .bool m36, .slice d36 e36 f36], 48), (w38.heap.size, #[.slice a38 n38 c38, .bool m38, .slice d38 e38 f38], 48), (w39.heap.size, #[.int .i64 s39, .slice a39 n39 c39, .int .i64 t39, .slice d39 e39 f39], 54)] [fun V => Zd V (.slice a1 n1 c1) m1 (x1), fun V => Nz V s11 (.slice a11 n11 c11) (x1), fun V => Zd V (.slice a2 n2 c2) m2 (x2), fun V => Nz V s12 (.slice a12 n12 c12) (x2), fun V => Rd V (.slice a36 n36 c36) m36 (.slice d36 e36 f36) (0), fun V => Rd V (.slice a38 n38 c38) m38 (.slice d38 e38 f38) ((Rat.divInt x1 x2)), fun V => Nq V s39 (.slice a39 n39 c39) t39 (.slice d39 e39 f39) ((Rat.divInt x1 x2)), fun V => Zd V (.slice a41 n41 c41) m41 (((Rat.divInt x1 x2)).num), fun V => Nz V s42 (.slice a42 n42 c42) (((Rat.divInt x1 x2)).num)]) := Lib.hid (St.pick ((hC41.out.call hb).pn hz) [0, 1, 2, 3, 4, 5, 6, 7, 8] rfl); clear hb hz; clear _t hC41)
  (try go_wp2_with fail)
  refine hKq.out _ _ ?_ (fun hH3 => ?_)
  · (try dsimp only)
    all_goals (with_reducible refine And.intro (?_ : World.cell? w42 _ = _) ?_; exact hC42.out.cell 5 0 rfl rfl; exact ⟨hC42.out.cell 5 1 rfl rfl, hC42.out.cell 5 2 rfl rfl, hC42.out.cell 6 0 rfl rfl, hC42.out.cell 6 1 rfl rfl, hC42.out.cell 6 2 rfl rfl, hC42.out.cell 6 3 rfl rfl, trivial⟩)
  clear hKq Kq hH2
  try simp only [Act.put, List.setIfInBounds_toArray, List.set_cons_zero, List.set_cons_succ]
  refine wpAnyH_ready (rs := [12]) (by kernel_rfl) (by simp) ?_
  refine AllReadyH.cons (o := ⟨_, _, _, _, _, _⟩) rfl (fun Kq hKq => ?_) AllReadyH.nil
  go_simp
  (have _t := hC42; go_at_call 14; refine (sameZ_b (hC42.out.z 7 rfl) (hC42.out.n 8 rfl) ((Bq.ofInt E1.out E2.out HB0.out (Nat.le_refl _) (Nat.le_refl _))).num (by omega)).mono ?_; rintro e w43 ⟨rfl, hb⟩; have hC43 : Hid (St w w43 [(w1.heap.size, #[.slice a1 n1 c1, .bool m1], 28), (w1.heap.size + 1, #[.int .i64 s11, .slice a11 n11 c11], 31), (w2.heap.size, #[.slice a2 n2 c2, .bool m2], 28), (w2.heap.size + 1, #[.int .i64 s12, .slice a12 n12 c12], 31), (w36.heap.size, #[.slice a36 n36 c36, .bool m36, .slice d36 e36 f36], 48), (w38.heap.size, #[.slice a38 n38 c38, .bool m38, .slice d38 e38 f38], 48), (w39.heap.size, #[.int .i64 s39, .slice a39 n39 c39, .int .i64 t39, .slice d39 e39 f39], 54)] [fun V => Zd V (.slice a1 n1 c1) m1 (x1), fun V => Nz V s11 (.slice a11 n11 c11) (x1), fun V => Zd V (.slice a2 n2 c2) m2 (x2), fun V => Nz V s12 (.slice a12 n12 c12) (x2), fun V => Rd V (.slice a36 n36 c36) m36 (.slice d36 e36 f36) (0), fun V => Rd V (.slice a38 n38 c38) m38 (.slice d38 e38 f38) ((Rat.divInt x1 x2)), fun V => Nq V s39 (.slice a39 n39 c39) t39 (.slice d39 e39 f39) ((Rat.divInt x1 x2))]) := Lib.hid (St.pick ((hC42.out.call hb)) [0, 1, 2, 3, 4, 5, 6] rfl); clear hb; clear _t hC42)
  (try go_wp2_with fail)
  refine hKq.out _ _ ?_ (fun hH4 => ?_)
  · (try dsimp only)
    all_goals (with_reducible refine And.intro (?_ : World.cell? w43 _ = _) ?_; exact hC43.out.cell 5 0 rfl rfl; exact ⟨hC43.out.cell 5 1 rfl rfl, hC43.out.cell 5 2 rfl rfl, hC43.out.cell 6 0 rfl rfl, hC43.out.cell 6 1 rfl rfl, hC43.out.cell 6 2 rfl rfl, hC43.out.cell 6 3 rfl rfl, trivial⟩)
  clear hKq Kq hH3
  try simp only [Act.put, List.setIfInBounds_toArray, List.set_cons_zero, List.set_cons_succ]
  refine wpAnyH_take (i := 13) (oi := ⟨_, _, _, _, _, _⟩) (v := ?_) rfl (by kernel_rfl) (by kernel_rfl) (by kernel_rfl) (fun _ _ _ h => h) (Or.inl ⟨by rfl, ?_⟩) hH4 ?_
  rotate_left
  · intro wS hSw; (try dsimp only at hSw); go_simp; try with_reducible rfl
  try simp only [Act.put, List.setIfInBounds_toArray, List.set_cons_zero, List.set_cons_succ]
  refine wpAnyH_take (i := 14) (oi := ⟨_, _, _, _, _, _⟩) (v := ?_) rfl (by kernel_rfl) (by kernel_rfl) (by kernel_rfl) (fun _ _ _ h => h) (Or.inl ⟨by rfl, ?_⟩) hH4 ?_
  rotate_left
  · intro wS hSw; (try dsimp only at hSw); go_simp; try with_reducible rfl
  try simp only [Act.put, List.setIfInBounds_toArray, List.set_cons_zero, List.set_cons_succ]
  refine wpAnyH_take (i := 15) (oi := ⟨_, _, _, _, _, _⟩) (v := ?_) rfl (by kernel_rfl) (by kernel_rfl) (by kernel_rfl) (fun _ _ _ h => h) (Or.inl ⟨by rfl, ?_⟩) hH4 ?_
  rotate_left
  · intro wS hSw; (try dsimp only at hSw); go_simp; try with_reducible rfl
  try simp only [Act.put, List.setIfInBounds_toArray, List.set_cons_zero, List.set_cons_succ]
  refine wpAnyH_take (i := 17) (oi := ⟨_, _, _, _, _, _⟩) (v := ?_) rfl (by kernel_rfl) (by kernel_rfl) (by kernel_rfl) (fun _ _ _ h => h) (Or.inl ⟨by rfl, ?_⟩) hH4 ?_
  rotate_left
  · intro wS hSw; (try dsimp only at hSw); go_simp; try with_reducible rfl
  try simp only [Act.put, List.setIfInBounds_toArray, List.set_cons_zero, List.set_cons_succ]
  refine wpAnyH_ready (rs := [16]) (by kernel_rfl) (by simp) ?_
  refine AllReadyH.cons (o := ⟨_, _, _, _, _, _⟩) rfl (fun Kq hKq => ?_) AllReadyH.nil
  go_simp
  (have _t := hC43; go_at_call 58; refine (den_b (hC43.out.r 5 rfl) (Bq.ofInt E1.out E2.out HB0.out (Nat.le_refl _) (Nat.le_refl _)) (by omega)).mono ?_; rintro e w44 ⟨a44, n44, c44, m44, rfl, hz, hb⟩; have hC44 : Hid (St w w44 [(w1.heap.size, #[.slice a1 n1 c1, .bool m1], 28), (w1.heap.size + 1, #[.int .i64 s11, .slice a11 n11 c11], 31), (w2.heap.size, #[.slice a2 n2 c2, .bool m2], 28), (w2.heap.size + 1, #[.int .i64 s12, .slice a12 n12 c12], 31), (w36.heap.size, #[.slice a36 n36 c36, .bool m36, .slice d36 e36 f36], 48), (w38.heap.size, #[.slice a38 n38 c38, .bool m38, .slice d38 e38 f38], 48), (w39.heap.size, #[.int .i64 s39, .slice a39 n39 c39, .int .i64 t39, .slice d39 e39 f39], 54)] [fun V => Zd V (.slice a1 n1 c1) m1 (x1), fun V => Nz V s11 (.slice a11 n11 c11) (x1), fun V => Zd V (.slice a2 n2 c2) m2 (x2), fun V => Nz V s12 (.slice a12 n12 c12) (x2), fun V => Rd V (.slice a36 n36 c36) m36 (.slice d36 e36 f36) (0), fun V => Rd V (.slice a38 n38 c38) m38 (.slice d38 e38 f38) ((Rat.divInt x1 x2)), fun V => Nq V s39 (.slice a39 n39 c39) t39 (.slice d39 e39 f39) ((Rat.divInt x1 x2)), fun V => Zd V (.slice a44 n44 c44) m44 (((((Rat.divInt x1 x2)).den : Nat) : Int))]) := Lib.hid (St.pick ((hC43.out.call hb).pz hz) [0, 1, 2, 3, 4, 5, 6, 7] rfl); clear hb hz; clear _t hC43)
  (try go_wp2_with fail)
  refine hKq.out _ _ ?_ (fun hH5 => ?_)
  · (try dsimp only)
    all_goals (with_reducible refine And.intro (?_ : World.cell? w44 _ = _) ?_; exact hC44.out.cell 5 0 rfl rfl; exact ⟨hC44.out.cell 5 1 rfl rfl, hC44.out.cell 5 2 rfl rfl, hC44.out.cell 6 0 rfl rfl, hC44.out.cell 6 1 rfl rfl, hC44.out.cell 6 2 rfl rfl, hC44.out.cell 6 3 rfl rfl, trivial⟩)
  clear hKq Kq hH4
  try simp only [Act.put, List.setIfInBounds_toArray, List.set_cons_zero, List.set_cons_succ]
  refine wpAnyH_ready (rs := [18]) (by kernel_rfl) (by simp) ?_
  refine AllReadyH.cons (o := ⟨_, _, _, _, _, _⟩) rfl (fun Kq hKq => ?_) AllReadyH.nil
  go_simp
  (have _t := hC44; go_at_call 59; refine (denN_b (hC44.out.rq 6 rfl)).mono ?_; rintro e w45 ⟨s45, a45, n45, c45, rfl, hz, hb⟩; have hC45 : Hid (St w w45 [(w1.heap.size, #[.slice a1 n1 c1, .bool m1], 28), (w1.heap.size + 1, #[.int .i64 s11, .slice a11 n11 c11], 31), (w2.heap.size, #[.slice a2 n2 c2, .bool m2], 28), (w2.heap.size + 1, #[.int .i64 s12, .slice a12 n12 c12], 31), (w36.heap.size, #[.slice a36 n36 c36, .bool m36, .slice d36 e36 f36], 48), (w38.heap.size, #[.slice a38 n38 c38, .bool m38, .slice d38 e38 f38], 48), (w39.heap.size, #[.int .i64 s39, .slice a39 n39 c39, .int .i64 t39, .slice d39 e39 f39], 54)] [fun V => Zd V (.slice a1 n1 c1) m1 (x1), fun V => Nz V s11 (.slice a11 n11 c11) (x1), fun V => Zd V (.slice a2 n2 c2) m2 (x2), fun V => Nz V s12 (.slice a12 n12 c12) (x2), fun V => Rd V (.slice a36 n36 c36) m36 (.slice d36 e36 f36) (0), fun V => Rd V (.slice a38 n38 c38) m38 (.slice d38 e38 f38) ((Rat.divInt x1 x2)), fun V => Nq V s39 (.slice a39 n39 c39) t39 (.slice d39 e39 f39) ((Rat.divInt x1 x2)), fun V => Zd V (.slice a44 n44 c44) m44 (((((Rat.divInt x1 x2)).den : Nat) : Int)), fun V => Nz V s45 (.slice a45 n45 c45) (((((Rat.divInt x1 x2)).den : Nat) : Int))]) := Lib.hid (St.pick ((hC44.out.call hb).pn hz) [0, 1, 2, 3, 4, 5, 6, 7, 8] rfl); clear hb hz; clear _t hC44)
  (try go_wp2_with fail)
  refine hKq.out _ _ ?_ (fun hH6 => ?_)
  · (try dsimp only)
    all_goals (with_reducible refine And.intro (?_ : World.cell? w45 _ = _) ?_; exact hC45.out.cell 5 0 rfl rfl; exact ⟨hC45.out.cell 5 1 rfl rfl, hC45.out.cell 5 2 rfl rfl, hC45.out.cell 6 0 rfl rfl, hC45.out.cell 6 1 rfl rfl, hC45.out.cell 6 2 rfl rfl, hC45.out.cell 6 3 rfl rfl, trivial⟩)
  clear hKq Kq hH5
  try simp only [Act.put, List.setIfInBounds_toArray, List.set_cons_zero, List.set_cons_succ]
  refine wpAnyH_ready (rs := [19]) (by kernel_rfl) (by simp) ?_
  refine AllReadyH.cons (o := ⟨_, _, _, _, _, _⟩) rfl (fun Kq hKq => ?_) AllReadyH.nil
  go_simp
  (have _t := hC45; go_at_call 14; refine (sameZ_b (hC45.out.z 7 rfl) (hC45.out.n 8 rfl) ((Bq.ofInt E1.out E2.out HB0.out (Nat.le_refl _) (Nat.le_refl _))).den (by omega)).mono ?_; rintro e w46 ⟨rfl, hb⟩; have hC46 : Hid (St w w46 [(w1.heap.size, #[.slice a1 n1 c1, .bool m1], 28), (w1.heap.size + 1, #[.int .i64 s11, .slice a11 n11 c11], 31), (w2.heap.size, #[.slice a2 n2 c2, .bool m2], 28), (w2.heap.size + 1, #[.int .i64 s12, .slice a12 n12 c12], 31), (w36.heap.size, #[.slice a36 n36 c36, .bool m36, .slice d36 e36 f36], 48), (w38.heap.size, #[.slice a38 n38 c38, .bool m38, .slice d38 e38 f38], 48), (w39.heap.size, #[.int .i64 s39, .slice a39 n39 c39, .int .i64 t39, .slice d39 e39 f39], 54)] [fun V => Zd V (.slice a1 n1 c1) m1 (x1), fun V => Nz V s11 (.slice a11 n11 c11) (x1), fun V => Zd V (.slice a2 n2 c2) m2 (x2), fun V => Nz V s12 (.slice a12 n12 c12) (x2), fun V => Rd V (.slice a36 n36 c36) m36 (.slice d36 e36 f36) (0), fun V => Rd V (.slice a38 n38 c38) m38 (.slice d38 e38 f38) ((Rat.divInt x1 x2)), fun V => Nq V s39 (.slice a39 n39 c39) t39 (.slice d39 e39 f39) ((Rat.divInt x1 x2))]) := Lib.hid (St.pick ((hC45.out.call hb)) [0, 1, 2, 3, 4, 5, 6] rfl); clear hb; clear _t hC45)
  (try go_wp2_with fail)
  refine hKq.out _ _ ?_ (fun hH7 => ?_)
  · (try dsimp only)
    all_goals (with_reducible refine And.intro (?_ : World.cell? w46 _ = _) ?_; exact hC46.out.cell 5 0 rfl rfl; exact ⟨hC46.out.cell 5 1 rfl rfl, hC46.out.cell 5 2 rfl rfl, hC46.out.cell 6 0 rfl rfl, hC46.out.cell 6 1 rfl rfl, hC46.out.cell 6 2 rfl rfl, hC46.out.cell 6 3 rfl rfl, trivial⟩)
  clear hKq Kq hH6
  try simp only [Act.put, List.setIfInBounds_toArray, List.set_cons_zero, List.set_cons_succ]
  refine wpAnyH_take (i := 20) (oi := ⟨_, _, _, _, _, _⟩) (v := ?_) rfl (by kernel_rfl) (by kernel_rfl) (by kernel_rfl) (fun _ _ _ h => h) (Or.inl ⟨by rfl, ?_⟩) hH7 ?_
  rotate_left
  · intro wS hSw; (try dsimp only at hSw); go_simp; try with_reducible rfl
  try simp only [Act.put, List.setIfInBounds_toArray, List.set_cons_zero, List.set_cons_succ]
  refine wpAnyH_take (i := 21) (oi := ⟨_, _, _, _, _, _⟩) (v := ?_) rfl (by kernel_rfl) (by kernel_rfl) (by kernel_rfl) (fun _ _ _ h => h) (Or.inl ⟨by rfl, ?_⟩) hH7 ?_
  rotate_left
  · intro wS hSw; (try dsimp only at hSw); go_simp; try with_reducible rfl
  try simp only [Act.put, List.setIfInBounds_toArray, List.set_cons_zero, List.set_cons_succ]
  refine wpAnyH_take (i := 22) (oi := ⟨_, _, _, _, _, _⟩) (v := ?_) rfl (by kernel_rfl) (by kernel_rfl) (by kernel_rfl) (fun _ _ _ h => h) (Or.inl ⟨by rfl, ?_⟩) hH7 ?_
  rotate_left
  · intro wS hSw; (try dsimp only at hSw); go_simp; try with_reducible rfl
  try simp only [Act.put, List.setIfInBounds_toArray, List.set_cons_zero, List.set_cons_succ]
  refine wpAnyH_take (i := 24) (oi := ⟨_, _, _, _, _, _⟩) (v := ?_) rfl (by kernel_rfl) (by kernel_rfl) (by kernel_rfl) (fun _ _ _ h => h) (Or.inl ⟨by rfl, ?_⟩) hH7 ?_
  rotate_left
  · intro wS hSw; (try dsimp only at hSw); go_simp; try with_reducible rfl
  try simp only [Act.put, List.setIfInBounds_toArray, List.set_cons_zero, List.set_cons_succ]
  refine wpAnyH_ready (rs := [23]) (by kernel_rfl) (by simp) ?_
  refine AllReadyH.cons (o := ⟨_, _, _, _, _, _⟩) rfl (fun Kq hKq => ?_) AllReadyH.nil
  go_simp
  (have _t := hC46; go_at_call 60; refine (rfloor_b (hC46.out.r 5 rfl) (Bq.ofInt E1.out E2.out HB0.out (Nat.le_refl _) (Nat.le_refl _)) (by omega)).mono ?_; rintro e w47 ⟨a47, n47, c47, m47, rfl, hz, hb⟩; have hC47 : Hid (St w w47 [(w1.heap.size, #[.slice a1 n1 c1, .bool m1], 28), (w1.heap.size + 1, #[.int .i64 s11, .slice a11 n11 c11], 31), (w2.heap.size, #[.slice a2 n2 c2, .bool m2], 28), (w2.heap.size + 1, #[.int .i64 s12, .slice a12 n12 c12], 31), (w36.heap.size, #[.slice a36 n36 c36, .bool m36, .slice d36 e36 f36], 48), (w38.heap.size, #[.slice a38 n38 c38, .bool m38, .slice d38 e38 f38], 48), (w39.heap.size, #[.int .i64 s39, .slice a39 n39 c39, .int .i64 t39, .slice d39 e39 f39], 54)] [fun V => Zd V (.slice a1 n1 c1) m1 (x1), fun V => Nz V s11 (.slice a11 n11 c11) (x1), fun V => Zd V (.slice a2 n2 c2) m2 (x2), fun V => Nz V s12 (.slice a12 n12 c12) (x2), fun V => Rd V (.slice a36 n36 c36) m36 (.slice d36 e36 f36) (0), fun V => Rd V (.slice a38 n38 c38) m38 (.slice d38 e38 f38) ((Rat.divInt x1 x2)), fun V => Nq V s39 (.slice a39 n39 c39) t39 (.slice d39 e39 f39) ((Rat.divInt x1 x2)), fun V => Zd V (.slice a47 n47 c47) m47 (((Rat.divInt x1 x2)).floor)]) := Lib.hid (St.pick ((hC46.out.call hb).pz hz) [0, 1, 2, 3, 4, 5, 6, 7] rfl); clear hb hz; clear _t hC46)
  (try go_wp2_with fail)
  refine hKq.out _ _ ?_ (fun hH8 => ?_)
  · (try dsimp only)
    all_goals (with_reducible refine And.intro (?_ : World.cell? w47 _ = _) ?_; exact hC47.out.cell 5 0 rfl rfl; exact ⟨hC47.out.cell 5 1 rfl rfl, hC47.out.cell 5 2 rfl rfl, hC47.out.cell 6 0 rfl rfl, hC47.out.cell 6 1 rfl rfl, hC47.out.cell 6 2 rfl rfl, hC47.out.cell 6 3 rfl rfl, trivial⟩)
  clear hKq Kq hH7
  try simp only [Act.put, List.setIfInBounds_toArray, List.set_cons_zero, List.set_cons_succ]
  refine wpAnyH_ready (rs := [25]) (by kernel_rfl) (by simp) ?_
  refine AllReadyH.cons (o := ⟨_, _, _, _, _, _⟩) rfl (fun Kq hKq => ?_) AllReadyH.nil
  go_simp
  (have _t := hC47; go_at_call 61; refine (rfloorN_b (hC47.out.rq 6 rfl) (Bq.ofInt E1.out E2.out HB0.out (Nat.le_refl _) (Nat.le_refl _)) (by omega)).mono ?_; rintro e w48 ⟨s48, a48, n48, c48, rfl, hz, hb⟩; have hC48 : Hid (St w w48 [(w1.heap.size, #[.slice a1 n1 c1, .bool m1], 28), (w1.heap.size + 1, #[.int .i64 s11, .slice a11 n11 c11], 31), (w2.heap.size, #[.slice a2 n2 c2, .bool m2], 28), (w2.heap.size + 1, #[.int .i64 s12, .slice a12 n12 c12], 31), (w36.heap.size, #[.slice a36 n36 c36, .bool m36, .slice d36 e36 f36], 48), (w38.heap.size, #[.slice a38 n38 c38, .bool m38, .slice d38 e38 f38], 48), (w39.heap.size, #[.int .i64 s39, .slice a39 n39 c39, .int .i64 t39, .slice d39 e39 f39], 54)] [fun V => Zd V (.slice a1 n1 c1) m1 (x1), fun V => Nz V s11 (.slice a11 n11 c11) (x1), fun V => Zd V (.slice a2 n2 c2) m2 (x2), fun V => Nz V s12 (.slice a12 n12 c12) (x2), fun V => Rd V (.slice a36 n36 c36) m36 (.slice d36 e36 f36) (0), fun V => Rd V (.slice a38 n38 c38) m38 (.slice d38 e38 f38) ((Rat.divInt x1 x2)), fun V => Nq V s39 (.slice a39 n39 c39) t39 (.slice d39 e39 f39) ((Rat.divInt x1 x2)), fun V => Zd V (.slice a47 n47 c47) m47 (((Rat.divInt x1 x2)).floor), fun V => Nz V s48 (.slice a48 n48 c48) (((Rat.divInt x1 x2)).floor)]) := Lib.hid (St.pick ((hC47.out.call hb).pn hz) [0, 1, 2, 3, 4, 5, 6, 7, 8] rfl); clear hb hz; clear _t hC47)
  (try go_wp2_with fail)
  refine hKq.out _ _ ?_ (fun hH9 => ?_)
  · (try dsimp only)
    all_goals (with_reducible refine And.intro (?_ : World.cell? w48 _ = _) ?_; exact hC48.out.cell 5 0 rfl rfl; exact ⟨hC48.out.cell 5 1 rfl rfl, hC48.out.cell 5 2 rfl rfl, hC48.out.cell 6 0 rfl rfl, hC48.out.cell 6 1 rfl rfl, hC48.out.cell 6 2 rfl rfl, hC48.out.cell 6 3 rfl rfl, trivial⟩)
  clear hKq Kq hH8
  try simp only [Act.put, List.setIfInBounds_toArray, List.set_cons_zero, List.set_cons_succ]
  refine wpAnyH_ready (rs := [26]) (by kernel_rfl) (by simp) ?_
  refine AllReadyH.cons (o := ⟨_, _, _, _, _, _⟩) rfl (fun Kq hKq => ?_) AllReadyH.nil
  go_simp
  (have _t := hC48; go_at_call 14; refine (sameZ_b (hC48.out.z 7 rfl) (hC48.out.n 8 rfl) (Bd.floor ((Bq.ofInt E1.out E2.out HB0.out (Nat.le_refl _) (Nat.le_refl _)))) (by omega)).mono ?_; rintro e w49 ⟨rfl, hb⟩; have hC49 : Hid (St w w49 [(w1.heap.size, #[.slice a1 n1 c1, .bool m1], 28), (w1.heap.size + 1, #[.int .i64 s11, .slice a11 n11 c11], 31), (w2.heap.size, #[.slice a2 n2 c2, .bool m2], 28), (w2.heap.size + 1, #[.int .i64 s12, .slice a12 n12 c12], 31), (w36.heap.size, #[.slice a36 n36 c36, .bool m36, .slice d36 e36 f36], 48), (w38.heap.size, #[.slice a38 n38 c38, .bool m38, .slice d38 e38 f38], 48), (w39.heap.size, #[.int .i64 s39, .slice a39 n39 c39, .int .i64 t39, .slice d39 e39 f39], 54)] [fun V => Zd V (.slice a1 n1 c1) m1 (x1), fun V => Nz V s11 (.slice a11 n11 c11) (x1), fun V => Zd V (.slice a2 n2 c2) m2 (x2), fun V => Nz V s12 (.slice a12 n12 c12) (x2), fun V => Rd V (.slice a36 n36 c36) m36 (.slice d36 e36 f36) (0), fun V => Rd V (.slice a38 n38 c38) m38 (.slice d38 e38 f38) ((Rat.divInt x1 x2)), fun V => Nq V s39 (.slice a39 n39 c39) t39 (.slice d39 e39 f39) ((Rat.divInt x1 x2))]) := Lib.hid (St.pick ((hC48.out.call hb)) [0, 1, 2, 3, 4, 5, 6] rfl); clear hb; clear _t hC48)
  (try go_wp2_with fail)
  refine hKq.out _ _ ?_ (fun hH10 => ?_)
  · (try dsimp only)
    all_goals (with_reducible refine And.intro (?_ : World.cell? w49 _ = _) ?_; exact hC49.out.cell 5 0 rfl rfl; exact ⟨hC49.out.cell 5 1 rfl rfl, hC49.out.cell 5 2 rfl rfl, hC49.out.cell 6 0 rfl rfl, hC49.out.cell 6 1 rfl rfl, hC49.out.cell 6 2 rfl rfl, hC49.out.cell 6 3 rfl rfl, trivial⟩)
  clear hKq Kq hH9
  try simp only [Act.put, List.setIfInBounds_toArray, List.set_cons_zero, List.set_cons_succ]
  refine wpAnyH_take (i := 27) (oi := ⟨_, _, _, _, _, _⟩) (v := ?_) rfl (by kernel_rfl) (by kernel_rfl) (by kernel_rfl) (fun _ _ _ h => h) (Or.inl ⟨by rfl, ?_⟩) hH10 ?_
  rotate_left
  · intro wS hSw; (try dsimp only at hSw); go_simp; try with_reducible rfl
  try simp only [Act.put, List.setIfInBounds_toArray, List.set_cons_zero, List.set_cons_succ]
  refine wpAnyH_take (i := 28) (oi := ⟨_, _, _, _, _, _⟩) (v := ?_) rfl (by kernel_rfl) (by kernel_rfl) (by kernel_rfl) (fun _ _ _ h => h) (Or.inl ⟨by rfl, ?_⟩) hH10 ?_
  rotate_left
  · intro wS hSw; (try dsimp only at hSw); go_simp; try with_reducible rfl
  try simp only [Act.put, List.setIfInBounds_toArray, List.set_cons_zero, List.set_cons_succ]
  refine wpAnyH_take (i := 29) (oi := ⟨_, _, _, _, _, _⟩) (v := ?_) rfl (by kernel_rfl) (by kernel_rfl) (by kernel_rfl) (fun _ _ _ h => h) (Or.inl ⟨by rfl, ?_⟩) hH10 ?_
  rotate_left
  · intro wS hSw; (try dsimp only at hSw); go_simp; try with_reducible rfl
  try simp only [Act.put, List.setIfInBounds_toArray, List.set_cons_zero, List.set_cons_succ]
  refine wpAnyH_take (i := 31) (oi := ⟨_, _, _, _, _, _⟩) (v := ?_) rfl (by kernel_rfl) (by kernel_rfl) (by kernel_rfl) (fun _ _ _ h => h) (Or.inl ⟨by rfl, ?_⟩) hH10 ?_
  rotate_left
  · intro wS hSw; (try dsimp only at hSw); go_simp; try with_reducible rfl
  try simp only [Act.put, List.setIfInBounds_toArray, List.set_cons_zero, List.set_cons_succ]
  refine wpAnyH_ready (rs := [30]) (by kernel_rfl) (by simp) ?_
  refine AllReadyH.cons (o := ⟨_, _, _, _, _, _⟩) rfl (fun Kq hKq => ?_) AllReadyH.nil
  go_simp
  (have _t := hC49; go_at_call 62; refine (rceil_any _ _ _ _ _ _ _ _ _ (hC49.out.r 5 rfl) _ (Bq.ofInt E1.out E2.out HB0.out (Nat.le_refl _) (Nat.le_refl _)) (by omega)).mono ?_; rintro e w50 ⟨a50, n50, c50, m50, rfl, hz, hb⟩; have hC50 : Hid (St w w50 [(w1.heap.size, #[.slice a1 n1 c1, .bool m1], 28), (w1.heap.size + 1, #[.int .i64 s11, .slice a11 n11 c11], 31), (w2.heap.size, #[.slice a2 n2 c2, .bool m2], 28), (w2.heap.size + 1, #[.int .i64 s12, .slice a12 n12 c12], 31), (w36.heap.size, #[.slice a36 n36 c36, .bool m36, .slice d36 e36 f36], 48), (w38.heap.size, #[.slice a38 n38 c38, .bool m38, .slice d38 e38 f38], 48), (w39.heap.size, #[.int .i64 s39, .slice a39 n39 c39, .int .i64 t39, .slice d39 e39 f39], 54)] [fun V => Zd V (.slice a1 n1 c1) m1 (x1), fun V => Nz V s11 (.slice a11 n11 c11) (x1), fun V => Zd V (.slice a2 n2 c2) m2 (x2), fun V => Nz V s12 (.slice a12 n12 c12) (x2), fun V => Rd V (.slice a36 n36 c36) m36 (.slice d36 e36 f36) (0), fun V => Rd V (.slice a38 n38 c38) m38 (.slice d38 e38 f38) ((Rat.divInt x1 x2)), fun V => Nq V s39 (.slice a39 n39 c39) t39 (.slice d39 e39 f39) ((Rat.divInt x1 x2)), fun V => Zd V (.slice a50 n50 c50) m50 ((-((-(Rat.divInt x1 x2)).floor)))]) := Lib.hid (St.pick ((hC49.out.call hb).pz hz) [0, 1, 2, 3, 4, 5, 6, 7] rfl); clear hb hz; clear _t hC49)
  (try go_wp2_with fail)
  refine hKq.out _ _ ?_ (fun hH11 => ?_)
  · (try dsimp only)
    all_goals (with_reducible refine And.intro (?_ : World.cell? w50 _ = _) ?_; exact hC50.out.cell 5 0 rfl rfl; exact ⟨hC50.out.cell 5 1 rfl rfl, hC50.out.cell 5 2 rfl rfl, hC50.out.cell 6 0 rfl rfl, hC50.out.cell 6 1 rfl rfl, hC50.out.cell 6 2 rfl rfl, hC50.out.cell 6 3 rfl rfl, trivial⟩)
  clear hKq Kq hH10
  try simp only [Act.put, List.setIfInBounds_toArray, List.set_cons_zero, List.set_cons_succ]
  refine wpAnyH_ready (rs := [32]) (by kernel_rfl) (by simp) ?_
  refine AllReadyH.cons (o := ⟨_, _, _, _, _, _⟩) rfl (fun Kq hKq => ?_) AllReadyH.nil
  go_simp
  (have _t := hC50; go_at_call 63; refine (rceilN_any _ _ _ _ _ _ _ _ _ _ (hC50.out.rq 6 rfl) _ (Bq.ofInt E1.out E2.out HB0.out (Nat.le_refl _) (Nat.le_refl _)) (by omega)).mono ?_; rintro e w51 ⟨s51, a51, n51, c51, rfl, hz, hb⟩; have hC51 : Hid (St w w51 [(w1.heap.size, #[.slice a1 n1 c1, .bool m1], 28), (w1.heap.size + 1, #[.int .i64 s11, .slice a11 n11 c11], 31), (w2.heap.size, #[.slice a2 n2 c2, .bool m2], 28), (w2.heap.size + 1, #[.int .i64 s12, .slice a12 n12 c12], 31), (w36.heap.size, #[.slice a36 n36 c36, .bool m36, .slice d36 e36 f36], 48), (w38.heap.size, #[.slice a38 n38 c38, .bool m38, .slice d38 e38 f38], 48), (w39.heap.size, #[.int .i64 s39, .slice a39 n39 c39, .int .i64 t39, .slice d39 e39 f39], 54)] [fun V => Zd V (.slice a1 n1 c1) m1 (x1), fun V => Nz V s11 (.slice a11 n11 c11) (x1), fun V => Zd V (.slice a2 n2 c2) m2 (x2), fun V => Nz V s12 (.slice a12 n12 c12) (x2), fun V => Rd V (.slice a36 n36 c36) m36 (.slice d36 e36 f36) (0), fun V => Rd V (.slice a38 n38 c38) m38 (.slice d38 e38 f38) ((Rat.divInt x1 x2)), fun V => Nq V s39 (.slice a39 n39 c39) t39 (.slice d39 e39 f39) ((Rat.divInt x1 x2)), fun V => Zd V (.slice a50 n50 c50) m50 ((-((-(Rat.divInt x1 x2)).floor))), fun V => Nz V s51 (.slice a51 n51 c51) ((-((-(Rat.divInt x1 x2)).floor)))]) := Lib.hid (St.pick ((hC50.out.call hb).pn hz) [0, 1, 2, 3, 4, 5, 6, 7, 8] rfl); clear hb hz; clear _t hC50)
  (try go_wp2_with fail)
  refine hKq.out _ _ ?_ (fun hH12 => ?_)
  · (try dsimp only)
    all_goals (with_reducible refine And.intro (?_ : World.cell? w51 _ = _) ?_; exact hC51.out.cell 5 0 rfl rfl; exact ⟨hC51.out.cell 5 1 rfl rfl, hC51.out.cell 5 2 rfl rfl, hC51.out.cell 6 0 rfl rfl, hC51.out.cell 6 1 rfl rfl, hC51.out.cell 6 2 rfl rfl, hC51.out.cell 6 3 rfl rfl, trivial⟩)
  clear hKq Kq hH11
  try simp only [Act.put, List.setIfInBounds_toArray, List.set_cons_zero, List.set_cons_succ]
  refine wpAnyH_ready (rs := [33]) (by kernel_rfl) (by simp) ?_
  refine AllReadyH.cons (o := ⟨_, _, _, _, _, _⟩) rfl (fun Kq hKq => ?_) AllReadyH.nil
  go_simp
  (have _t := hC51; go_at_call 14; refine (sameZ_b (hC51.out.z 7 rfl) (hC51.out.n 8 rfl) (Bd.floor ((Bq.ofInt E1.out E2.out HB0.out (Nat.le_refl _) (Nat.le_refl _))).neg).neg (by omega)).mono ?_; rintro e w52 ⟨rfl, hb⟩; have hC52 : Hid (St w w52 [(w1.heap.size, #[.slice a1 n1 c1, .bool m1], 28), (w1.heap.size + 1, #[.int .i64 s11, .slice a11 n11 c11], 31), (w2.heap.size, #[.slice a2 n2 c2, .bool m2], 28), (w2.heap.size + 1, #[.int .i64 s12, .slice a12 n12 c12], 31), (w36.heap.size, #[.slice a36 n36 c36, .bool m36, .slice d36 e36 f36], 48), (w38.heap.size, #[.slice a38 n38 c38, .bool m38, .slice d38 e38 f38], 48), (w39.heap.size, #[.int .i64 s39, .slice a39 n39 c39, .int .i64 t39, .slice d39 e39 f39], 54)] [fun V => Zd V (.slice a1 n1 c1) m1 (x1), fun V => Nz V s11 (.slice a11 n11 c11) (x1), fun V => Zd V (.slice a2 n2 c2) m2 (x2), fun V => Nz V s12 (.slice a12 n12 c12) (x2), fun V => Rd V (.slice a36 n36 c36) m36 (.slice d36 e36 f36) (0), fun V => Rd V (.slice a38 n38 c38) m38 (.slice d38 e38 f38) ((Rat.divInt x1 x2)), fun V => Nq V s39 (.slice a39 n39 c39) t39 (.slice d39 e39 f39) ((Rat.divInt x1 x2))]) := Lib.hid (St.pick ((hC51.out.call hb)) [0, 1, 2, 3, 4, 5, 6] rfl); clear hb; clear _t hC51)
  (try go_wp2_with fail)
  refine hKq.out _ _ ?_ (fun hH13 => ?_)
  · (try dsimp only)
    all_goals (with_reducible refine And.intro (?_ : World.cell? w52 _ = _) ?_; exact hC52.out.cell 5 0 rfl rfl; exact ⟨hC52.out.cell 5 1 rfl rfl, hC52.out.cell 5 2 rfl rfl, hC52.out.cell 6 0 rfl rfl, hC52.out.cell 6 1 rfl rfl, hC52.out.cell 6 2 rfl rfl, hC52.out.cell 6 3 rfl rfl, trivial⟩)
  clear hKq Kq hH12
  try simp only [Act.put, List.setIfInBounds_toArray, List.set_cons_zero, List.set_cons_succ]
  refine wpAnyH_take (i := 34) (oi := ⟨_, _, _, _, _, _⟩) (v := ?_) rfl (by kernel_rfl) (by kernel_rfl) (by kernel_rfl) (fun _ _ _ h => h) (Or.inl ⟨by rfl, ?_⟩) hH13 ?_
  rotate_left
  · intro wS hSw; (try dsimp only at hSw); go_simp; try with_reducible rfl
  try simp only [Act.put, List.setIfInBounds_toArray, List.set_cons_zero, List.set_cons_succ]
  refine wpAnyH_take (i := 35) (oi := ⟨_, _, _, _, _, _⟩) (v := ?_) rfl (by kernel_rfl) (by kernel_rfl) (by kernel_rfl) (fun _ _ _ h => h) (Or.inl ⟨by rfl, ?_⟩) hH13 ?_
  rotate_left
  · intro wS hSw; (try dsimp only at hSw); go_simp; try with_reducible rfl
  try simp only [Act.put, List.setIfInBounds_toArray, List.set_cons_zero, List.set_cons_succ]
  refine wpAnyH_ready (rs := [36]) (by kernel_rfl) (by simp) ?_
  refine AllReadyH.cons (o := ⟨_, _, _, _, _, _⟩) rfl (fun Kq hKq => ?_) AllReadyH.nil
  go_simp
  (have _t := hC52; go_at_call 19; refine (awake_any _).mono ?_; rintro e w53 ⟨rfl, hb⟩; have hC53 : Hid (St w w53 [(w1.heap.size, #[.slice a1 n1 c1, .bool m1], 28), (w1.heap.size + 1, #[.int .i64 s11, .slice a11 n11 c11], 31), (w2.heap.size, #[.slice a2 n2 c2, .bool m2], 28), (w2.heap.size + 1, #[.int .i64 s12, .slice a12 n12 c12], 31), (w36.heap.size, #[.slice a36 n36 c36, .bool m36, .slice d36 e36 f36], 48), (w38.heap.size, #[.slice a38 n38 c38, .bool m38, .slice d38 e38 f38], 48), (w39.heap.size, #[.int .i64 s39, .slice a39 n39 c39, .int .i64 t39, .slice d39 e39 f39], 54)] [fun V => Zd V (.slice a1 n1 c1) m1 (x1), fun V => Nz V s11 (.slice a11 n11 c11) (x1), fun V => Zd V (.slice a2 n2 c2) m2 (x2), fun V => Nz V s12 (.slice a12 n12 c12) (x2), fun V => Rd V (.slice a36 n36 c36) m36 (.slice d36 e36 f36) (0), fun V => Rd V (.slice a38 n38 c38) m38 (.slice d38 e38 f38) ((Rat.divInt x1 x2)), fun V => Nq V s39 (.slice a39 n39 c39) t39 (.slice d39 e39 f39) ((Rat.divInt x1 x2))]) := Lib.hid (St.pick ((hC52.out.call hb)) [0, 1, 2, 3, 4, 5, 6] rfl); clear hb; clear _t hC52)
  (try go_wp2_with fail)
  refine hKq.out _ _ ?_ (fun hH14 => ?_)
  · (try dsimp only)
    all_goals (with_reducible refine And.intro (?_ : World.cell? w53 _ = _) ?_; exact hC53.out.cell 5 0 rfl rfl; exact ⟨hC53.out.cell 5 1 rfl rfl, hC53.out.cell 5 2 rfl rfl, hC53.out.cell 6 0 rfl rfl, hC53.out.cell 6 1 rfl rfl, hC53.out.cell 6 2 rfl rfl, hC53.out.cell 6 3 rfl rfl, trivial⟩)
  clear hKq Kq hH13
  try simp only [Act.put, List.setIfInBounds_toArray, List.set_cons_zero, List.set_cons_succ]
  refine wpAnyH_take (i := 37) (oi := ⟨_, _, _, _, _, _⟩) (v := ?_) rfl (by kernel_rfl) (by kernel_rfl) (by kernel_rfl) (fun _ _ _ h => h) (Or.inl ⟨by rfl, ?_⟩) hH14 ?_
  rotate_left
  · intro wS hSw; (try dsimp only at hSw); go_simp; try with_reducible rfl
  try simp only [Act.put, List.setIfInBounds_toArray, List.set_cons_zero, List.set_cons_succ]
  refine wpAnyH_ready (rs := [38]) (by kernel_rfl) (by simp) ?_
  refine AllReadyH.cons (o := ⟨_, _, _, _, _, _⟩) rfl (fun Kq hKq => ?_) AllReadyH.nil
  go_simp
  refine hKq.out _ _ ?_ (fun hH15 => ?_)
  · (try dsimp only)
    all_goals (with_reducible refine And.intro (?_ : World.cell? w53 _ = _) ?_; exact hC53.out.cell 5 0 rfl rfl; exact ⟨hC53.out.cell 5 1 rfl rfl, hC53.out.cell 5 2 rfl rfl, hC53.out.cell 6 0 rfl rfl, hC53.out.cell 6 1 rfl rfl, hC53.out.cell 6 2 rfl rfl, hC53.out.cell 6 3 rfl rfl, trivial⟩)
  clear hKq Kq hH14
  try simp only [Act.put, List.setIfInBounds_toArray, List.set_cons_zero, List.set_cons_succ]
  refine wpAnyH_done (by kernel_rfl) ?_ _
  go_wp2_with fail
  go_wp2
  go_ret
  exact ⟨rfl, hC53.out.be⟩

set_option maxRecDepth 100000 in
set_option maxHeartbeats 16000000 in
theorem ratios_nz (A1 B1 C1 P1 : Int) (A2 B2 C2 P2 : Int) (K J : Int) (w : World) (hA1 : -9223372036854775808 ≤ A1 ∧ A1 < 9223372036854775808) (hB1 : -9223372036854775808 ≤ B1 ∧ B1 < 9223372036854775808) (hC1 : -9223372036854775808 ≤ C1 ∧ C1 < 9223372036854775808) (hP1 : 0 ≤ P1 ∧ P1 < 256) (hA2 : -9223372036854775808 ≤ A2 ∧ A2 < 9223372036854775808) (hB2 : -9223372036854775808 ≤ B2 ∧ B2 < 9223372036854775808) (hC2 : -9223372036854775808 ≤ C2 ∧ C2 < 9223372036854775808) (hP2 : 0 ≤ P2 ∧ P2 < 256) (hK : -9223372036854775808 ≤ K ∧ K < 9223372036854775808) (hJ : -9223372036854775808 ≤ J ∧ J < 9223372036854775808) (h0 : big A2 B2 C2 P2 = 0) (j0 : J ≠ 0) :
    Calls Tryz.prog 7 #[.agg #[.int .i64 A1, .int .i64 B1, .int .i64 C1, .int .u8 P1], .agg #[.int .i64 A2, .int .i64 B2, .int .i64 C2, .int .u8 P2], .int .i64 K, .int .i64 J] w (fun e w' => e = .returned (.bool true) ∧ Below w.heap.size w w') := by
  have HK := Lib.hid hK
  clear hK
  have HJ := Lib.hid hJ
  have HJ0 := Lib.hid j0
  have dj : (J == 0) = false := by simpa using j0
  have dj2 : (J != 0) = true := by simpa using j0
  clear hJ j0
  obtain ⟨x1, h1, b1⟩ : ∃ x : Int, big A1 B1 C1 P1 = x ∧ Bd 772 x := ⟨_, rfl, big_bd hA1 hB1 hC1⟩
  have H1 := Lib.hid h1
  have E1 := Lib.hid b1
  clear h1 b1
  have HA1 := Lib.hid hA1
  clear hA1
  have HB1 := Lib.hid hB1
  clear hB1
  have HC1 := Lib.hid hC1
  clear hC1
  have HP1 := Lib.hid hP1
  clear hP1
  obtain ⟨x2, h1, b1⟩ : ∃ x : Int, big A2 B2 C2 P2 = x ∧ Bd 772 x := ⟨_, rfl, big_bd hA2 hB2 hC2⟩
  have H2 := Lib.hid h1
  have E2 := Lib.hid b1
  clear h1 b1
  have HA2 := Lib.hid hA2
  clear hA2
  have HB2 := Lib.hid hB2
  clear hB2
  have HC2 := Lib.hid hC2
  clear hC2
  have HP2 := Lib.hid hP2
  clear hP2
  have hC := Lib.hid (((St.enter w).al (w.heap.size) #[.int .i64 A1, .int .i64 B1, .int .i64 C1, .int .u8 P1] 23 rfl rfl).al (w.heap.size + 1) #[.int .i64 A2, .int .i64 B2, .int .i64 C2, .int .u8 P2] 23 (by simp) rfl)
  have HB0 : Hid (x2 = 0) := Lib.hid (by rw [← H2.out]; exact h0)
  clear h0
  go_enter Tryz.func7, Tryz.ntmps7
  have y0 := hC.out.cell 0 0 rfl rfl
  have y1 := hC.out.cell 0 1 rfl rfl
  have y2 := hC.out.cell 0 2 rfl rfl
  have y3 := hC.out.cell 0 3 rfl rfl
  go_wp2_with fail
  refine (bothZ_any A1 B1 C1 P1 _ HA1.out HB1.out HC1.out HP1.out).mono ?_
  rintro e w1 ⟨a1, n1, c1, m1, s11, a11, n11, c11, rfl, hz, hn, hb⟩
  rw [H1.out] at hz hn
  have hC1 := Lib.hid ((((hC.out.call hb).pz hz).pn hn |>.al w1.heap.size #[.slice a1 n1 c1, .bool m1] 28 rfl rfl).al (w1.heap.size + 1) #[.int .i64 s11, .slice a11 n11 c11] 31 (by simp) rfl)
  clear hz hn hb hC y0 y1 y2 y3
  have y0 := hC1.out.cell 1 0 rfl rfl
  have y1 := hC1.out.cell 1 1 rfl rfl
  have y2 := hC1.out.cell 1 2 rfl rfl
  have y3 := hC1.out.cell 1 3 rfl rfl
  go_wp2_with fail
  refine (bothZ_any A2 B2 C2 P2 _ HA2.out HB2.out HC2.out HP2.out).mono ?_
  rintro e w2 ⟨a2, n2, c2, m2, s12, a12, n12, c12, rfl, hz, hn, hb⟩
  rw [H2.out] at hz hn
  have hC2 := Lib.hid ((((hC1.out.call hb).pz hz).pn hn |>.al w2.heap.size #[.slice a2 n2 c2, .bool m2] 28 rfl rfl).al (w2.heap.size + 1) #[.int .i64 s12, .slice a12 n12 c12] 31 (by simp) rfl)
  clear hz hn hb hC1 y0 y1 y2 y3
  go_wp2_with fail
  refine wp_gen ((hC2.out.pick [0, 1, 2, 3] (rs' := [fun V => Zd V (.slice a1 n1 c1) m1 (x1), fun V => Nz V s11 (.slice a11 n11 c11) (x1), fun V => Zd V (.slice a2 n2 c2) m2 (x2), fun V => Nz V s12 (.slice a12 n12 c12) (x2)]) rfl).bpick [2, 3, 4, 5] (by decide) (bs' := [(w1.heap.size, #[.slice a1 n1 c1, .bool m1], 28), (w1.heap.size + 1, #[.int .i64 s11, .slice a11 n11 c11], 31), (w2.heap.size, #[.slice a2 n2 c2, .bool m2], 28), (w2.heap.size + 1, #[.int .i64 s12, .slice a12 n12 c12], 31)]) rfl) ?_
  intro W hc
  clear hC2
  have hC0 := Lib.hid hc
  clear hc
  have ds : (s12 == 0) = true := by
    have h := (hC0.out.n 3 rfl).s0
    have h2 : s12 = 0 := h.2.2 HB0.out
    simpa using h2
  refine wp_region_held_drew (S := (fun w' => w'.cell? ⟨w1.heap.size, 0, none⟩ = some (.slice a1 n1 c1) ∧ w'.cell? ⟨w1.heap.size, 1, none⟩ = some (.bool m1) ∧ w'.cell? ⟨w1.heap.size + 1, 0, none⟩ = some (.int .i64 s11) ∧ w'.cell? ⟨w1.heap.size + 1, 1, none⟩ = some (.slice a11 n11 c11) ∧ w'.cell? ⟨w2.heap.size, 0, none⟩ = some (.slice a2 n2 c2) ∧ w'.cell? ⟨w2.heap.size, 1, none⟩ = some (.bool m2) ∧ w'.cell? ⟨w2.heap.size + 1, 0, none⟩ = some (.int .i64 s12) ∧ w'.cell? ⟨w2.heap.size + 1, 1, none⟩ = some (.slice a12 n12 c12) ∧ True)) (by kernel_rfl) ?_ (fun hH0 => ?_)
  · (try dsimp only)
    all_goals (with_reducible refine And.intro (?_ : World.cell? (World.drew W) _ = _) ?_; exact hC0.out.drew.cell 0 0 rfl rfl; exact ⟨hC0.out.drew.cell 0 1 rfl rfl, hC0.out.drew.cell 1 0 rfl rfl, hC0.out.drew.cell 1 1 rfl rfl, hC0.out.drew.cell 2 0 rfl rfl, hC0.out.drew.cell 2 1 rfl rfl, hC0.out.drew.cell 3 0 rfl rfl, hC0.out.drew.cell 3 1 rfl rfl, trivial⟩)
  refine wpAnyH_take (i := 0) (oi := ⟨_, _, _, _, _, _⟩) (v := ?_) rfl (by kernel_rfl) (by kernel_rfl) (by kernel_rfl) (fun _ _ _ h => h) (Or.inl ⟨by rfl, ?_⟩) hH0 ?_
  rotate_left
  · intro wS hSw; (try dsimp only at hSw); go_simp; try with_reducible rfl
  try simp only [Act.put, List.setIfInBounds_toArray, List.set_cons_zero, List.set_cons_succ]
  refine wpAnyH_take (i := 2) (oi := ⟨_, _, _, _, _, _⟩) (v := ?_) rfl (by kernel_rfl) (by kernel_rfl) (by kernel_rfl) (fun _ _ _ h => h) (Or.inl ⟨by rfl, ?_⟩) hH0 ?_
  rotate_left
  · intro wS hSw; (try dsimp only at hSw); go_simp; try with_reducible rfl
  try simp only [Act.put, List.setIfInBounds_toArray, List.set_cons_zero, List.set_cons_succ]
  refine wpAnyH_ready (rs := [1]) (by kernel_rfl) (by simp) ?_
  refine AllReadyH.cons (o := ⟨_, _, _, _, _, _⟩) rfl (fun Kq hKq => ?_) AllReadyH.nil
  go_simp
  (have _t := hC0; go_at_call 48; refine (of_any K HK.out _).mono ?_; rintro e w30 ⟨a30, n30, c30, m30, d30, e30, f30, rfl, hz, hb⟩; have hC30 : Hid (St w w30 [(w1.heap.size, #[.slice a1 n1 c1, .bool m1], 28), (w1.heap.size + 1, #[.int .i64 s11, .slice a11 n11 c11], 31), (w2.heap.size, #[.slice a2 n2 c2, .bool m2], 28), (w2.heap.size + 1, #[.int .i64 s12, .slice a12 n12 c12], 31)] [fun V => Zd V (.slice a1 n1 c1) m1 (x1), fun V => Nz V s11 (.slice a11 n11 c11) (x1), fun V => Zd V (.slice a2 n2 c2) m2 (x2), fun V => Nz V s12 (.slice a12 n12 c12) (x2), fun V => Rd V (.slice a30 n30 c30) m30 (.slice d30 e30 f30) ((K : Rat))]) := Lib.hid (St.pick ((hC0.out.drew.call hb).pr hz) [0, 1, 2, 3, 4] rfl); clear hb hz; clear _t hC0)
  (try go_wp2_with fail)
  refine hKq.out _ _ ?_ (fun hH1 => ?_)
  · (try dsimp only)
    all_goals (with_reducible refine And.intro (?_ : World.cell? w30 _ = _) ?_; exact hC30.out.cell 0 0 rfl rfl; exact ⟨hC30.out.cell 0 1 rfl rfl, hC30.out.cell 1 0 rfl rfl, hC30.out.cell 1 1 rfl rfl, hC30.out.cell 2 0 rfl rfl, hC30.out.cell 2 1 rfl rfl, hC30.out.cell 3 0 rfl rfl, hC30.out.cell 3 1 rfl rfl, trivial⟩)
  clear hKq Kq hH0
  try simp only [Act.put, List.setIfInBounds_toArray, List.set_cons_zero, List.set_cons_succ]
  refine wpAnyH_ready (rs := [3]) (by kernel_rfl) (by simp) ?_
  refine AllReadyH.cons (o := ⟨_, _, _, _, _, _⟩) rfl (fun Kq hKq => ?_) AllReadyH.nil
  go_simp
  (have _t := hC30; go_at_call 49; refine (ofN_any K HK.out _).mono ?_; rintro e w31 ⟨s31, a31, n31, c31, t31, d31, e31, f31, rfl, hz, hb⟩; have hC31 : Hid (St w w31 [(w1.heap.size, #[.slice a1 n1 c1, .bool m1], 28), (w1.heap.size + 1, #[.int .i64 s11, .slice a11 n11 c11], 31), (w2.heap.size, #[.slice a2 n2 c2, .bool m2], 28), (w2.heap.size + 1, #[.int .i64 s12, .slice a12 n12 c12], 31)] [fun V => Zd V (.slice a1 n1 c1) m1 (x1), fun V => Nz V s11 (.slice a11 n11 c11) (x1), fun V => Zd V (.slice a2 n2 c2) m2 (x2), fun V => Nz V s12 (.slice a12 n12 c12) (x2), fun V => Rd V (.slice a30 n30 c30) m30 (.slice d30 e30 f30) ((K : Rat)), fun V => Nq V s31 (.slice a31 n31 c31) t31 (.slice d31 e31 f31) ((K : Rat))]) := Lib.hid (St.pick ((hC30.out.call hb).pq hz) [0, 1, 2, 3, 4, 5] rfl); clear hb hz; clear _t hC30)
  (try go_wp2_with fail)
  refine hKq.out _ _ ?_ (fun hH2 => ?_)
  · (try dsimp only)
    all_goals (with_reducible refine And.intro (?_ : World.cell? w31 _ = _) ?_; exact hC31.out.cell 0 0 rfl rfl; exact ⟨hC31.out.cell 0 1 rfl rfl, hC31.out.cell 1 0 rfl rfl, hC31.out.cell 1 1 rfl rfl, hC31.out.cell 2 0 rfl rfl, hC31.out.cell 2 1 rfl rfl, hC31.out.cell 3 0 rfl rfl, hC31.out.cell 3 1 rfl rfl, trivial⟩)
  clear hKq Kq hH1
  try simp only [Act.put, List.setIfInBounds_toArray, List.set_cons_zero, List.set_cons_succ]
  refine wpAnyH_ready (rs := [4]) (by kernel_rfl) (by simp) ?_
  refine AllReadyH.cons (o := ⟨_, _, _, _, _, _⟩) rfl (fun Kq hKq => ?_) AllReadyH.nil
  go_simp
  (have _t := hC31; go_at_call 27; refine (same_b (hC31.out.r 4 rfl) (hC31.out.rq 5 rfl) (Bq.int (Bd.i64 HK.out)) (by omega)).mono ?_; rintro e w32 ⟨rfl, hb⟩; have hC32 : Hid (St w w32 [(w1.heap.size, #[.slice a1 n1 c1, .bool m1], 28), (w1.heap.size + 1, #[.int .i64 s11, .slice a11 n11 c11], 31), (w2.heap.size, #[.slice a2 n2 c2, .bool m2], 28), (w2.heap.size + 1, #[.int .i64 s12, .slice a12 n12 c12], 31)] [fun V => Zd V (.slice a1 n1 c1) m1 (x1), fun V => Nz V s11 (.slice a11 n11 c11) (x1), fun V => Zd V (.slice a2 n2 c2) m2 (x2), fun V => Nz V s12 (.slice a12 n12 c12) (x2)]) := Lib.hid (St.pick ((hC31.out.call hb)) [0, 1, 2, 3] rfl); clear hb; clear _t hC31)
  (try go_wp2_with fail)
  refine hKq.out _ _ ?_ (fun hH3 => ?_)
  · (try dsimp only)
    all_goals (with_reducible refine And.intro (?_ : World.cell? w32 _ = _) ?_; exact hC32.out.cell 0 0 rfl rfl; exact ⟨hC32.out.cell 0 1 rfl rfl, hC32.out.cell 1 0 rfl rfl, hC32.out.cell 1 1 rfl rfl, hC32.out.cell 2 0 rfl rfl, hC32.out.cell 2 1 rfl rfl, hC32.out.cell 3 0 rfl rfl, hC32.out.cell 3 1 rfl rfl, trivial⟩)
  clear hKq Kq hH2
  try simp only [Act.put, List.setIfInBounds_toArray, List.set_cons_zero, List.set_cons_succ]
  refine wpAnyH_take (i := 5) (oi := ⟨_, _, _, _, _, _⟩) (v := ?_) rfl (by kernel_rfl) (by kernel_rfl) (by kernel_rfl) (fun _ _ _ h => h) (Or.inl ⟨by rfl, ?_⟩) hH3 ?_
  rotate_left
  · intro wS hSw; (try dsimp only at hSw); go_simp; try with_reducible rfl
  try simp only [Act.put, List.setIfInBounds_toArray, List.set_cons_zero, List.set_cons_succ]
  refine wpAnyH_take (i := 6) (oi := ⟨_, _, _, _, _, _⟩) (v := ?_) rfl (by kernel_rfl) (by kernel_rfl) (by kernel_rfl) (fun _ _ _ h => h) (Or.inl ⟨by rfl, ?_⟩) hH3 ?_
  rotate_left
  · intro wS hSw; (try dsimp only at hSw); go_simp; try with_reducible rfl
  try simp only [Act.put, List.setIfInBounds_toArray, List.set_cons_zero, List.set_cons_succ]
  refine wpAnyH_take (i := 7) (oi := ⟨_, _, _, _, _, _⟩) (v := ?_) rfl (by kernel_rfl) (by kernel_rfl) (by kernel_rfl) (fun _ _ _ h => h) (Or.inl ⟨by rfl, ?_⟩) hH3 ?_
  rotate_left
  · intro wS hSw; (try dsimp only at hSw); go_simp; try with_reducible rfl
  try simp only [Act.put, List.setIfInBounds_toArray, List.set_cons_zero, List.set_cons_succ]
  refine wpAnyH_take (i := 9) (oi := ⟨_, _, _, _, _, _⟩) (v := ?_) rfl (by kernel_rfl) (by kernel_rfl) (by kernel_rfl) (fun _ _ _ h => h) (Or.inl ⟨by rfl, ?_⟩) hH3 ?_
  rotate_left
  · intro wS hSw; (try dsimp only at hSw); go_simp; try with_reducible rfl
  try simp only [Act.put, List.setIfInBounds_toArray, List.set_cons_zero, List.set_cons_succ]
  refine wpAnyH_ready (rs := [8]) (by kernel_rfl) (by simp) ?_
  refine AllReadyH.cons (o := ⟨_, _, _, _, _, _⟩) rfl (fun Kq hKq => ?_) AllReadyH.nil
  go_simp
  (have _t := hC32; go_at_call 50; refine (whole_any _ _ _ _ _ _ (hC32.out.z 0 rfl)).mono ?_; rintro e w33 ⟨a33, n33, c33, m33, d33, e33, f33, rfl, hz, hb⟩; have hC33 : Hid (St w w33 [(w1.heap.size, #[.slice a1 n1 c1, .bool m1], 28), (w1.heap.size + 1, #[.int .i64 s11, .slice a11 n11 c11], 31), (w2.heap.size, #[.slice a2 n2 c2, .bool m2], 28), (w2.heap.size + 1, #[.int .i64 s12, .slice a12 n12 c12], 31)] [fun V => Zd V (.slice a1 n1 c1) m1 (x1), fun V => Nz V s11 (.slice a11 n11 c11) (x1), fun V => Zd V (.slice a2 n2 c2) m2 (x2), fun V => Nz V s12 (.slice a12 n12 c12) (x2), fun V => Rd V (.slice a33 n33 c33) m33 (.slice d33 e33 f33) (((x1 : Int) : Rat))]) := Lib.hid (St.pick ((hC32.out.call hb).pr hz) [0, 1, 2, 3, 4] rfl); clear hb hz; clear _t hC32)
  (try go_wp2_with fail)
  refine hKq.out _ _ ?_ (fun hH4 => ?_)
  · (try dsimp only)
    all_goals (with_reducible refine And.intro (?_ : World.cell? w33 _ = _) ?_; exact hC33.out.cell 0 0 rfl rfl; exact ⟨hC33.out.cell 0 1 rfl rfl, hC33.out.cell 1 0 rfl rfl, hC33.out.cell 1 1 rfl rfl, hC33.out.cell 2 0 rfl rfl, hC33.out.cell 2 1 rfl rfl, hC33.out.cell 3 0 rfl rfl, hC33.out.cell 3 1 rfl rfl, trivial⟩)
  clear hKq Kq hH3
  try simp only [Act.put, List.setIfInBounds_toArray, List.set_cons_zero, List.set_cons_succ]
  refine wpAnyH_ready (rs := [10]) (by kernel_rfl) (by simp) ?_
  refine AllReadyH.cons (o := ⟨_, _, _, _, _, _⟩) rfl (fun Kq hKq => ?_) AllReadyH.nil
  go_simp
  (have _t := hC33; go_at_call 51; refine (wholeN_any _ _ _ _ _ _ (hC33.out.n 1 rfl)).mono ?_; rintro e w34 ⟨s34, a34, n34, c34, t34, d34, e34, f34, rfl, hz, hb⟩; have hC34 : Hid (St w w34 [(w1.heap.size, #[.slice a1 n1 c1, .bool m1], 28), (w1.heap.size + 1, #[.int .i64 s11, .slice a11 n11 c11], 31), (w2.heap.size, #[.slice a2 n2 c2, .bool m2], 28), (w2.heap.size + 1, #[.int .i64 s12, .slice a12 n12 c12], 31)] [fun V => Zd V (.slice a1 n1 c1) m1 (x1), fun V => Nz V s11 (.slice a11 n11 c11) (x1), fun V => Zd V (.slice a2 n2 c2) m2 (x2), fun V => Nz V s12 (.slice a12 n12 c12) (x2), fun V => Rd V (.slice a33 n33 c33) m33 (.slice d33 e33 f33) (((x1 : Int) : Rat)), fun V => Nq V s34 (.slice a34 n34 c34) t34 (.slice d34 e34 f34) (((x1 : Int) : Rat))]) := Lib.hid (St.pick ((hC33.out.call hb).pq hz) [0, 1, 2, 3, 4, 5] rfl); clear hb hz; clear _t hC33)
  (try go_wp2_with fail)
  refine hKq.out _ _ ?_ (fun hH5 => ?_)
  · (try dsimp only)
    all_goals (with_reducible refine And.intro (?_ : World.cell? w34 _ = _) ?_; exact hC34.out.cell 0 0 rfl rfl; exact ⟨hC34.out.cell 0 1 rfl rfl, hC34.out.cell 1 0 rfl rfl, hC34.out.cell 1 1 rfl rfl, hC34.out.cell 2 0 rfl rfl, hC34.out.cell 2 1 rfl rfl, hC34.out.cell 3 0 rfl rfl, hC34.out.cell 3 1 rfl rfl, trivial⟩)
  clear hKq Kq hH4
  try simp only [Act.put, List.setIfInBounds_toArray, List.set_cons_zero, List.set_cons_succ]
  refine wpAnyH_ready (rs := [11]) (by kernel_rfl) (by simp) ?_
  refine AllReadyH.cons (o := ⟨_, _, _, _, _, _⟩) rfl (fun Kq hKq => ?_) AllReadyH.nil
  go_simp
  (have _t := hC34; go_at_call 27; refine (same_b (hC34.out.r 4 rfl) (hC34.out.rq 5 rfl) (Bq.int (E1.out)) (by omega)).mono ?_; rintro e w35 ⟨rfl, hb⟩; have hC35 : Hid (St w w35 [(w1.heap.size, #[.slice a1 n1 c1, .bool m1], 28), (w1.heap.size + 1, #[.int .i64 s11, .slice a11 n11 c11], 31), (w2.heap.size, #[.slice a2 n2 c2, .bool m2], 28), (w2.heap.size + 1, #[.int .i64 s12, .slice a12 n12 c12], 31)] [fun V => Zd V (.slice a1 n1 c1) m1 (x1), fun V => Nz V s11 (.slice a11 n11 c11) (x1), fun V => Zd V (.slice a2 n2 c2) m2 (x2), fun V => Nz V s12 (.slice a12 n12 c12) (x2)]) := Lib.hid (St.pick ((hC34.out.call hb)) [0, 1, 2, 3] rfl); clear hb; clear _t hC34)
  (try go_wp2_with fail)
  refine hKq.out _ _ ?_ (fun hH6 => ?_)
  · (try dsimp only)
    all_goals (with_reducible refine And.intro (?_ : World.cell? w35 _ = _) ?_; exact hC35.out.cell 0 0 rfl rfl; exact ⟨hC35.out.cell 0 1 rfl rfl, hC35.out.cell 1 0 rfl rfl, hC35.out.cell 1 1 rfl rfl, hC35.out.cell 2 0 rfl rfl, hC35.out.cell 2 1 rfl rfl, hC35.out.cell 3 0 rfl rfl, hC35.out.cell 3 1 rfl rfl, trivial⟩)
  clear hKq Kq hH5
  try simp only [Act.put, List.setIfInBounds_toArray, List.set_cons_zero, List.set_cons_succ]
  refine wpAnyH_take (i := 12) (oi := ⟨_, _, _, _, _, _⟩) (v := ?_) rfl (by kernel_rfl) (by kernel_rfl) (by kernel_rfl) (fun _ _ _ h => h) (Or.inl ⟨by rfl, ?_⟩) hH6 ?_
  rotate_left
  · intro wS hSw; (try dsimp only at hSw); go_simp; try with_reducible rfl
  try simp only [Act.put, List.setIfInBounds_toArray, List.set_cons_zero, List.set_cons_succ]
  refine wpAnyH_take (i := 13) (oi := ⟨_, _, _, _, _, _⟩) (v := ?_) rfl (by kernel_rfl) (by kernel_rfl) (by kernel_rfl) (fun _ _ _ h => h) (Or.inl ⟨by rfl, ?_⟩) hH6 ?_
  rotate_left
  · intro wS hSw; (try dsimp only at hSw); go_simp; try with_reducible rfl
  try simp only [Act.put, List.setIfInBounds_toArray, List.set_cons_zero, List.set_cons_succ]
  refine wpAnyH_done (by kernel_rfl) ?_ _
  go_wp2_with fail
  go_wp2_with fail
  refine (ratioI_n HK.out HJ.out HJ0.out).mono ?_
  rintro e w36 ⟨a36, n36, c36, m36, d36, e36, f36, rfl, hz, hb⟩
  have hC36 : Hid (St w _ [(w1.heap.size, #[.slice a1 n1 c1, .bool m1], 28), (w1.heap.size + 1, #[.int .i64 s11, .slice a11 n11 c11], 31), (w2.heap.size, #[.slice a2 n2 c2, .bool m2], 28), (w2.heap.size + 1, #[.int .i64 s12, .slice a12 n12 c12], 31), (w36.heap.size, #[.slice a36 n36 c36, .bool m36, .slice d36 e36 f36], 48)] [fun V => Zd V (.slice a1 n1 c1) m1 (x1), fun V => Nz V s11 (.slice a11 n11 c11) (x1), fun V => Zd V (.slice a2 n2 c2) m2 (x2), fun V => Nz V s12 (.slice a12 n12 c12) (x2), fun V => Rd V (.slice a36 n36 c36) m36 (.slice d36 e36 f36) ((Rat.divInt K J))]) := Lib.hid (((hC35.out.call hb).pr hz).al w36.heap.size #[.slice a36 n36 c36, .bool m36, .slice d36 e36 f36] 48 rfl rfl)
  clear hb hz hC35
  go_upto_region 6 with fail
  refine wp_gen hC36.out ?_
  intro WR hc
  clear hC36
  have hR := Lib.hid hc
  clear hc
  refine wp_region_held_drew (S := (fun w' => w'.cell? ⟨w36.heap.size, 0, none⟩ = some (.slice a36 n36 c36) ∧ w'.cell? ⟨w36.heap.size, 1, none⟩ = some (.bool m36) ∧ w'.cell? ⟨w36.heap.size, 2, none⟩ = some (.slice d36 e36 f36) ∧ True)) (by kernel_rfl) ?_ (fun hH0 => ?_)
  · (try dsimp only)
    all_goals (with_reducible refine And.intro (?_ : World.cell? (World.drew WR) _ = _) ?_; exact hR.out.drew.cell 4 0 rfl rfl; exact ⟨hR.out.drew.cell 4 1 rfl rfl, hR.out.drew.cell 4 2 rfl rfl, trivial⟩)
  refine wpAnyH_take (i := 0) (oi := ⟨_, _, _, _, _, _⟩) (v := ?_) rfl (by kernel_rfl) (by kernel_rfl) (by kernel_rfl) (fun _ _ _ h => h) (Or.inl ⟨by rfl, ?_⟩) hH0 ?_
  rotate_left
  · intro wS hSw; (try dsimp only at hSw); go_simp; try with_reducible rfl
  try simp only [Act.put, List.setIfInBounds_toArray, List.set_cons_zero, List.set_cons_succ]
  refine wpAnyH_take (i := 1) (oi := ⟨_, _, _, _, _, _⟩) (v := ?_) rfl (by kernel_rfl) (by kernel_rfl) (by kernel_rfl) (fun _ _ _ h => h) (Or.inl ⟨by rfl, ?_⟩) hH0 ?_
  rotate_left
  · intro wS hSw; (try dsimp only at hSw); go_simp; try with_reducible rfl
  try simp only [Act.put, List.setIfInBounds_toArray, List.set_cons_zero, List.set_cons_succ]
  refine wpAnyH_take (i := 2) (oi := ⟨_, _, _, _, _, _⟩) (v := ?_) rfl (by kernel_rfl) (by kernel_rfl) (by kernel_rfl) (fun _ _ _ h => h) (Or.inl ⟨by rfl, ?_⟩) hH0 ?_
  rotate_left
  · intro wS hSw; (try dsimp only at hSw); go_simp; try with_reducible rfl
  try simp only [Act.put, List.setIfInBounds_toArray, List.set_cons_zero, List.set_cons_succ]
  refine wpAnyH_take (i := 3) (oi := ⟨_, _, _, _, _, _⟩) (v := undef) rfl (by kernel_rfl) (by kernel_rfl) (by kernel_rfl) (fun _ _ _ h => h) (Or.inr ⟨by rfl, rfl⟩) hH0 ?_
  try simp only [Act.put, List.setIfInBounds_toArray, List.set_cons_zero, List.set_cons_succ]
  refine wpAnyH_take (i := 4) (oi := ⟨_, _, _, _, _, _⟩) (v := undef) rfl (by kernel_rfl) (by kernel_rfl) (by kernel_rfl) (fun _ _ _ h => h) (Or.inr ⟨by rfl, rfl⟩) hH0 ?_
  try simp only [Act.put, List.setIfInBounds_toArray, List.set_cons_zero, List.set_cons_succ]
  refine wpAnyH_take (i := 5) (oi := ⟨_, _, _, _, _, _⟩) (v := undef) rfl (by kernel_rfl) (by kernel_rfl) (by kernel_rfl) (fun _ _ _ h => h) (Or.inr ⟨by rfl, rfl⟩) hH0 ?_
  try simp only [Act.put, List.setIfInBounds_toArray, List.set_cons_zero, List.set_cons_succ]
  refine wpAnyH_take (i := 6) (oi := ⟨_, _, _, _, _, _⟩) (v := undef) rfl (by kernel_rfl) (by kernel_rfl) (by kernel_rfl) (fun _ _ _ h => h) (Or.inr ⟨by rfl, rfl⟩) hH0 ?_
  try simp only [Act.put, List.setIfInBounds_toArray, List.set_cons_zero, List.set_cons_succ]
  refine wpAnyH_take (i := 7) (oi := ⟨_, _, _, _, _, _⟩) (v := undef) rfl (by kernel_rfl) (by kernel_rfl) (by kernel_rfl) (fun _ _ _ h => h) (Or.inr ⟨by rfl, rfl⟩) hH0 ?_
  try simp only [Act.put, List.setIfInBounds_toArray, List.set_cons_zero, List.set_cons_succ]
  refine wpAnyH_take (i := 8) (oi := ⟨_, _, _, _, _, _⟩) (v := undef) rfl (by kernel_rfl) (by kernel_rfl) (by kernel_rfl) (fun _ _ _ h => h) (Or.inr ⟨by rfl, rfl⟩) hH0 ?_
  try simp only [Act.put, List.setIfInBounds_toArray, List.set_cons_zero, List.set_cons_succ]
  refine wpAnyH_take (i := 9) (oi := ⟨_, _, _, _, _, _⟩) (v := undef) rfl (by kernel_rfl) (by kernel_rfl) (by kernel_rfl) (fun _ _ _ h => h) (Or.inr ⟨by rfl, rfl⟩) hH0 ?_
  try simp only [Act.put, List.setIfInBounds_toArray, List.set_cons_zero, List.set_cons_succ]
  refine wpAnyH_take (i := 10) (oi := ⟨_, _, _, _, _, _⟩) (v := ?_) rfl (by kernel_rfl) (by kernel_rfl) (by kernel_rfl) (fun _ _ _ h => h) (Or.inl ⟨by rfl, ?_⟩) hH0 ?_
  rotate_left
  · intro wS hSw; (try dsimp only at hSw); go_simp; try with_reducible rfl
  try simp only [Act.put, List.setIfInBounds_toArray, List.set_cons_zero, List.set_cons_succ]
  refine wpAnyH_take (i := 11) (oi := ⟨_, _, _, _, _, _⟩) (v := ?_) rfl (by kernel_rfl) (by kernel_rfl) (by kernel_rfl) (fun _ _ _ h => h) (Or.inl ⟨by rfl, ?_⟩) hH0 ?_
  rotate_left
  · intro wS hSw; (try dsimp only at hSw); go_simp; try with_reducible rfl
  try simp only [Act.put, List.setIfInBounds_toArray, List.set_cons_zero, List.set_cons_succ]
  refine wpAnyH_take (i := 12) (oi := ⟨_, _, _, _, _, _⟩) (v := ?_) rfl (by kernel_rfl) (by kernel_rfl) (by kernel_rfl) (fun _ _ _ h => h) (Or.inl ⟨by rfl, ?_⟩) hH0 ?_
  rotate_left
  · intro wS hSw; (try dsimp only at hSw); go_simp; try with_reducible rfl
  try simp only [Act.put, List.setIfInBounds_toArray, List.set_cons_zero, List.set_cons_succ]
  refine wpAnyH_take (i := 13) (oi := ⟨_, _, _, _, _, _⟩) (v := ?_) rfl (by kernel_rfl) (by kernel_rfl) (by kernel_rfl) (fun _ _ _ h => h) (Or.inl ⟨by rfl, ?_⟩) hH0 ?_
  rotate_left
  · intro wS hSw; (try dsimp only at hSw); go_simp; try with_reducible rfl
  try simp only [Act.put, List.setIfInBounds_toArray, List.set_cons_zero, List.set_cons_succ]
  refine wpAnyH_take (i := 14) (oi := ⟨_, _, _, _, _, _⟩) (v := ?_) rfl (by kernel_rfl) (by kernel_rfl) (by kernel_rfl) (fun _ _ _ h => h) (Or.inl ⟨by rfl, ?_⟩) hH0 ?_
  rotate_left
  · intro wS hSw; (try dsimp only at hSw); go_simp; try with_reducible rfl
  try simp only [Act.put, List.setIfInBounds_toArray, List.set_cons_zero, List.set_cons_succ]
  refine wpAnyH_take (i := 15) (oi := ⟨_, _, _, _, _, _⟩) (v := ?_) rfl (by kernel_rfl) (by kernel_rfl) (by kernel_rfl) (fun _ _ _ h => h) (Or.inl ⟨by rfl, ?_⟩) hH0 ?_
  rotate_left
  · intro wS hSw; (try dsimp only at hSw); go_simp; try with_reducible rfl
  try simp only [Act.put, List.setIfInBounds_toArray, List.set_cons_zero, List.set_cons_succ]
  refine wpAnyH_take (i := 16) (oi := ⟨_, _, _, _, _, _⟩) (v := ?_) rfl (by kernel_rfl) (by kernel_rfl) (by kernel_rfl) (fun _ _ _ h => h) (Or.inl ⟨by rfl, ?_⟩) hH0 ?_
  rotate_left
  · intro wS hSw; (try dsimp only at hSw); go_simp; try with_reducible rfl
  try simp only [Act.put, List.setIfInBounds_toArray, List.set_cons_zero, List.set_cons_succ]
  refine wpAnyH_take (i := 17) (oi := ⟨_, _, _, _, _, _⟩) (v := ?_) rfl (by kernel_rfl) (by kernel_rfl) (by kernel_rfl) (fun _ _ _ h => h) (Or.inl ⟨by rfl, ?_⟩) hH0 ?_
  rotate_left
  · intro wS hSw; (try dsimp only at hSw); go_simp; try with_reducible rfl
  try simp only [Act.put, List.setIfInBounds_toArray, List.set_cons_zero, List.set_cons_succ]
  refine wpAnyH_take (i := 18) (oi := ⟨_, _, _, _, _, _⟩) (v := ?_) rfl (by kernel_rfl) (by kernel_rfl) (by kernel_rfl) (fun _ _ _ h => h) (Or.inl ⟨by rfl, ?_⟩) hH0 ?_
  rotate_left
  · intro wS hSw; (try dsimp only at hSw); go_simp; try with_reducible rfl
  try simp only [Act.put, List.setIfInBounds_toArray, List.set_cons_zero, List.set_cons_succ]
  refine wpAnyH_take (i := 19) (oi := ⟨_, _, _, _, _, _⟩) (v := ?_) rfl (by kernel_rfl) (by kernel_rfl) (by kernel_rfl) (fun _ _ _ h => h) (Or.inl ⟨by rfl, ?_⟩) hH0 ?_
  rotate_left
  · intro wS hSw; (try dsimp only at hSw); go_simp; try with_reducible rfl
  try simp only [Act.put, List.setIfInBounds_toArray, List.set_cons_zero, List.set_cons_succ]
  refine wpAnyH_take (i := 20) (oi := ⟨_, _, _, _, _, _⟩) (v := ?_) rfl (by kernel_rfl) (by kernel_rfl) (by kernel_rfl) (fun _ _ _ h => h) (Or.inl ⟨by rfl, ?_⟩) hH0 ?_
  rotate_left
  · intro wS hSw; (try dsimp only at hSw); go_simp; try with_reducible rfl
  try simp only [Act.put, List.setIfInBounds_toArray, List.set_cons_zero, List.set_cons_succ]
  refine wpAnyH_ready (rs := [21]) (by kernel_rfl) (by simp) ?_
  refine AllReadyH.cons (o := ⟨_, _, _, _, _, _⟩) rfl (fun Kq hKq => ?_) AllReadyH.nil
  go_simp
  (have _t := hR; go_at_call 53; refine (ratioN_any K J HK.out HJ.out HJ0.out _).mono ?_; rintro e w37 ⟨s37, a37, n37, c37, t37, d37, e37, f37, rfl, hz, hb⟩; have hC37 : Hid (St w w37 [(w1.heap.size, #[.slice a1 n1 c1, .bool m1], 28), (w1.heap.size + 1, #[.int .i64 s11, .slice a11 n11 c11], 31), (w2.heap.size, #[.slice a2 n2 c2, .bool m2], 28), (w2.heap.size + 1, #[.int .i64 s12, .slice a12 n12 c12], 31), (w36.heap.size, #[.slice a36 n36 c36, .bool m36, .slice d36 e36 f36], 48)] [fun V => Zd V (.slice a1 n1 c1) m1 (x1), fun V => Nz V s11 (.slice a11 n11 c11) (x1), fun V => Zd V (.slice a2 n2 c2) m2 (x2), fun V => Nz V s12 (.slice a12 n12 c12) (x2), fun V => Rd V (.slice a36 n36 c36) m36 (.slice d36 e36 f36) ((Rat.divInt K J)), fun V => Nq V s37 (.slice a37 n37 c37) t37 (.slice d37 e37 f37) ((Rat.divInt K J))]) := Lib.hid (St.pick ((hR.out.drew.call hb).pq hz) [0, 1, 2, 3, 4, 5] rfl); clear hb hz; clear _t hR)
  (try go_wp2_with fail)
  refine hKq.out _ _ ?_ (fun hH1 => ?_)
  · (try dsimp only)
    all_goals (with_reducible refine And.intro (?_ : World.cell? w37 _ = _) ?_; exact hC37.out.cell 4 0 rfl rfl; exact ⟨hC37.out.cell 4 1 rfl rfl, hC37.out.cell 4 2 rfl rfl, trivial⟩)
  clear hKq Kq hH0
  try simp only [Act.put, List.setIfInBounds_toArray, List.set_cons_zero, List.set_cons_succ]
  refine wpAnyH_ready (rs := [22]) (by kernel_rfl) (by simp) ?_
  refine AllReadyH.cons (o := ⟨_, _, _, _, _, _⟩) rfl (fun Kq hKq => ?_) AllReadyH.nil
  go_simp
  (have _t := hC37; go_at_call 27; refine (same_b (hC37.out.r 4 rfl) (hC37.out.rq 5 rfl) (Bq.ofInt (Bd.i64 HK.out) (Bd.i64 HJ.out) HJ0.out (Nat.le_refl _) (Nat.le_refl _)) (by omega)).mono ?_; rintro e w38 ⟨rfl, hb⟩; have hC38 : Hid (St w w38 [(w1.heap.size, #[.slice a1 n1 c1, .bool m1], 28), (w1.heap.size + 1, #[.int .i64 s11, .slice a11 n11 c11], 31), (w2.heap.size, #[.slice a2 n2 c2, .bool m2], 28), (w2.heap.size + 1, #[.int .i64 s12, .slice a12 n12 c12], 31), (w36.heap.size, #[.slice a36 n36 c36, .bool m36, .slice d36 e36 f36], 48)] [fun V => Zd V (.slice a1 n1 c1) m1 (x1), fun V => Nz V s11 (.slice a11 n11 c11) (x1), fun V => Zd V (.slice a2 n2 c2) m2 (x2), fun V => Nz V s12 (.slice a12 n12 c12) (x2), fun V => Rd V (.slice a36 n36 c36) m36 (.slice d36 e36 f36) ((Rat.divInt K J))]) := Lib.hid (St.pick ((hC37.out.call hb)) [0, 1, 2, 3, 4] rfl); clear hb; clear _t hC37)
  (try go_wp2_with fail)
  refine hKq.out _ _ ?_ (fun hH2 => ?_)
  · (try dsimp only)
    all_goals (with_reducible refine And.intro (?_ : World.cell? w38 _ = _) ?_; exact hC38.out.cell 4 0 rfl rfl; exact ⟨hC38.out.cell 4 1 rfl rfl, hC38.out.cell 4 2 rfl rfl, trivial⟩)
  clear hKq Kq hH1
  try simp only [Act.put, List.setIfInBounds_toArray, List.set_cons_zero, List.set_cons_succ]
  refine wpAnyH_take (i := 23) (oi := ⟨_, _, _, _, _, _⟩) (v := ?_) rfl (by kernel_rfl) (by kernel_rfl) (by kernel_rfl) (fun _ _ _ h => h) (Or.inl ⟨by rfl, ?_⟩) hH2 ?_
  rotate_left
  · intro wS hSw; (try dsimp only at hSw); go_simp; try with_reducible rfl
  try simp only [Act.put, List.setIfInBounds_toArray, List.set_cons_zero, List.set_cons_succ]
  refine wpAnyH_take (i := 24) (oi := ⟨_, _, _, _, _, _⟩) (v := ?_) rfl (by kernel_rfl) (by kernel_rfl) (by kernel_rfl) (fun _ _ _ h => h) (Or.inl ⟨by rfl, ?_⟩) hH2 ?_
  rotate_left
  · intro wS hSw; (try dsimp only at hSw); go_simp; try with_reducible rfl
  try simp only [Act.put, List.setIfInBounds_toArray, List.set_cons_zero, List.set_cons_succ]
  refine wpAnyH_take (i := 25) (oi := ⟨_, _, _, _, _, _⟩) (v := ?_) rfl (by kernel_rfl) (by kernel_rfl) (by kernel_rfl) (fun _ _ _ h => h) (Or.inl ⟨by rfl, ?_⟩) hH2 ?_
  rotate_left
  · intro wS hSw; (try dsimp only at hSw); go_simp; try with_reducible rfl
  try simp only [Act.put, List.setIfInBounds_toArray, List.set_cons_zero, List.set_cons_succ]
  refine wpAnyH_take (i := 26) (oi := ⟨_, _, _, _, _, _⟩) (v := ?_) rfl (by kernel_rfl) (by kernel_rfl) (by kernel_rfl) (fun _ _ _ h => h) (Or.inl ⟨by rfl, ?_⟩) hH2 ?_
  rotate_left
  · intro wS hSw; (try dsimp only at hSw); go_simp; try with_reducible rfl
  try simp only [Act.put, List.setIfInBounds_toArray, List.set_cons_zero, List.set_cons_succ]
  refine wpAnyH_done (by kernel_rfl) ?_ _
  go_upto_region 8 with fail
  have y00 := hC38.out.cell 0 0 rfl rfl
  have y01 := hC38.out.cell 0 1 rfl rfl
  have y20 := hC38.out.cell 2 0 rfl rfl
  have y21 := hC38.out.cell 2 1 rfl rfl
  go_wp2_with fail
  refine (ofz_z (hC38.out.z 0 rfl) (hC38.out.z 2 rfl) E1.out E2.out (by omega) (by omega) HB0.out).mono ?_
  rintro e w39 ⟨a39, n39, c39, m39, d39, e39, f39, rfl, hz, hb⟩
  have hC39 : Hid (St w _ [(w1.heap.size, #[.slice a1 n1 c1, .bool m1], 28), (w1.heap.size + 1, #[.int .i64 s11, .slice a11 n11 c11], 31), (w2.heap.size, #[.slice a2 n2 c2, .bool m2], 28), (w2.heap.size + 1, #[.int .i64 s12, .slice a12 n12 c12], 31), (w36.heap.size, #[.slice a36 n36 c36, .bool m36, .slice d36 e36 f36], 48), (w39.heap.size, #[.slice a39 n39 c39, .bool m39, .slice d39 e39 f39], 48)] [fun V => Zd V (.slice a1 n1 c1) m1 (x1), fun V => Nz V s11 (.slice a11 n11 c11) (x1), fun V => Zd V (.slice a2 n2 c2) m2 (x2), fun V => Nz V s12 (.slice a12 n12 c12) (x2), fun V => Rd V (.slice a36 n36 c36) m36 (.slice d36 e36 f36) ((Rat.divInt K J)), fun V => Rd V (.slice a39 n39 c39) m39 (.slice d39 e39 f39) (0)]) := Lib.hid (((hC38.out.call hb).pr hz).al w39.heap.size #[.slice a39 n39 c39, .bool m39, .slice d39 e39 f39] 48 rfl rfl)
  clear hb hz hC38
  clear y00 y01 y20 y21
  have y30 := hC39.out.cell 3 0 rfl rfl
  have y31 := hC39.out.cell 3 1 rfl rfl
  have y50 := hC39.out.cell 5 0 rfl rfl
  have y51 := hC39.out.cell 5 1 rfl rfl
  have y52 := hC39.out.cell 5 2 rfl rfl
  go_wp2_with fail
  refine (rsign_is (hC39.out.r 5 rfl) (sgnQ_0 rfl)).mono ?_
  rintro e w40 ⟨rfl, hb⟩
  have hC40 : Hid (St w w40 [(w1.heap.size, #[.slice a1 n1 c1, .bool m1], 28), (w1.heap.size + 1, #[.int .i64 s11, .slice a11 n11 c11], 31), (w2.heap.size, #[.slice a2 n2 c2, .bool m2], 28), (w2.heap.size + 1, #[.int .i64 s12, .slice a12 n12 c12], 31), (w36.heap.size, #[.slice a36 n36 c36, .bool m36, .slice d36 e36 f36], 48), (w39.heap.size, #[.slice a39 n39 c39, .bool m39, .slice d39 e39 f39], 48)] [fun V => Zd V (.slice a1 n1 c1) m1 (x1), fun V => Nz V s11 (.slice a11 n11 c11) (x1), fun V => Zd V (.slice a2 n2 c2) m2 (x2), fun V => Nz V s12 (.slice a12 n12 c12) (x2), fun V => Rd V (.slice a36 n36 c36) m36 (.slice d36 e36 f36) ((Rat.divInt K J)), fun V => Rd V (.slice a39 n39 c39) m39 (.slice d39 e39 f39) (0)]) := Lib.hid (hC39.out.call hb)
  clear hb hC39
  go_wp2_with fail
  refine (awake_any _).mono ?_
  rintro e w41 ⟨rfl, hb⟩
  have hC41 : Hid (St w w41 [(w1.heap.size, #[.slice a1 n1 c1, .bool m1], 28), (w1.heap.size + 1, #[.int .i64 s11, .slice a11 n11 c11], 31), (w2.heap.size, #[.slice a2 n2 c2, .bool m2], 28), (w2.heap.size + 1, #[.int .i64 s12, .slice a12 n12 c12], 31), (w36.heap.size, #[.slice a36 n36 c36, .bool m36, .slice d36 e36 f36], 48), (w39.heap.size, #[.slice a39 n39 c39, .bool m39, .slice d39 e39 f39], 48)] [fun V => Zd V (.slice a1 n1 c1) m1 (x1), fun V => Nz V s11 (.slice a11 n11 c11) (x1), fun V => Zd V (.slice a2 n2 c2) m2 (x2), fun V => Nz V s12 (.slice a12 n12 c12) (x2), fun V => Rd V (.slice a36 n36 c36) m36 (.slice d36 e36 f36) ((Rat.divInt K J)), fun V => Rd V (.slice a39 n39 c39) m39 (.slice d39 e39 f39) (0)]) := Lib.hid (hC40.out.call hb)
  clear hb hC40
  clear y30 y31 y50 y51 y52
  go_wp2
  go_ret
  exact ⟨rfl, hC41.out.be⟩

set_option maxRecDepth 100000 in
set_option maxHeartbeats 16000000 in
theorem ratios_nn (A1 B1 C1 P1 : Int) (A2 B2 C2 P2 : Int) (K J : Int) (w : World) (hA1 : -9223372036854775808 ≤ A1 ∧ A1 < 9223372036854775808) (hB1 : -9223372036854775808 ≤ B1 ∧ B1 < 9223372036854775808) (hC1 : -9223372036854775808 ≤ C1 ∧ C1 < 9223372036854775808) (hP1 : 0 ≤ P1 ∧ P1 < 256) (hA2 : -9223372036854775808 ≤ A2 ∧ A2 < 9223372036854775808) (hB2 : -9223372036854775808 ≤ B2 ∧ B2 < 9223372036854775808) (hC2 : -9223372036854775808 ≤ C2 ∧ C2 < 9223372036854775808) (hP2 : 0 ≤ P2 ∧ P2 < 256) (hK : -9223372036854775808 ≤ K ∧ K < 9223372036854775808) (hJ : -9223372036854775808 ≤ J ∧ J < 9223372036854775808) (h0 : big A2 B2 C2 P2 ≠ 0) (j0 : J ≠ 0) :
    Calls Tryz.prog 7 #[.agg #[.int .i64 A1, .int .i64 B1, .int .i64 C1, .int .u8 P1], .agg #[.int .i64 A2, .int .i64 B2, .int .i64 C2, .int .u8 P2], .int .i64 K, .int .i64 J] w (fun e w' => e = .returned (.bool true) ∧ Below w.heap.size w w') := by
  have HK := Lib.hid hK
  clear hK
  have HJ := Lib.hid hJ
  have HJ0 := Lib.hid j0
  have dj : (J == 0) = false := by simpa using j0
  have dj2 : (J != 0) = true := by simpa using j0
  clear hJ j0
  obtain ⟨x1, h1, b1⟩ : ∃ x : Int, big A1 B1 C1 P1 = x ∧ Bd 772 x := ⟨_, rfl, big_bd hA1 hB1 hC1⟩
  have H1 := Lib.hid h1
  have E1 := Lib.hid b1
  clear h1 b1
  have HA1 := Lib.hid hA1
  clear hA1
  have HB1 := Lib.hid hB1
  clear hB1
  have HC1 := Lib.hid hC1
  clear hC1
  have HP1 := Lib.hid hP1
  clear hP1
  obtain ⟨x2, h1, b1⟩ : ∃ x : Int, big A2 B2 C2 P2 = x ∧ Bd 772 x := ⟨_, rfl, big_bd hA2 hB2 hC2⟩
  have H2 := Lib.hid h1
  have E2 := Lib.hid b1
  clear h1 b1
  have HA2 := Lib.hid hA2
  clear hA2
  have HB2 := Lib.hid hB2
  clear hB2
  have HC2 := Lib.hid hC2
  clear hC2
  have HP2 := Lib.hid hP2
  clear hP2
  have hC := Lib.hid (((St.enter w).al (w.heap.size) #[.int .i64 A1, .int .i64 B1, .int .i64 C1, .int .u8 P1] 23 rfl rfl).al (w.heap.size + 1) #[.int .i64 A2, .int .i64 B2, .int .i64 C2, .int .u8 P2] 23 (by simp) rfl)
  have HB0 : Hid (x2 ≠ 0) := Lib.hid (by rw [← H2.out]; exact h0)
  clear h0
  go_enter Tryz.func7, Tryz.ntmps7
  have y0 := hC.out.cell 0 0 rfl rfl
  have y1 := hC.out.cell 0 1 rfl rfl
  have y2 := hC.out.cell 0 2 rfl rfl
  have y3 := hC.out.cell 0 3 rfl rfl
  go_wp2_with fail
  refine (bothZ_any A1 B1 C1 P1 _ HA1.out HB1.out HC1.out HP1.out).mono ?_
  rintro e w1 ⟨a1, n1, c1, m1, s11, a11, n11, c11, rfl, hz, hn, hb⟩
  rw [H1.out] at hz hn
  have hC1 := Lib.hid ((((hC.out.call hb).pz hz).pn hn |>.al w1.heap.size #[.slice a1 n1 c1, .bool m1] 28 rfl rfl).al (w1.heap.size + 1) #[.int .i64 s11, .slice a11 n11 c11] 31 (by simp) rfl)
  clear hz hn hb hC y0 y1 y2 y3
  have y0 := hC1.out.cell 1 0 rfl rfl
  have y1 := hC1.out.cell 1 1 rfl rfl
  have y2 := hC1.out.cell 1 2 rfl rfl
  have y3 := hC1.out.cell 1 3 rfl rfl
  go_wp2_with fail
  refine (bothZ_any A2 B2 C2 P2 _ HA2.out HB2.out HC2.out HP2.out).mono ?_
  rintro e w2 ⟨a2, n2, c2, m2, s12, a12, n12, c12, rfl, hz, hn, hb⟩
  rw [H2.out] at hz hn
  have hC2 := Lib.hid ((((hC1.out.call hb).pz hz).pn hn |>.al w2.heap.size #[.slice a2 n2 c2, .bool m2] 28 rfl rfl).al (w2.heap.size + 1) #[.int .i64 s12, .slice a12 n12 c12] 31 (by simp) rfl)
  clear hz hn hb hC1 y0 y1 y2 y3
  go_wp2_with fail
  refine wp_gen ((hC2.out.pick [0, 1, 2, 3] (rs' := [fun V => Zd V (.slice a1 n1 c1) m1 (x1), fun V => Nz V s11 (.slice a11 n11 c11) (x1), fun V => Zd V (.slice a2 n2 c2) m2 (x2), fun V => Nz V s12 (.slice a12 n12 c12) (x2)]) rfl).bpick [2, 3, 4, 5] (by decide) (bs' := [(w1.heap.size, #[.slice a1 n1 c1, .bool m1], 28), (w1.heap.size + 1, #[.int .i64 s11, .slice a11 n11 c11], 31), (w2.heap.size, #[.slice a2 n2 c2, .bool m2], 28), (w2.heap.size + 1, #[.int .i64 s12, .slice a12 n12 c12], 31)]) rfl) ?_
  intro W hc
  clear hC2
  have hC0 := Lib.hid hc
  clear hc
  have ds : (s12 == 0) = false := by
    have h := (hC0.out.n 3 rfl).s0
    have h2 : s12 ≠ 0 := fun e => HB0.out (h.2.1 e)
    simpa using h2
  refine wp_region_held_drew (S := (fun w' => w'.cell? ⟨w1.heap.size, 0, none⟩ = some (.slice a1 n1 c1) ∧ w'.cell? ⟨w1.heap.size, 1, none⟩ = some (.bool m1) ∧ w'.cell? ⟨w1.heap.size + 1, 0, none⟩ = some (.int .i64 s11) ∧ w'.cell? ⟨w1.heap.size + 1, 1, none⟩ = some (.slice a11 n11 c11) ∧ w'.cell? ⟨w2.heap.size, 0, none⟩ = some (.slice a2 n2 c2) ∧ w'.cell? ⟨w2.heap.size, 1, none⟩ = some (.bool m2) ∧ w'.cell? ⟨w2.heap.size + 1, 0, none⟩ = some (.int .i64 s12) ∧ w'.cell? ⟨w2.heap.size + 1, 1, none⟩ = some (.slice a12 n12 c12) ∧ True)) (by kernel_rfl) ?_ (fun hH0 => ?_)
  · (try dsimp only)
    all_goals (with_reducible refine And.intro (?_ : World.cell? (World.drew W) _ = _) ?_; exact hC0.out.drew.cell 0 0 rfl rfl; exact ⟨hC0.out.drew.cell 0 1 rfl rfl, hC0.out.drew.cell 1 0 rfl rfl, hC0.out.drew.cell 1 1 rfl rfl, hC0.out.drew.cell 2 0 rfl rfl, hC0.out.drew.cell 2 1 rfl rfl, hC0.out.drew.cell 3 0 rfl rfl, hC0.out.drew.cell 3 1 rfl rfl, trivial⟩)
  refine wpAnyH_take (i := 0) (oi := ⟨_, _, _, _, _, _⟩) (v := ?_) rfl (by kernel_rfl) (by kernel_rfl) (by kernel_rfl) (fun _ _ _ h => h) (Or.inl ⟨by rfl, ?_⟩) hH0 ?_
  rotate_left
  · intro wS hSw; (try dsimp only at hSw); go_simp; try with_reducible rfl
  try simp only [Act.put, List.setIfInBounds_toArray, List.set_cons_zero, List.set_cons_succ]
  refine wpAnyH_take (i := 2) (oi := ⟨_, _, _, _, _, _⟩) (v := ?_) rfl (by kernel_rfl) (by kernel_rfl) (by kernel_rfl) (fun _ _ _ h => h) (Or.inl ⟨by rfl, ?_⟩) hH0 ?_
  rotate_left
  · intro wS hSw; (try dsimp only at hSw); go_simp; try with_reducible rfl
  try simp only [Act.put, List.setIfInBounds_toArray, List.set_cons_zero, List.set_cons_succ]
  refine wpAnyH_ready (rs := [1]) (by kernel_rfl) (by simp) ?_
  refine AllReadyH.cons (o := ⟨_, _, _, _, _, _⟩) rfl (fun Kq hKq => ?_) AllReadyH.nil
  go_simp
  (have _t := hC0; go_at_call 48; refine (of_any K HK.out _).mono ?_; rintro e w30 ⟨a30, n30, c30, m30, d30, e30, f30, rfl, hz, hb⟩; have hC30 : Hid (St w w30 [(w1.heap.size, #[.slice a1 n1 c1, .bool m1], 28), (w1.heap.size + 1, #[.int .i64 s11, .slice a11 n11 c11], 31), (w2.heap.size, #[.slice a2 n2 c2, .bool m2], 28), (w2.heap.size + 1, #[.int .i64 s12, .slice a12 n12 c12], 31)] [fun V => Zd V (.slice a1 n1 c1) m1 (x1), fun V => Nz V s11 (.slice a11 n11 c11) (x1), fun V => Zd V (.slice a2 n2 c2) m2 (x2), fun V => Nz V s12 (.slice a12 n12 c12) (x2), fun V => Rd V (.slice a30 n30 c30) m30 (.slice d30 e30 f30) ((K : Rat))]) := Lib.hid (St.pick ((hC0.out.drew.call hb).pr hz) [0, 1, 2, 3, 4] rfl); clear hb hz; clear _t hC0)
  (try go_wp2_with fail)
  refine hKq.out _ _ ?_ (fun hH1 => ?_)
  · (try dsimp only)
    all_goals (with_reducible refine And.intro (?_ : World.cell? w30 _ = _) ?_; exact hC30.out.cell 0 0 rfl rfl; exact ⟨hC30.out.cell 0 1 rfl rfl, hC30.out.cell 1 0 rfl rfl, hC30.out.cell 1 1 rfl rfl, hC30.out.cell 2 0 rfl rfl, hC30.out.cell 2 1 rfl rfl, hC30.out.cell 3 0 rfl rfl, hC30.out.cell 3 1 rfl rfl, trivial⟩)
  clear hKq Kq hH0
  try simp only [Act.put, List.setIfInBounds_toArray, List.set_cons_zero, List.set_cons_succ]
  refine wpAnyH_ready (rs := [3]) (by kernel_rfl) (by simp) ?_
  refine AllReadyH.cons (o := ⟨_, _, _, _, _, _⟩) rfl (fun Kq hKq => ?_) AllReadyH.nil
  go_simp
  (have _t := hC30; go_at_call 49; refine (ofN_any K HK.out _).mono ?_; rintro e w31 ⟨s31, a31, n31, c31, t31, d31, e31, f31, rfl, hz, hb⟩; have hC31 : Hid (St w w31 [(w1.heap.size, #[.slice a1 n1 c1, .bool m1], 28), (w1.heap.size + 1, #[.int .i64 s11, .slice a11 n11 c11], 31), (w2.heap.size, #[.slice a2 n2 c2, .bool m2], 28), (w2.heap.size + 1, #[.int .i64 s12, .slice a12 n12 c12], 31)] [fun V => Zd V (.slice a1 n1 c1) m1 (x1), fun V => Nz V s11 (.slice a11 n11 c11) (x1), fun V => Zd V (.slice a2 n2 c2) m2 (x2), fun V => Nz V s12 (.slice a12 n12 c12) (x2), fun V => Rd V (.slice a30 n30 c30) m30 (.slice d30 e30 f30) ((K : Rat)), fun V => Nq V s31 (.slice a31 n31 c31) t31 (.slice d31 e31 f31) ((K : Rat))]) := Lib.hid (St.pick ((hC30.out.call hb).pq hz) [0, 1, 2, 3, 4, 5] rfl); clear hb hz; clear _t hC30)
  (try go_wp2_with fail)
  refine hKq.out _ _ ?_ (fun hH2 => ?_)
  · (try dsimp only)
    all_goals (with_reducible refine And.intro (?_ : World.cell? w31 _ = _) ?_; exact hC31.out.cell 0 0 rfl rfl; exact ⟨hC31.out.cell 0 1 rfl rfl, hC31.out.cell 1 0 rfl rfl, hC31.out.cell 1 1 rfl rfl, hC31.out.cell 2 0 rfl rfl, hC31.out.cell 2 1 rfl rfl, hC31.out.cell 3 0 rfl rfl, hC31.out.cell 3 1 rfl rfl, trivial⟩)
  clear hKq Kq hH1
  try simp only [Act.put, List.setIfInBounds_toArray, List.set_cons_zero, List.set_cons_succ]
  refine wpAnyH_ready (rs := [4]) (by kernel_rfl) (by simp) ?_
  refine AllReadyH.cons (o := ⟨_, _, _, _, _, _⟩) rfl (fun Kq hKq => ?_) AllReadyH.nil
  go_simp
  (have _t := hC31; go_at_call 27; refine (same_b (hC31.out.r 4 rfl) (hC31.out.rq 5 rfl) (Bq.int (Bd.i64 HK.out)) (by omega)).mono ?_; rintro e w32 ⟨rfl, hb⟩; have hC32 : Hid (St w w32 [(w1.heap.size, #[.slice a1 n1 c1, .bool m1], 28), (w1.heap.size + 1, #[.int .i64 s11, .slice a11 n11 c11], 31), (w2.heap.size, #[.slice a2 n2 c2, .bool m2], 28), (w2.heap.size + 1, #[.int .i64 s12, .slice a12 n12 c12], 31)] [fun V => Zd V (.slice a1 n1 c1) m1 (x1), fun V => Nz V s11 (.slice a11 n11 c11) (x1), fun V => Zd V (.slice a2 n2 c2) m2 (x2), fun V => Nz V s12 (.slice a12 n12 c12) (x2)]) := Lib.hid (St.pick ((hC31.out.call hb)) [0, 1, 2, 3] rfl); clear hb; clear _t hC31)
  (try go_wp2_with fail)
  refine hKq.out _ _ ?_ (fun hH3 => ?_)
  · (try dsimp only)
    all_goals (with_reducible refine And.intro (?_ : World.cell? w32 _ = _) ?_; exact hC32.out.cell 0 0 rfl rfl; exact ⟨hC32.out.cell 0 1 rfl rfl, hC32.out.cell 1 0 rfl rfl, hC32.out.cell 1 1 rfl rfl, hC32.out.cell 2 0 rfl rfl, hC32.out.cell 2 1 rfl rfl, hC32.out.cell 3 0 rfl rfl, hC32.out.cell 3 1 rfl rfl, trivial⟩)
  clear hKq Kq hH2
  try simp only [Act.put, List.setIfInBounds_toArray, List.set_cons_zero, List.set_cons_succ]
  refine wpAnyH_take (i := 5) (oi := ⟨_, _, _, _, _, _⟩) (v := ?_) rfl (by kernel_rfl) (by kernel_rfl) (by kernel_rfl) (fun _ _ _ h => h) (Or.inl ⟨by rfl, ?_⟩) hH3 ?_
  rotate_left
  · intro wS hSw; (try dsimp only at hSw); go_simp; try with_reducible rfl
  try simp only [Act.put, List.setIfInBounds_toArray, List.set_cons_zero, List.set_cons_succ]
  refine wpAnyH_take (i := 6) (oi := ⟨_, _, _, _, _, _⟩) (v := ?_) rfl (by kernel_rfl) (by kernel_rfl) (by kernel_rfl) (fun _ _ _ h => h) (Or.inl ⟨by rfl, ?_⟩) hH3 ?_
  rotate_left
  · intro wS hSw; (try dsimp only at hSw); go_simp; try with_reducible rfl
  try simp only [Act.put, List.setIfInBounds_toArray, List.set_cons_zero, List.set_cons_succ]
  refine wpAnyH_take (i := 7) (oi := ⟨_, _, _, _, _, _⟩) (v := ?_) rfl (by kernel_rfl) (by kernel_rfl) (by kernel_rfl) (fun _ _ _ h => h) (Or.inl ⟨by rfl, ?_⟩) hH3 ?_
  rotate_left
  · intro wS hSw; (try dsimp only at hSw); go_simp; try with_reducible rfl
  try simp only [Act.put, List.setIfInBounds_toArray, List.set_cons_zero, List.set_cons_succ]
  refine wpAnyH_take (i := 9) (oi := ⟨_, _, _, _, _, _⟩) (v := ?_) rfl (by kernel_rfl) (by kernel_rfl) (by kernel_rfl) (fun _ _ _ h => h) (Or.inl ⟨by rfl, ?_⟩) hH3 ?_
  rotate_left
  · intro wS hSw; (try dsimp only at hSw); go_simp; try with_reducible rfl
  try simp only [Act.put, List.setIfInBounds_toArray, List.set_cons_zero, List.set_cons_succ]
  refine wpAnyH_ready (rs := [8]) (by kernel_rfl) (by simp) ?_
  refine AllReadyH.cons (o := ⟨_, _, _, _, _, _⟩) rfl (fun Kq hKq => ?_) AllReadyH.nil
  go_simp
  (have _t := hC32; go_at_call 50; refine (whole_any _ _ _ _ _ _ (hC32.out.z 0 rfl)).mono ?_; rintro e w33 ⟨a33, n33, c33, m33, d33, e33, f33, rfl, hz, hb⟩; have hC33 : Hid (St w w33 [(w1.heap.size, #[.slice a1 n1 c1, .bool m1], 28), (w1.heap.size + 1, #[.int .i64 s11, .slice a11 n11 c11], 31), (w2.heap.size, #[.slice a2 n2 c2, .bool m2], 28), (w2.heap.size + 1, #[.int .i64 s12, .slice a12 n12 c12], 31)] [fun V => Zd V (.slice a1 n1 c1) m1 (x1), fun V => Nz V s11 (.slice a11 n11 c11) (x1), fun V => Zd V (.slice a2 n2 c2) m2 (x2), fun V => Nz V s12 (.slice a12 n12 c12) (x2), fun V => Rd V (.slice a33 n33 c33) m33 (.slice d33 e33 f33) (((x1 : Int) : Rat))]) := Lib.hid (St.pick ((hC32.out.call hb).pr hz) [0, 1, 2, 3, 4] rfl); clear hb hz; clear _t hC32)
  (try go_wp2_with fail)
  refine hKq.out _ _ ?_ (fun hH4 => ?_)
  · (try dsimp only)
    all_goals (with_reducible refine And.intro (?_ : World.cell? w33 _ = _) ?_; exact hC33.out.cell 0 0 rfl rfl; exact ⟨hC33.out.cell 0 1 rfl rfl, hC33.out.cell 1 0 rfl rfl, hC33.out.cell 1 1 rfl rfl, hC33.out.cell 2 0 rfl rfl, hC33.out.cell 2 1 rfl rfl, hC33.out.cell 3 0 rfl rfl, hC33.out.cell 3 1 rfl rfl, trivial⟩)
  clear hKq Kq hH3
  try simp only [Act.put, List.setIfInBounds_toArray, List.set_cons_zero, List.set_cons_succ]
  refine wpAnyH_ready (rs := [10]) (by kernel_rfl) (by simp) ?_
  refine AllReadyH.cons (o := ⟨_, _, _, _, _, _⟩) rfl (fun Kq hKq => ?_) AllReadyH.nil
  go_simp
  (have _t := hC33; go_at_call 51; refine (wholeN_any _ _ _ _ _ _ (hC33.out.n 1 rfl)).mono ?_; rintro e w34 ⟨s34, a34, n34, c34, t34, d34, e34, f34, rfl, hz, hb⟩; have hC34 : Hid (St w w34 [(w1.heap.size, #[.slice a1 n1 c1, .bool m1], 28), (w1.heap.size + 1, #[.int .i64 s11, .slice a11 n11 c11], 31), (w2.heap.size, #[.slice a2 n2 c2, .bool m2], 28), (w2.heap.size + 1, #[.int .i64 s12, .slice a12 n12 c12], 31)] [fun V => Zd V (.slice a1 n1 c1) m1 (x1), fun V => Nz V s11 (.slice a11 n11 c11) (x1), fun V => Zd V (.slice a2 n2 c2) m2 (x2), fun V => Nz V s12 (.slice a12 n12 c12) (x2), fun V => Rd V (.slice a33 n33 c33) m33 (.slice d33 e33 f33) (((x1 : Int) : Rat)), fun V => Nq V s34 (.slice a34 n34 c34) t34 (.slice d34 e34 f34) (((x1 : Int) : Rat))]) := Lib.hid (St.pick ((hC33.out.call hb).pq hz) [0, 1, 2, 3, 4, 5] rfl); clear hb hz; clear _t hC33)
  (try go_wp2_with fail)
  refine hKq.out _ _ ?_ (fun hH5 => ?_)
  · (try dsimp only)
    all_goals (with_reducible refine And.intro (?_ : World.cell? w34 _ = _) ?_; exact hC34.out.cell 0 0 rfl rfl; exact ⟨hC34.out.cell 0 1 rfl rfl, hC34.out.cell 1 0 rfl rfl, hC34.out.cell 1 1 rfl rfl, hC34.out.cell 2 0 rfl rfl, hC34.out.cell 2 1 rfl rfl, hC34.out.cell 3 0 rfl rfl, hC34.out.cell 3 1 rfl rfl, trivial⟩)
  clear hKq Kq hH4
  try simp only [Act.put, List.setIfInBounds_toArray, List.set_cons_zero, List.set_cons_succ]
  refine wpAnyH_ready (rs := [11]) (by kernel_rfl) (by simp) ?_
  refine AllReadyH.cons (o := ⟨_, _, _, _, _, _⟩) rfl (fun Kq hKq => ?_) AllReadyH.nil
  go_simp
  (have _t := hC34; go_at_call 27; refine (same_b (hC34.out.r 4 rfl) (hC34.out.rq 5 rfl) (Bq.int (E1.out)) (by omega)).mono ?_; rintro e w35 ⟨rfl, hb⟩; have hC35 : Hid (St w w35 [(w1.heap.size, #[.slice a1 n1 c1, .bool m1], 28), (w1.heap.size + 1, #[.int .i64 s11, .slice a11 n11 c11], 31), (w2.heap.size, #[.slice a2 n2 c2, .bool m2], 28), (w2.heap.size + 1, #[.int .i64 s12, .slice a12 n12 c12], 31)] [fun V => Zd V (.slice a1 n1 c1) m1 (x1), fun V => Nz V s11 (.slice a11 n11 c11) (x1), fun V => Zd V (.slice a2 n2 c2) m2 (x2), fun V => Nz V s12 (.slice a12 n12 c12) (x2)]) := Lib.hid (St.pick ((hC34.out.call hb)) [0, 1, 2, 3] rfl); clear hb; clear _t hC34)
  (try go_wp2_with fail)
  refine hKq.out _ _ ?_ (fun hH6 => ?_)
  · (try dsimp only)
    all_goals (with_reducible refine And.intro (?_ : World.cell? w35 _ = _) ?_; exact hC35.out.cell 0 0 rfl rfl; exact ⟨hC35.out.cell 0 1 rfl rfl, hC35.out.cell 1 0 rfl rfl, hC35.out.cell 1 1 rfl rfl, hC35.out.cell 2 0 rfl rfl, hC35.out.cell 2 1 rfl rfl, hC35.out.cell 3 0 rfl rfl, hC35.out.cell 3 1 rfl rfl, trivial⟩)
  clear hKq Kq hH5
  try simp only [Act.put, List.setIfInBounds_toArray, List.set_cons_zero, List.set_cons_succ]
  refine wpAnyH_take (i := 12) (oi := ⟨_, _, _, _, _, _⟩) (v := ?_) rfl (by kernel_rfl) (by kernel_rfl) (by kernel_rfl) (fun _ _ _ h => h) (Or.inl ⟨by rfl, ?_⟩) hH6 ?_
  rotate_left
  · intro wS hSw; (try dsimp only at hSw); go_simp; try with_reducible rfl
  try simp only [Act.put, List.setIfInBounds_toArray, List.set_cons_zero, List.set_cons_succ]
  refine wpAnyH_take (i := 13) (oi := ⟨_, _, _, _, _, _⟩) (v := ?_) rfl (by kernel_rfl) (by kernel_rfl) (by kernel_rfl) (fun _ _ _ h => h) (Or.inl ⟨by rfl, ?_⟩) hH6 ?_
  rotate_left
  · intro wS hSw; (try dsimp only at hSw); go_simp; try with_reducible rfl
  try simp only [Act.put, List.setIfInBounds_toArray, List.set_cons_zero, List.set_cons_succ]
  refine wpAnyH_done (by kernel_rfl) ?_ _
  go_wp2_with fail
  go_wp2_with fail
  refine (ratioI_n HK.out HJ.out HJ0.out).mono ?_
  rintro e w36 ⟨a36, n36, c36, m36, d36, e36, f36, rfl, hz, hb⟩
  have hC36 : Hid (St w _ [(w1.heap.size, #[.slice a1 n1 c1, .bool m1], 28), (w1.heap.size + 1, #[.int .i64 s11, .slice a11 n11 c11], 31), (w2.heap.size, #[.slice a2 n2 c2, .bool m2], 28), (w2.heap.size + 1, #[.int .i64 s12, .slice a12 n12 c12], 31), (w36.heap.size, #[.slice a36 n36 c36, .bool m36, .slice d36 e36 f36], 48)] [fun V => Zd V (.slice a1 n1 c1) m1 (x1), fun V => Nz V s11 (.slice a11 n11 c11) (x1), fun V => Zd V (.slice a2 n2 c2) m2 (x2), fun V => Nz V s12 (.slice a12 n12 c12) (x2), fun V => Rd V (.slice a36 n36 c36) m36 (.slice d36 e36 f36) ((Rat.divInt K J))]) := Lib.hid (((hC35.out.call hb).pr hz).al w36.heap.size #[.slice a36 n36 c36, .bool m36, .slice d36 e36 f36] 48 rfl rfl)
  clear hb hz hC35
  go_upto_region 6 with fail
  refine wp_gen hC36.out ?_
  intro WR hc
  clear hC36
  have hR := Lib.hid hc
  clear hc
  refine wp_region_held_drew (S := (fun w' => w'.cell? ⟨w36.heap.size, 0, none⟩ = some (.slice a36 n36 c36) ∧ w'.cell? ⟨w36.heap.size, 1, none⟩ = some (.bool m36) ∧ w'.cell? ⟨w36.heap.size, 2, none⟩ = some (.slice d36 e36 f36) ∧ True)) (by kernel_rfl) ?_ (fun hH0 => ?_)
  · (try dsimp only)
    all_goals (with_reducible refine And.intro (?_ : World.cell? (World.drew WR) _ = _) ?_; exact hR.out.drew.cell 4 0 rfl rfl; exact ⟨hR.out.drew.cell 4 1 rfl rfl, hR.out.drew.cell 4 2 rfl rfl, trivial⟩)
  refine wpAnyH_take (i := 0) (oi := ⟨_, _, _, _, _, _⟩) (v := ?_) rfl (by kernel_rfl) (by kernel_rfl) (by kernel_rfl) (fun _ _ _ h => h) (Or.inl ⟨by rfl, ?_⟩) hH0 ?_
  rotate_left
  · intro wS hSw; (try dsimp only at hSw); go_simp; try with_reducible rfl
  try simp only [Act.put, List.setIfInBounds_toArray, List.set_cons_zero, List.set_cons_succ]
  refine wpAnyH_take (i := 1) (oi := ⟨_, _, _, _, _, _⟩) (v := ?_) rfl (by kernel_rfl) (by kernel_rfl) (by kernel_rfl) (fun _ _ _ h => h) (Or.inl ⟨by rfl, ?_⟩) hH0 ?_
  rotate_left
  · intro wS hSw; (try dsimp only at hSw); go_simp; try with_reducible rfl
  try simp only [Act.put, List.setIfInBounds_toArray, List.set_cons_zero, List.set_cons_succ]
  refine wpAnyH_take (i := 2) (oi := ⟨_, _, _, _, _, _⟩) (v := ?_) rfl (by kernel_rfl) (by kernel_rfl) (by kernel_rfl) (fun _ _ _ h => h) (Or.inl ⟨by rfl, ?_⟩) hH0 ?_
  rotate_left
  · intro wS hSw; (try dsimp only at hSw); go_simp; try with_reducible rfl
  try simp only [Act.put, List.setIfInBounds_toArray, List.set_cons_zero, List.set_cons_succ]
  refine wpAnyH_take (i := 3) (oi := ⟨_, _, _, _, _, _⟩) (v := undef) rfl (by kernel_rfl) (by kernel_rfl) (by kernel_rfl) (fun _ _ _ h => h) (Or.inr ⟨by rfl, rfl⟩) hH0 ?_
  try simp only [Act.put, List.setIfInBounds_toArray, List.set_cons_zero, List.set_cons_succ]
  refine wpAnyH_take (i := 4) (oi := ⟨_, _, _, _, _, _⟩) (v := undef) rfl (by kernel_rfl) (by kernel_rfl) (by kernel_rfl) (fun _ _ _ h => h) (Or.inr ⟨by rfl, rfl⟩) hH0 ?_
  try simp only [Act.put, List.setIfInBounds_toArray, List.set_cons_zero, List.set_cons_succ]
  refine wpAnyH_take (i := 5) (oi := ⟨_, _, _, _, _, _⟩) (v := undef) rfl (by kernel_rfl) (by kernel_rfl) (by kernel_rfl) (fun _ _ _ h => h) (Or.inr ⟨by rfl, rfl⟩) hH0 ?_
  try simp only [Act.put, List.setIfInBounds_toArray, List.set_cons_zero, List.set_cons_succ]
  refine wpAnyH_take (i := 6) (oi := ⟨_, _, _, _, _, _⟩) (v := undef) rfl (by kernel_rfl) (by kernel_rfl) (by kernel_rfl) (fun _ _ _ h => h) (Or.inr ⟨by rfl, rfl⟩) hH0 ?_
  try simp only [Act.put, List.setIfInBounds_toArray, List.set_cons_zero, List.set_cons_succ]
  refine wpAnyH_take (i := 7) (oi := ⟨_, _, _, _, _, _⟩) (v := undef) rfl (by kernel_rfl) (by kernel_rfl) (by kernel_rfl) (fun _ _ _ h => h) (Or.inr ⟨by rfl, rfl⟩) hH0 ?_
  try simp only [Act.put, List.setIfInBounds_toArray, List.set_cons_zero, List.set_cons_succ]
  refine wpAnyH_take (i := 8) (oi := ⟨_, _, _, _, _, _⟩) (v := undef) rfl (by kernel_rfl) (by kernel_rfl) (by kernel_rfl) (fun _ _ _ h => h) (Or.inr ⟨by rfl, rfl⟩) hH0 ?_
  try simp only [Act.put, List.setIfInBounds_toArray, List.set_cons_zero, List.set_cons_succ]
  refine wpAnyH_take (i := 9) (oi := ⟨_, _, _, _, _, _⟩) (v := undef) rfl (by kernel_rfl) (by kernel_rfl) (by kernel_rfl) (fun _ _ _ h => h) (Or.inr ⟨by rfl, rfl⟩) hH0 ?_
  try simp only [Act.put, List.setIfInBounds_toArray, List.set_cons_zero, List.set_cons_succ]
  refine wpAnyH_take (i := 10) (oi := ⟨_, _, _, _, _, _⟩) (v := ?_) rfl (by kernel_rfl) (by kernel_rfl) (by kernel_rfl) (fun _ _ _ h => h) (Or.inl ⟨by rfl, ?_⟩) hH0 ?_
  rotate_left
  · intro wS hSw; (try dsimp only at hSw); go_simp; try with_reducible rfl
  try simp only [Act.put, List.setIfInBounds_toArray, List.set_cons_zero, List.set_cons_succ]
  refine wpAnyH_take (i := 11) (oi := ⟨_, _, _, _, _, _⟩) (v := ?_) rfl (by kernel_rfl) (by kernel_rfl) (by kernel_rfl) (fun _ _ _ h => h) (Or.inl ⟨by rfl, ?_⟩) hH0 ?_
  rotate_left
  · intro wS hSw; (try dsimp only at hSw); go_simp; try with_reducible rfl
  try simp only [Act.put, List.setIfInBounds_toArray, List.set_cons_zero, List.set_cons_succ]
  refine wpAnyH_take (i := 12) (oi := ⟨_, _, _, _, _, _⟩) (v := ?_) rfl (by kernel_rfl) (by kernel_rfl) (by kernel_rfl) (fun _ _ _ h => h) (Or.inl ⟨by rfl, ?_⟩) hH0 ?_
  rotate_left
  · intro wS hSw; (try dsimp only at hSw); go_simp; try with_reducible rfl
  try simp only [Act.put, List.setIfInBounds_toArray, List.set_cons_zero, List.set_cons_succ]
  refine wpAnyH_take (i := 13) (oi := ⟨_, _, _, _, _, _⟩) (v := ?_) rfl (by kernel_rfl) (by kernel_rfl) (by kernel_rfl) (fun _ _ _ h => h) (Or.inl ⟨by rfl, ?_⟩) hH0 ?_
  rotate_left
  · intro wS hSw; (try dsimp only at hSw); go_simp; try with_reducible rfl
  try simp only [Act.put, List.setIfInBounds_toArray, List.set_cons_zero, List.set_cons_succ]
  refine wpAnyH_take (i := 14) (oi := ⟨_, _, _, _, _, _⟩) (v := ?_) rfl (by kernel_rfl) (by kernel_rfl) (by kernel_rfl) (fun _ _ _ h => h) (Or.inl ⟨by rfl, ?_⟩) hH0 ?_
  rotate_left
  · intro wS hSw; (try dsimp only at hSw); go_simp; try with_reducible rfl
  try simp only [Act.put, List.setIfInBounds_toArray, List.set_cons_zero, List.set_cons_succ]
  refine wpAnyH_take (i := 15) (oi := ⟨_, _, _, _, _, _⟩) (v := ?_) rfl (by kernel_rfl) (by kernel_rfl) (by kernel_rfl) (fun _ _ _ h => h) (Or.inl ⟨by rfl, ?_⟩) hH0 ?_
  rotate_left
  · intro wS hSw; (try dsimp only at hSw); go_simp; try with_reducible rfl
  try simp only [Act.put, List.setIfInBounds_toArray, List.set_cons_zero, List.set_cons_succ]
  refine wpAnyH_take (i := 16) (oi := ⟨_, _, _, _, _, _⟩) (v := ?_) rfl (by kernel_rfl) (by kernel_rfl) (by kernel_rfl) (fun _ _ _ h => h) (Or.inl ⟨by rfl, ?_⟩) hH0 ?_
  rotate_left
  · intro wS hSw; (try dsimp only at hSw); go_simp; try with_reducible rfl
  try simp only [Act.put, List.setIfInBounds_toArray, List.set_cons_zero, List.set_cons_succ]
  refine wpAnyH_take (i := 17) (oi := ⟨_, _, _, _, _, _⟩) (v := ?_) rfl (by kernel_rfl) (by kernel_rfl) (by kernel_rfl) (fun _ _ _ h => h) (Or.inl ⟨by rfl, ?_⟩) hH0 ?_
  rotate_left
  · intro wS hSw; (try dsimp only at hSw); go_simp; try with_reducible rfl
  try simp only [Act.put, List.setIfInBounds_toArray, List.set_cons_zero, List.set_cons_succ]
  refine wpAnyH_take (i := 18) (oi := ⟨_, _, _, _, _, _⟩) (v := ?_) rfl (by kernel_rfl) (by kernel_rfl) (by kernel_rfl) (fun _ _ _ h => h) (Or.inl ⟨by rfl, ?_⟩) hH0 ?_
  rotate_left
  · intro wS hSw; (try dsimp only at hSw); go_simp; try with_reducible rfl
  try simp only [Act.put, List.setIfInBounds_toArray, List.set_cons_zero, List.set_cons_succ]
  refine wpAnyH_take (i := 19) (oi := ⟨_, _, _, _, _, _⟩) (v := ?_) rfl (by kernel_rfl) (by kernel_rfl) (by kernel_rfl) (fun _ _ _ h => h) (Or.inl ⟨by rfl, ?_⟩) hH0 ?_
  rotate_left
  · intro wS hSw; (try dsimp only at hSw); go_simp; try with_reducible rfl
  try simp only [Act.put, List.setIfInBounds_toArray, List.set_cons_zero, List.set_cons_succ]
  refine wpAnyH_take (i := 20) (oi := ⟨_, _, _, _, _, _⟩) (v := ?_) rfl (by kernel_rfl) (by kernel_rfl) (by kernel_rfl) (fun _ _ _ h => h) (Or.inl ⟨by rfl, ?_⟩) hH0 ?_
  rotate_left
  · intro wS hSw; (try dsimp only at hSw); go_simp; try with_reducible rfl
  try simp only [Act.put, List.setIfInBounds_toArray, List.set_cons_zero, List.set_cons_succ]
  refine wpAnyH_ready (rs := [21]) (by kernel_rfl) (by simp) ?_
  refine AllReadyH.cons (o := ⟨_, _, _, _, _, _⟩) rfl (fun Kq hKq => ?_) AllReadyH.nil
  go_simp
  (have _t := hR; go_at_call 53; refine (ratioN_any K J HK.out HJ.out HJ0.out _).mono ?_; rintro e w37 ⟨s37, a37, n37, c37, t37, d37, e37, f37, rfl, hz, hb⟩; have hC37 : Hid (St w w37 [(w1.heap.size, #[.slice a1 n1 c1, .bool m1], 28), (w1.heap.size + 1, #[.int .i64 s11, .slice a11 n11 c11], 31), (w2.heap.size, #[.slice a2 n2 c2, .bool m2], 28), (w2.heap.size + 1, #[.int .i64 s12, .slice a12 n12 c12], 31), (w36.heap.size, #[.slice a36 n36 c36, .bool m36, .slice d36 e36 f36], 48)] [fun V => Zd V (.slice a1 n1 c1) m1 (x1), fun V => Nz V s11 (.slice a11 n11 c11) (x1), fun V => Zd V (.slice a2 n2 c2) m2 (x2), fun V => Nz V s12 (.slice a12 n12 c12) (x2), fun V => Rd V (.slice a36 n36 c36) m36 (.slice d36 e36 f36) ((Rat.divInt K J)), fun V => Nq V s37 (.slice a37 n37 c37) t37 (.slice d37 e37 f37) ((Rat.divInt K J))]) := Lib.hid (St.pick ((hR.out.drew.call hb).pq hz) [0, 1, 2, 3, 4, 5] rfl); clear hb hz; clear _t hR)
  (try go_wp2_with fail)
  refine hKq.out _ _ ?_ (fun hH1 => ?_)
  · (try dsimp only)
    all_goals (with_reducible refine And.intro (?_ : World.cell? w37 _ = _) ?_; exact hC37.out.cell 4 0 rfl rfl; exact ⟨hC37.out.cell 4 1 rfl rfl, hC37.out.cell 4 2 rfl rfl, trivial⟩)
  clear hKq Kq hH0
  try simp only [Act.put, List.setIfInBounds_toArray, List.set_cons_zero, List.set_cons_succ]
  refine wpAnyH_ready (rs := [22]) (by kernel_rfl) (by simp) ?_
  refine AllReadyH.cons (o := ⟨_, _, _, _, _, _⟩) rfl (fun Kq hKq => ?_) AllReadyH.nil
  go_simp
  (have _t := hC37; go_at_call 27; refine (same_b (hC37.out.r 4 rfl) (hC37.out.rq 5 rfl) (Bq.ofInt (Bd.i64 HK.out) (Bd.i64 HJ.out) HJ0.out (Nat.le_refl _) (Nat.le_refl _)) (by omega)).mono ?_; rintro e w38 ⟨rfl, hb⟩; have hC38 : Hid (St w w38 [(w1.heap.size, #[.slice a1 n1 c1, .bool m1], 28), (w1.heap.size + 1, #[.int .i64 s11, .slice a11 n11 c11], 31), (w2.heap.size, #[.slice a2 n2 c2, .bool m2], 28), (w2.heap.size + 1, #[.int .i64 s12, .slice a12 n12 c12], 31), (w36.heap.size, #[.slice a36 n36 c36, .bool m36, .slice d36 e36 f36], 48)] [fun V => Zd V (.slice a1 n1 c1) m1 (x1), fun V => Nz V s11 (.slice a11 n11 c11) (x1), fun V => Zd V (.slice a2 n2 c2) m2 (x2), fun V => Nz V s12 (.slice a12 n12 c12) (x2), fun V => Rd V (.slice a36 n36 c36) m36 (.slice d36 e36 f36) ((Rat.divInt K J))]) := Lib.hid (St.pick ((hC37.out.call hb)) [0, 1, 2, 3, 4] rfl); clear hb; clear _t hC37)
  (try go_wp2_with fail)
  refine hKq.out _ _ ?_ (fun hH2 => ?_)
  · (try dsimp only)
    all_goals (with_reducible refine And.intro (?_ : World.cell? w38 _ = _) ?_; exact hC38.out.cell 4 0 rfl rfl; exact ⟨hC38.out.cell 4 1 rfl rfl, hC38.out.cell 4 2 rfl rfl, trivial⟩)
  clear hKq Kq hH1
  try simp only [Act.put, List.setIfInBounds_toArray, List.set_cons_zero, List.set_cons_succ]
  refine wpAnyH_take (i := 23) (oi := ⟨_, _, _, _, _, _⟩) (v := ?_) rfl (by kernel_rfl) (by kernel_rfl) (by kernel_rfl) (fun _ _ _ h => h) (Or.inl ⟨by rfl, ?_⟩) hH2 ?_
  rotate_left
  · intro wS hSw; (try dsimp only at hSw); go_simp; try with_reducible rfl
  try simp only [Act.put, List.setIfInBounds_toArray, List.set_cons_zero, List.set_cons_succ]
  refine wpAnyH_take (i := 24) (oi := ⟨_, _, _, _, _, _⟩) (v := ?_) rfl (by kernel_rfl) (by kernel_rfl) (by kernel_rfl) (fun _ _ _ h => h) (Or.inl ⟨by rfl, ?_⟩) hH2 ?_
  rotate_left
  · intro wS hSw; (try dsimp only at hSw); go_simp; try with_reducible rfl
  try simp only [Act.put, List.setIfInBounds_toArray, List.set_cons_zero, List.set_cons_succ]
  refine wpAnyH_take (i := 25) (oi := ⟨_, _, _, _, _, _⟩) (v := ?_) rfl (by kernel_rfl) (by kernel_rfl) (by kernel_rfl) (fun _ _ _ h => h) (Or.inl ⟨by rfl, ?_⟩) hH2 ?_
  rotate_left
  · intro wS hSw; (try dsimp only at hSw); go_simp; try with_reducible rfl
  try simp only [Act.put, List.setIfInBounds_toArray, List.set_cons_zero, List.set_cons_succ]
  refine wpAnyH_take (i := 26) (oi := ⟨_, _, _, _, _, _⟩) (v := ?_) rfl (by kernel_rfl) (by kernel_rfl) (by kernel_rfl) (fun _ _ _ h => h) (Or.inl ⟨by rfl, ?_⟩) hH2 ?_
  rotate_left
  · intro wS hSw; (try dsimp only at hSw); go_simp; try with_reducible rfl
  try simp only [Act.put, List.setIfInBounds_toArray, List.set_cons_zero, List.set_cons_succ]
  refine wpAnyH_done (by kernel_rfl) ?_ _
  go_upto_region 8 with fail
  have y00 := hC38.out.cell 0 0 rfl rfl
  have y01 := hC38.out.cell 0 1 rfl rfl
  have y20 := hC38.out.cell 2 0 rfl rfl
  have y21 := hC38.out.cell 2 1 rfl rfl
  go_wp2_with fail
  refine (ofz_n (hC38.out.z 0 rfl) (hC38.out.z 2 rfl) E1.out E2.out (by omega) (by omega) HB0.out).mono ?_
  rintro e w39 ⟨a39, n39, c39, m39, d39, e39, f39, rfl, hz, hb⟩
  have hC39 : Hid (St w _ [(w1.heap.size, #[.slice a1 n1 c1, .bool m1], 28), (w1.heap.size + 1, #[.int .i64 s11, .slice a11 n11 c11], 31), (w2.heap.size, #[.slice a2 n2 c2, .bool m2], 28), (w2.heap.size + 1, #[.int .i64 s12, .slice a12 n12 c12], 31), (w36.heap.size, #[.slice a36 n36 c36, .bool m36, .slice d36 e36 f36], 48), (w39.heap.size, #[.slice a39 n39 c39, .bool m39, .slice d39 e39 f39], 48)] [fun V => Zd V (.slice a1 n1 c1) m1 (x1), fun V => Nz V s11 (.slice a11 n11 c11) (x1), fun V => Zd V (.slice a2 n2 c2) m2 (x2), fun V => Nz V s12 (.slice a12 n12 c12) (x2), fun V => Rd V (.slice a36 n36 c36) m36 (.slice d36 e36 f36) ((Rat.divInt K J)), fun V => Rd V (.slice a39 n39 c39) m39 (.slice d39 e39 f39) ((Rat.divInt x1 x2))]) := Lib.hid (((hC38.out.call hb).pr hz).al w39.heap.size #[.slice a39 n39 c39, .bool m39, .slice d39 e39 f39] 48 rfl rfl)
  clear hb hz hC38
  clear y00 y01 y20 y21
  have y10 := hC39.out.cell 1 0 rfl rfl
  have y11 := hC39.out.cell 1 1 rfl rfl
  have y30 := hC39.out.cell 3 0 rfl rfl
  have y31 := hC39.out.cell 3 1 rfl rfl
  go_wp2_with fail
  refine (ofzN_b (hC39.out.n 1 rfl) (hC39.out.n 3 rfl) E1.out E2.out (by omega) (by omega) HB0.out).mono ?_
  rintro e w40 ⟨s40, a40, n40, c40, t40, d40, e40, f40, rfl, hz, hb⟩
  have hC40 : Hid (St w _ [(w1.heap.size, #[.slice a1 n1 c1, .bool m1], 28), (w1.heap.size + 1, #[.int .i64 s11, .slice a11 n11 c11], 31), (w2.heap.size, #[.slice a2 n2 c2, .bool m2], 28), (w2.heap.size + 1, #[.int .i64 s12, .slice a12 n12 c12], 31), (w36.heap.size, #[.slice a36 n36 c36, .bool m36, .slice d36 e36 f36], 48), (w39.heap.size, #[.slice a39 n39 c39, .bool m39, .slice d39 e39 f39], 48), (w40.heap.size, #[.int .i64 s40, .slice a40 n40 c40, .int .i64 t40, .slice d40 e40 f40], 54)] [fun V => Zd V (.slice a1 n1 c1) m1 (x1), fun V => Nz V s11 (.slice a11 n11 c11) (x1), fun V => Zd V (.slice a2 n2 c2) m2 (x2), fun V => Nz V s12 (.slice a12 n12 c12) (x2), fun V => Rd V (.slice a36 n36 c36) m36 (.slice d36 e36 f36) ((Rat.divInt K J)), fun V => Rd V (.slice a39 n39 c39) m39 (.slice d39 e39 f39) ((Rat.divInt x1 x2)), fun V => Nq V s40 (.slice a40 n40 c40) t40 (.slice d40 e40 f40) ((Rat.divInt x1 x2))]) := Lib.hid (((hC39.out.call hb).pq hz).al w40.heap.size #[.int .i64 s40, .slice a40 n40 c40, .int .i64 t40, .slice d40 e40 f40] 54 rfl rfl)
  clear hb hz hC39
  clear y10 y11 y30 y31
  go_upto_region 12 with fail
  refine wp_gen hC40.out ?_
  intro WT hc
  clear hC40
  have hT := Lib.hid hc
  clear hc
  refine wp_region_held_drew (S := (fun w' => w'.cell? ⟨w39.heap.size, 0, none⟩ = some (.slice a39 n39 c39) ∧ w'.cell? ⟨w39.heap.size, 1, none⟩ = some (.bool m39) ∧ w'.cell? ⟨w39.heap.size, 2, none⟩ = some (.slice d39 e39 f39) ∧ w'.cell? ⟨w40.heap.size, 0, none⟩ = some (.int .i64 s40) ∧ w'.cell? ⟨w40.heap.size, 1, none⟩ = some (.slice a40 n40 c40) ∧ w'.cell? ⟨w40.heap.size, 2, none⟩ = some (.int .i64 t40) ∧ w'.cell? ⟨w40.heap.size, 3, none⟩ = some (.slice d40 e40 f40) ∧ True)) (by kernel_rfl) ?_ (fun hH0 => ?_)
  · (try dsimp only)
    all_goals (with_reducible refine And.intro (?_ : World.cell? (World.drew WT) _ = _) ?_; exact hT.out.drew.cell 5 0 rfl rfl; exact ⟨hT.out.drew.cell 5 1 rfl rfl, hT.out.drew.cell 5 2 rfl rfl, hT.out.drew.cell 6 0 rfl rfl, hT.out.drew.cell 6 1 rfl rfl, hT.out.drew.cell 6 2 rfl rfl, hT.out.drew.cell 6 3 rfl rfl, trivial⟩)
  refine wpAnyH_take (i := 0) (oi := ⟨_, _, _, _, _, _⟩) (v := ?_) rfl (by kernel_rfl) (by kernel_rfl) (by kernel_rfl) (fun _ _ _ h => h) (Or.inl ⟨by rfl, ?_⟩) hH0 ?_
  rotate_left
  · intro wS hSw; (try dsimp only at hSw); go_simp; try with_reducible rfl
  try simp only [Act.put, List.setIfInBounds_toArray, List.set_cons_zero, List.set_cons_succ]
  refine wpAnyH_take (i := 1) (oi := ⟨_, _, _, _, _, _⟩) (v := ?_) rfl (by kernel_rfl) (by kernel_rfl) (by kernel_rfl) (fun _ _ _ h => h) (Or.inl ⟨by rfl, ?_⟩) hH0 ?_
  rotate_left
  · intro wS hSw; (try dsimp only at hSw); go_simp; try with_reducible rfl
  try simp only [Act.put, List.setIfInBounds_toArray, List.set_cons_zero, List.set_cons_succ]
  refine wpAnyH_take (i := 2) (oi := ⟨_, _, _, _, _, _⟩) (v := ?_) rfl (by kernel_rfl) (by kernel_rfl) (by kernel_rfl) (fun _ _ _ h => h) (Or.inl ⟨by rfl, ?_⟩) hH0 ?_
  rotate_left
  · intro wS hSw; (try dsimp only at hSw); go_simp; try with_reducible rfl
  try simp only [Act.put, List.setIfInBounds_toArray, List.set_cons_zero, List.set_cons_succ]
  refine wpAnyH_take (i := 3) (oi := ⟨_, _, _, _, _, _⟩) (v := ?_) rfl (by kernel_rfl) (by kernel_rfl) (by kernel_rfl) (fun _ _ _ h => h) (Or.inl ⟨by rfl, ?_⟩) hH0 ?_
  rotate_left
  · intro wS hSw; (try dsimp only at hSw); go_simp; try with_reducible rfl
  try simp only [Act.put, List.setIfInBounds_toArray, List.set_cons_zero, List.set_cons_succ]
  refine wpAnyH_take (i := 4) (oi := ⟨_, _, _, _, _, _⟩) (v := ?_) rfl (by kernel_rfl) (by kernel_rfl) (by kernel_rfl) (fun _ _ _ h => h) (Or.inl ⟨by rfl, ?_⟩) hH0 ?_
  rotate_left
  · intro wS hSw; (try dsimp only at hSw); go_simp; try with_reducible rfl
  try simp only [Act.put, List.setIfInBounds_toArray, List.set_cons_zero, List.set_cons_succ]
  refine wpAnyH_ready (rs := [5]) (by kernel_rfl) (by simp) ?_
  refine AllReadyH.cons (o := ⟨_, _, _, _, _, _⟩) rfl (fun Kq hKq => ?_) AllReadyH.nil
  go_simp
  (have _t := hT; go_at_call 27; refine (same_b (hT.out.drew.r 5 rfl) (hT.out.drew.rq 6 rfl) (Bq.ofInt E1.out E2.out HB0.out (Nat.le_refl _) (Nat.le_refl _)) (by omega)).mono ?_; rintro e w41 ⟨rfl, hb⟩; have hC41 : Hid (St w w41 [(w1.heap.size, #[.slice a1 n1 c1, .bool m1], 28), (w1.heap.size + 1, #[.int .i64 s11, .slice a11 n11 c11], 31), (w2.heap.size, #[.slice a2 n2 c2, .bool m2], 28), (w2.heap.size + 1, #[.int .i64 s12, .slice a12 n12 c12], 31), (w36.heap.size, #[.slice a36 n36 c36, .bool m36, .slice d36 e36 f36], 48), (w39.heap.size, #[.slice a39 n39 c39, .bool m39, .slice d39 e39 f39], 48), (w40.heap.size, #[.int .i64 s40, .slice a40 n40 c40, .int .i64 t40, .slice d40 e40 f40], 54)] [fun V => Zd V (.slice a1 n1 c1) m1 (x1), fun V => Nz V s11 (.slice a11 n11 c11) (x1), fun V => Zd V (.slice a2 n2 c2) m2 (x2), fun V => Nz V s12 (.slice a12 n12 c12) (x2), fun V => Rd V (.slice a36 n36 c36) m36 (.slice d36 e36 f36) ((Rat.divInt K J)), fun V => Rd V (.slice a39 n39 c39) m39 (.slice d39 e39 f39) ((Rat.divInt x1 x2)), fun V => Nq V s40 (.slice a40 n40 c40) t40 (.slice d40 e40 f40) ((Rat.divInt x1 x2))]) := Lib.hid (St.pick ((hT.out.drew.call hb)) [0, 1, 2, 3, 4, 5, 6] rfl); clear hb; clear _t hT)
  (try go_wp2_with fail)
  refine hKq.out _ _ ?_ (fun hH1 => ?_)
  · (try dsimp only)
    all_goals (with_reducible refine And.intro (?_ : World.cell? w41 _ = _) ?_; exact hC41.out.cell 5 0 rfl rfl; exact ⟨hC41.out.cell 5 1 rfl rfl, hC41.out.cell 5 2 rfl rfl, hC41.out.cell 6 0 rfl rfl, hC41.out.cell 6 1 rfl rfl, hC41.out.cell 6 2 rfl rfl, hC41.out.cell 6 3 rfl rfl, trivial⟩)
  clear hKq Kq hH0
  try simp only [Act.put, List.setIfInBounds_toArray, List.set_cons_zero, List.set_cons_succ]
  refine wpAnyH_take (i := 6) (oi := ⟨_, _, _, _, _, _⟩) (v := ?_) rfl (by kernel_rfl) (by kernel_rfl) (by kernel_rfl) (fun _ _ _ h => h) (Or.inl ⟨by rfl, ?_⟩) hH1 ?_
  rotate_left
  · intro wS hSw; (try dsimp only at hSw); go_simp; try with_reducible rfl
  try simp only [Act.put, List.setIfInBounds_toArray, List.set_cons_zero, List.set_cons_succ]
  refine wpAnyH_take (i := 7) (oi := ⟨_, _, _, _, _, _⟩) (v := ?_) rfl (by kernel_rfl) (by kernel_rfl) (by kernel_rfl) (fun _ _ _ h => h) (Or.inl ⟨by rfl, ?_⟩) hH1 ?_
  rotate_left
  · intro wS hSw; (try dsimp only at hSw); go_simp; try with_reducible rfl
  try simp only [Act.put, List.setIfInBounds_toArray, List.set_cons_zero, List.set_cons_succ]
  refine wpAnyH_take (i := 8) (oi := ⟨_, _, _, _, _, _⟩) (v := ?_) rfl (by kernel_rfl) (by kernel_rfl) (by kernel_rfl) (fun _ _ _ h => h) (Or.inl ⟨by rfl, ?_⟩) hH1 ?_
  rotate_left
  · intro wS hSw; (try dsimp only at hSw); go_simp; try with_reducible rfl
  try simp only [Act.put, List.setIfInBounds_toArray, List.set_cons_zero, List.set_cons_succ]
  refine wpAnyH_take (i := 10) (oi := ⟨_, _, _, _, _, _⟩) (v := ?_) rfl (by kernel_rfl) (by kernel_rfl) (by kernel_rfl) (fun _ _ _ h => h) (Or.inl ⟨by rfl, ?_⟩) hH1 ?_
  rotate_left
  · intro wS hSw; (try dsimp only at hSw); go_simp; try with_reducible rfl
  try simp only [Act.put, List.setIfInBounds_toArray, List.set_cons_zero, List.set_cons_succ]
  refine wpAnyH_ready (rs := [9]) (by kernel_rfl) (by simp) ?_
  refine AllReadyH.cons (o := ⟨_, _, _, _, _, _⟩) rfl (fun Kq hKq => ?_) AllReadyH.nil
  go_simp
  (have _t := hC41; go_at_call 56; refine (num_any _ _ _ _ _ _ _ _ _ (hC41.out.r 5 rfl)).mono ?_; rintro e w42 ⟨a42, n42, c42, m42, rfl, hz, hb⟩; have hC42 : Hid (St w w42 [(w1.heap.size, #[.slice a1 n1 c1, .bool m1], 28), (w1.heap.size + 1, #[.int .i64 s11, .slice a11 n11 c11], 31), (w2.heap.size, #[.slice a2 n2 c2, .bool m2], 28), (w2.heap.size + 1, #[.int .i64 s12, .slice a12 n12 c12], 31), (w36.heap.size, #[.slice a36 n36 c36, .bool m36, .slice d36 e36 f36], 48), (w39.heap.size, #[.slice a39 n39 c39, .bool m39, .slice d39 e39 f39], 48), (w40.heap.size, #[.int .i64 s40, .slice a40 n40 c40, .int .i64 t40, .slice d40 e40 f40], 54)] [fun V => Zd V (.slice a1 n1 c1) m1 (x1), fun V => Nz V s11 (.slice a11 n11 c11) (x1), fun V => Zd V (.slice a2 n2 c2) m2 (x2), fun V => Nz V s12 (.slice a12 n12 c12) (x2), fun V => Rd V (.slice a36 n36 c36) m36 (.slice d36 e36 f36) ((Rat.divInt K J)), fun V => Rd V (.slice a39 n39 c39) m39 (.slice d39 e39 f39) ((Rat.divInt x1 x2)), fun V => Nq V s40 (.slice a40 n40 c40) t40 (.slice d40 e40 f40) ((Rat.divInt x1 x2)), fun V => Zd V (.slice a42 n42 c42) m42 (((Rat.divInt x1 x2)).num)]) := Lib.hid (St.pick ((hC41.out.call hb).pz hz) [0, 1, 2, 3, 4, 5, 6, 7] rfl); clear hb hz; clear _t hC41)
  (try go_wp2_with fail)
  refine hKq.out _ _ ?_ (fun hH2 => ?_)
  · (try dsimp only)
    all_goals (with_reducible refine And.intro (?_ : World.cell? w42 _ = _) ?_; exact hC42.out.cell 5 0 rfl rfl; exact ⟨hC42.out.cell 5 1 rfl rfl, hC42.out.cell 5 2 rfl rfl, hC42.out.cell 6 0 rfl rfl, hC42.out.cell 6 1 rfl rfl, hC42.out.cell 6 2 rfl rfl, hC42.out.cell 6 3 rfl rfl, trivial⟩)
  clear hKq Kq hH1
  try simp only [Act.put, List.setIfInBounds_toArray, List.set_cons_zero, List.set_cons_succ]
  refine wpAnyH_ready (rs := [11]) (by kernel_rfl) (by simp) ?_
  refine AllReadyH.cons (o := ⟨_, _, _, _, _, _⟩) rfl (fun Kq hKq => ?_) AllReadyH.nil
  go_simp
  (have _t := hC42; go_at_call 57; refine (numN_any _ _ _ _ _ _ _ _ _ _ (hC42.out.rq 6 rfl)).mono ?_; rintro e w43 ⟨s43, a43, n43, c43, rfl, hz, hb⟩; have hC43 : Hid (St w w43 [(w1.heap.size, #[.slice a1 n1 c1, .bool m1], 28), (w1.heap.size + 1, #[.int .i64 s11, .slice a11 n11 c11], 31), (w2.heap.size, #[.slice a2 n2 c2, .bool m2], 28), (w2.heap.size + 1, #[.int .i64 s12, .slice a12 n12 c12], 31), (w36.heap.size, #[.slice a36 n36 c36, .bool m36, .slice d36 e36 f36], 48), (w39.heap.size, #[.slice a39 n39 c39, .bool m39, .slice d39 e39 f39], 48), (w40.heap.size, #[.int .i64 s40, .slice a40 n40 c40, .int .i64 t40, .slice d40 e40 f40], 54)] [fun V => Zd V (.slice a1 n1 c1) m1 (x1), fun V => Nz V s11 (.slice a11 n11 c11) (x1), fun V => Zd V (.slice a2 n2 c2) m2 (x2), fun V => Nz V s12 (.slice a12 n12 c12) (x2), fun V => Rd V (.slice a36 n36 c36) m36 (.slice d36 e36 f36) ((Rat.divInt K J)), fun V => Rd V (.slice a39 n39 c39) m39 (.slice d39 e39 f39) ((Rat.divInt x1 x2)), fun V => Nq V s40 (.slice a40 n40 c40) t40 (.slice d40 e40 f40) ((Rat.divInt x1 x2)), fun V => Zd V (.slice a42 n42 c42) m42 (((Rat.divInt x1 x2)).num), fun V => Nz V s43 (.slice a43 n43 c43) (((Rat.divInt x1 x2)).num)]) := Lib.hid (St.pick ((hC42.out.call hb).pn hz) [0, 1, 2, 3, 4, 5, 6, 7, 8] rfl); clear hb hz; clear _t hC42)
  (try go_wp2_with fail)
  refine hKq.out _ _ ?_ (fun hH3 => ?_)
  · (try dsimp only)
    all_goals (with_reducible refine And.intro (?_ : World.cell? w43 _ = _) ?_; exact hC43.out.cell 5 0 rfl rfl; exact ⟨hC43.out.cell 5 1 rfl rfl, hC43.out.cell 5 2 rfl rfl, hC43.out.cell 6 0 rfl rfl, hC43.out.cell 6 1 rfl rfl, hC43.out.cell 6 2 rfl rfl, hC43.out.cell 6 3 rfl rfl, trivial⟩)
  clear hKq Kq hH2
  try simp only [Act.put, List.setIfInBounds_toArray, List.set_cons_zero, List.set_cons_succ]
  refine wpAnyH_ready (rs := [12]) (by kernel_rfl) (by simp) ?_
  refine AllReadyH.cons (o := ⟨_, _, _, _, _, _⟩) rfl (fun Kq hKq => ?_) AllReadyH.nil
  go_simp
  (have _t := hC43; go_at_call 14; refine (sameZ_b (hC43.out.z 7 rfl) (hC43.out.n 8 rfl) ((Bq.ofInt E1.out E2.out HB0.out (Nat.le_refl _) (Nat.le_refl _))).num (by omega)).mono ?_; rintro e w44 ⟨rfl, hb⟩; have hC44 : Hid (St w w44 [(w1.heap.size, #[.slice a1 n1 c1, .bool m1], 28), (w1.heap.size + 1, #[.int .i64 s11, .slice a11 n11 c11], 31), (w2.heap.size, #[.slice a2 n2 c2, .bool m2], 28), (w2.heap.size + 1, #[.int .i64 s12, .slice a12 n12 c12], 31), (w36.heap.size, #[.slice a36 n36 c36, .bool m36, .slice d36 e36 f36], 48), (w39.heap.size, #[.slice a39 n39 c39, .bool m39, .slice d39 e39 f39], 48), (w40.heap.size, #[.int .i64 s40, .slice a40 n40 c40, .int .i64 t40, .slice d40 e40 f40], 54)] [fun V => Zd V (.slice a1 n1 c1) m1 (x1), fun V => Nz V s11 (.slice a11 n11 c11) (x1), fun V => Zd V (.slice a2 n2 c2) m2 (x2), fun V => Nz V s12 (.slice a12 n12 c12) (x2), fun V => Rd V (.slice a36 n36 c36) m36 (.slice d36 e36 f36) ((Rat.divInt K J)), fun V => Rd V (.slice a39 n39 c39) m39 (.slice d39 e39 f39) ((Rat.divInt x1 x2)), fun V => Nq V s40 (.slice a40 n40 c40) t40 (.slice d40 e40 f40) ((Rat.divInt x1 x2))]) := Lib.hid (St.pick ((hC43.out.call hb)) [0, 1, 2, 3, 4, 5, 6] rfl); clear hb; clear _t hC43)
  (try go_wp2_with fail)
  refine hKq.out _ _ ?_ (fun hH4 => ?_)
  · (try dsimp only)
    all_goals (with_reducible refine And.intro (?_ : World.cell? w44 _ = _) ?_; exact hC44.out.cell 5 0 rfl rfl; exact ⟨hC44.out.cell 5 1 rfl rfl, hC44.out.cell 5 2 rfl rfl, hC44.out.cell 6 0 rfl rfl, hC44.out.cell 6 1 rfl rfl, hC44.out.cell 6 2 rfl rfl, hC44.out.cell 6 3 rfl rfl, trivial⟩)
  clear hKq Kq hH3
  try simp only [Act.put, List.setIfInBounds_toArray, List.set_cons_zero, List.set_cons_succ]
  refine wpAnyH_take (i := 13) (oi := ⟨_, _, _, _, _, _⟩) (v := ?_) rfl (by kernel_rfl) (by kernel_rfl) (by kernel_rfl) (fun _ _ _ h => h) (Or.inl ⟨by rfl, ?_⟩) hH4 ?_
  rotate_left
  · intro wS hSw; (try dsimp only at hSw); go_simp; try with_reducible rfl
  try simp only [Act.put, List.setIfInBounds_toArray, List.set_cons_zero, List.set_cons_succ]
  refine wpAnyH_take (i := 14) (oi := ⟨_, _, _, _, _, _⟩) (v := ?_) rfl (by kernel_rfl) (by kernel_rfl) (by kernel_rfl) (fun _ _ _ h => h) (Or.inl ⟨by rfl, ?_⟩) hH4 ?_
  rotate_left
  · intro wS hSw; (try dsimp only at hSw); go_simp; try with_reducible rfl
  try simp only [Act.put, List.setIfInBounds_toArray, List.set_cons_zero, List.set_cons_succ]
  refine wpAnyH_take (i := 15) (oi := ⟨_, _, _, _, _, _⟩) (v := ?_) rfl (by kernel_rfl) (by kernel_rfl) (by kernel_rfl) (fun _ _ _ h => h) (Or.inl ⟨by rfl, ?_⟩) hH4 ?_
  rotate_left
  · intro wS hSw; (try dsimp only at hSw); go_simp; try with_reducible rfl
  try simp only [Act.put, List.setIfInBounds_toArray, List.set_cons_zero, List.set_cons_succ]
  refine wpAnyH_take (i := 17) (oi := ⟨_, _, _, _, _, _⟩) (v := ?_) rfl (by kernel_rfl) (by kernel_rfl) (by kernel_rfl) (fun _ _ _ h => h) (Or.inl ⟨by rfl, ?_⟩) hH4 ?_
  rotate_left
  · intro wS hSw; (try dsimp only at hSw); go_simp; try with_reducible rfl
  try simp only [Act.put, List.setIfInBounds_toArray, List.set_cons_zero, List.set_cons_succ]
  refine wpAnyH_ready (rs := [16]) (by kernel_rfl) (by simp) ?_
  refine AllReadyH.cons (o := ⟨_, _, _, _, _, _⟩) rfl (fun Kq hKq => ?_) AllReadyH.nil
  go_simp
  (have _t := hC44; go_at_call 58; refine (den_b (hC44.out.r 5 rfl) (Bq.ofInt E1.out E2.out HB0.out (Nat.le_refl _) (Nat.le_refl _)) (by omega)).mono ?_; rintro e w45 ⟨a45, n45, c45, m45, rfl, hz, hb⟩; have hC45 : Hid (St w w45 [(w1.heap.size, #[.slice a1 n1 c1, .bool m1], 28), (w1.heap.size + 1, #[.int .i64 s11, .slice a11 n11 c11], 31), (w2.heap.size, #[.slice a2 n2 c2, .bool m2], 28), (w2.heap.size + 1, #[.int .i64 s12, .slice a12 n12 c12], 31), (w36.heap.size, #[.slice a36 n36 c36, .bool m36, .slice d36 e36 f36], 48), (w39.heap.size, #[.slice a39 n39 c39, .bool m39, .slice d39 e39 f39], 48), (w40.heap.size, #[.int .i64 s40, .slice a40 n40 c40, .int .i64 t40, .slice d40 e40 f40], 54)] [fun V => Zd V (.slice a1 n1 c1) m1 (x1), fun V => Nz V s11 (.slice a11 n11 c11) (x1), fun V => Zd V (.slice a2 n2 c2) m2 (x2), fun V => Nz V s12 (.slice a12 n12 c12) (x2), fun V => Rd V (.slice a36 n36 c36) m36 (.slice d36 e36 f36) ((Rat.divInt K J)), fun V => Rd V (.slice a39 n39 c39) m39 (.slice d39 e39 f39) ((Rat.divInt x1 x2)), fun V => Nq V s40 (.slice a40 n40 c40) t40 (.slice d40 e40 f40) ((Rat.divInt x1 x2)), fun V => Zd V (.slice a45 n45 c45) m45 (((((Rat.divInt x1 x2)).den : Nat) : Int))]) := Lib.hid (St.pick ((hC44.out.call hb).pz hz) [0, 1, 2, 3, 4, 5, 6, 7] rfl); clear hb hz; clear _t hC44)
  (try go_wp2_with fail)
  refine hKq.out _ _ ?_ (fun hH5 => ?_)
  · (try dsimp only)
    all_goals (with_reducible refine And.intro (?_ : World.cell? w45 _ = _) ?_; exact hC45.out.cell 5 0 rfl rfl; exact ⟨hC45.out.cell 5 1 rfl rfl, hC45.out.cell 5 2 rfl rfl, hC45.out.cell 6 0 rfl rfl, hC45.out.cell 6 1 rfl rfl, hC45.out.cell 6 2 rfl rfl, hC45.out.cell 6 3 rfl rfl, trivial⟩)
  clear hKq Kq hH4
  try simp only [Act.put, List.setIfInBounds_toArray, List.set_cons_zero, List.set_cons_succ]
  refine wpAnyH_ready (rs := [18]) (by kernel_rfl) (by simp) ?_
  refine AllReadyH.cons (o := ⟨_, _, _, _, _, _⟩) rfl (fun Kq hKq => ?_) AllReadyH.nil
  go_simp
  (have _t := hC45; go_at_call 59; refine (denN_b (hC45.out.rq 6 rfl)).mono ?_; rintro e w46 ⟨s46, a46, n46, c46, rfl, hz, hb⟩; have hC46 : Hid (St w w46 [(w1.heap.size, #[.slice a1 n1 c1, .bool m1], 28), (w1.heap.size + 1, #[.int .i64 s11, .slice a11 n11 c11], 31), (w2.heap.size, #[.slice a2 n2 c2, .bool m2], 28), (w2.heap.size + 1, #[.int .i64 s12, .slice a12 n12 c12], 31), (w36.heap.size, #[.slice a36 n36 c36, .bool m36, .slice d36 e36 f36], 48), (w39.heap.size, #[.slice a39 n39 c39, .bool m39, .slice d39 e39 f39], 48), (w40.heap.size, #[.int .i64 s40, .slice a40 n40 c40, .int .i64 t40, .slice d40 e40 f40], 54)] [fun V => Zd V (.slice a1 n1 c1) m1 (x1), fun V => Nz V s11 (.slice a11 n11 c11) (x1), fun V => Zd V (.slice a2 n2 c2) m2 (x2), fun V => Nz V s12 (.slice a12 n12 c12) (x2), fun V => Rd V (.slice a36 n36 c36) m36 (.slice d36 e36 f36) ((Rat.divInt K J)), fun V => Rd V (.slice a39 n39 c39) m39 (.slice d39 e39 f39) ((Rat.divInt x1 x2)), fun V => Nq V s40 (.slice a40 n40 c40) t40 (.slice d40 e40 f40) ((Rat.divInt x1 x2)), fun V => Zd V (.slice a45 n45 c45) m45 (((((Rat.divInt x1 x2)).den : Nat) : Int)), fun V => Nz V s46 (.slice a46 n46 c46) (((((Rat.divInt x1 x2)).den : Nat) : Int))]) := Lib.hid (St.pick ((hC45.out.call hb).pn hz) [0, 1, 2, 3, 4, 5, 6, 7, 8] rfl); clear hb hz; clear _t hC45)
  (try go_wp2_with fail)
  refine hKq.out _ _ ?_ (fun hH6 => ?_)
  · (try dsimp only)
    all_goals (with_reducible refine And.intro (?_ : World.cell? w46 _ = _) ?_; exact hC46.out.cell 5 0 rfl rfl; exact ⟨hC46.out.cell 5 1 rfl rfl, hC46.out.cell 5 2 rfl rfl, hC46.out.cell 6 0 rfl rfl, hC46.out.cell 6 1 rfl rfl, hC46.out.cell 6 2 rfl rfl, hC46.out.cell 6 3 rfl rfl, trivial⟩)
  clear hKq Kq hH5
  try simp only [Act.put, List.setIfInBounds_toArray, List.set_cons_zero, List.set_cons_succ]
  refine wpAnyH_ready (rs := [19]) (by kernel_rfl) (by simp) ?_
  refine AllReadyH.cons (o := ⟨_, _, _, _, _, _⟩) rfl (fun Kq hKq => ?_) AllReadyH.nil
  go_simp
  (have _t := hC46; go_at_call 14; refine (sameZ_b (hC46.out.z 7 rfl) (hC46.out.n 8 rfl) ((Bq.ofInt E1.out E2.out HB0.out (Nat.le_refl _) (Nat.le_refl _))).den (by omega)).mono ?_; rintro e w47 ⟨rfl, hb⟩; have hC47 : Hid (St w w47 [(w1.heap.size, #[.slice a1 n1 c1, .bool m1], 28), (w1.heap.size + 1, #[.int .i64 s11, .slice a11 n11 c11], 31), (w2.heap.size, #[.slice a2 n2 c2, .bool m2], 28), (w2.heap.size + 1, #[.int .i64 s12, .slice a12 n12 c12], 31), (w36.heap.size, #[.slice a36 n36 c36, .bool m36, .slice d36 e36 f36], 48), (w39.heap.size, #[.slice a39 n39 c39, .bool m39, .slice d39 e39 f39], 48), (w40.heap.size, #[.int .i64 s40, .slice a40 n40 c40, .int .i64 t40, .slice d40 e40 f40], 54)] [fun V => Zd V (.slice a1 n1 c1) m1 (x1), fun V => Nz V s11 (.slice a11 n11 c11) (x1), fun V => Zd V (.slice a2 n2 c2) m2 (x2), fun V => Nz V s12 (.slice a12 n12 c12) (x2), fun V => Rd V (.slice a36 n36 c36) m36 (.slice d36 e36 f36) ((Rat.divInt K J)), fun V => Rd V (.slice a39 n39 c39) m39 (.slice d39 e39 f39) ((Rat.divInt x1 x2)), fun V => Nq V s40 (.slice a40 n40 c40) t40 (.slice d40 e40 f40) ((Rat.divInt x1 x2))]) := Lib.hid (St.pick ((hC46.out.call hb)) [0, 1, 2, 3, 4, 5, 6] rfl); clear hb; clear _t hC46)
  (try go_wp2_with fail)
  refine hKq.out _ _ ?_ (fun hH7 => ?_)
  · (try dsimp only)
    all_goals (with_reducible refine And.intro (?_ : World.cell? w47 _ = _) ?_; exact hC47.out.cell 5 0 rfl rfl; exact ⟨hC47.out.cell 5 1 rfl rfl, hC47.out.cell 5 2 rfl rfl, hC47.out.cell 6 0 rfl rfl, hC47.out.cell 6 1 rfl rfl, hC47.out.cell 6 2 rfl rfl, hC47.out.cell 6 3 rfl rfl, trivial⟩)
  clear hKq Kq hH6
  try simp only [Act.put, List.setIfInBounds_toArray, List.set_cons_zero, List.set_cons_succ]
  refine wpAnyH_take (i := 20) (oi := ⟨_, _, _, _, _, _⟩) (v := ?_) rfl (by kernel_rfl) (by kernel_rfl) (by kernel_rfl) (fun _ _ _ h => h) (Or.inl ⟨by rfl, ?_⟩) hH7 ?_
  rotate_left
  · intro wS hSw; (try dsimp only at hSw); go_simp; try with_reducible rfl
  try simp only [Act.put, List.setIfInBounds_toArray, List.set_cons_zero, List.set_cons_succ]
  refine wpAnyH_take (i := 21) (oi := ⟨_, _, _, _, _, _⟩) (v := ?_) rfl (by kernel_rfl) (by kernel_rfl) (by kernel_rfl) (fun _ _ _ h => h) (Or.inl ⟨by rfl, ?_⟩) hH7 ?_
  rotate_left
  · intro wS hSw; (try dsimp only at hSw); go_simp; try with_reducible rfl
  try simp only [Act.put, List.setIfInBounds_toArray, List.set_cons_zero, List.set_cons_succ]
  refine wpAnyH_take (i := 22) (oi := ⟨_, _, _, _, _, _⟩) (v := ?_) rfl (by kernel_rfl) (by kernel_rfl) (by kernel_rfl) (fun _ _ _ h => h) (Or.inl ⟨by rfl, ?_⟩) hH7 ?_
  rotate_left
  · intro wS hSw; (try dsimp only at hSw); go_simp; try with_reducible rfl
  try simp only [Act.put, List.setIfInBounds_toArray, List.set_cons_zero, List.set_cons_succ]
  refine wpAnyH_take (i := 24) (oi := ⟨_, _, _, _, _, _⟩) (v := ?_) rfl (by kernel_rfl) (by kernel_rfl) (by kernel_rfl) (fun _ _ _ h => h) (Or.inl ⟨by rfl, ?_⟩) hH7 ?_
  rotate_left
  · intro wS hSw; (try dsimp only at hSw); go_simp; try with_reducible rfl
  try simp only [Act.put, List.setIfInBounds_toArray, List.set_cons_zero, List.set_cons_succ]
  refine wpAnyH_ready (rs := [23]) (by kernel_rfl) (by simp) ?_
  refine AllReadyH.cons (o := ⟨_, _, _, _, _, _⟩) rfl (fun Kq hKq => ?_) AllReadyH.nil
  go_simp
  (have _t := hC47; go_at_call 60; refine (rfloor_b (hC47.out.r 5 rfl) (Bq.ofInt E1.out E2.out HB0.out (Nat.le_refl _) (Nat.le_refl _)) (by omega)).mono ?_; rintro e w48 ⟨a48, n48, c48, m48, rfl, hz, hb⟩; have hC48 : Hid (St w w48 [(w1.heap.size, #[.slice a1 n1 c1, .bool m1], 28), (w1.heap.size + 1, #[.int .i64 s11, .slice a11 n11 c11], 31), (w2.heap.size, #[.slice a2 n2 c2, .bool m2], 28), (w2.heap.size + 1, #[.int .i64 s12, .slice a12 n12 c12], 31), (w36.heap.size, #[.slice a36 n36 c36, .bool m36, .slice d36 e36 f36], 48), (w39.heap.size, #[.slice a39 n39 c39, .bool m39, .slice d39 e39 f39], 48), (w40.heap.size, #[.int .i64 s40, .slice a40 n40 c40, .int .i64 t40, .slice d40 e40 f40], 54)] [fun V => Zd V (.slice a1 n1 c1) m1 (x1), fun V => Nz V s11 (.slice a11 n11 c11) (x1), fun V => Zd V (.slice a2 n2 c2) m2 (x2), fun V => Nz V s12 (.slice a12 n12 c12) (x2), fun V => Rd V (.slice a36 n36 c36) m36 (.slice d36 e36 f36) ((Rat.divInt K J)), fun V => Rd V (.slice a39 n39 c39) m39 (.slice d39 e39 f39) ((Rat.divInt x1 x2)), fun V => Nq V s40 (.slice a40 n40 c40) t40 (.slice d40 e40 f40) ((Rat.divInt x1 x2)), fun V => Zd V (.slice a48 n48 c48) m48 (((Rat.divInt x1 x2)).floor)]) := Lib.hid (St.pick ((hC47.out.call hb).pz hz) [0, 1, 2, 3, 4, 5, 6, 7] rfl); clear hb hz; clear _t hC47)
  (try go_wp2_with fail)
  refine hKq.out _ _ ?_ (fun hH8 => ?_)
  · (try dsimp only)
    all_goals (with_reducible refine And.intro (?_ : World.cell? w48 _ = _) ?_; exact hC48.out.cell 5 0 rfl rfl; exact ⟨hC48.out.cell 5 1 rfl rfl, hC48.out.cell 5 2 rfl rfl, hC48.out.cell 6 0 rfl rfl, hC48.out.cell 6 1 rfl rfl, hC48.out.cell 6 2 rfl rfl, hC48.out.cell 6 3 rfl rfl, trivial⟩)
  clear hKq Kq hH7
  try simp only [Act.put, List.setIfInBounds_toArray, List.set_cons_zero, List.set_cons_succ]
  refine wpAnyH_ready (rs := [25]) (by kernel_rfl) (by simp) ?_
  refine AllReadyH.cons (o := ⟨_, _, _, _, _, _⟩) rfl (fun Kq hKq => ?_) AllReadyH.nil
  go_simp
  (have _t := hC48; go_at_call 61; refine (rfloorN_b (hC48.out.rq 6 rfl) (Bq.ofInt E1.out E2.out HB0.out (Nat.le_refl _) (Nat.le_refl _)) (by omega)).mono ?_; rintro e w49 ⟨s49, a49, n49, c49, rfl, hz, hb⟩; have hC49 : Hid (St w w49 [(w1.heap.size, #[.slice a1 n1 c1, .bool m1], 28), (w1.heap.size + 1, #[.int .i64 s11, .slice a11 n11 c11], 31), (w2.heap.size, #[.slice a2 n2 c2, .bool m2], 28), (w2.heap.size + 1, #[.int .i64 s12, .slice a12 n12 c12], 31), (w36.heap.size, #[.slice a36 n36 c36, .bool m36, .slice d36 e36 f36], 48), (w39.heap.size, #[.slice a39 n39 c39, .bool m39, .slice d39 e39 f39], 48), (w40.heap.size, #[.int .i64 s40, .slice a40 n40 c40, .int .i64 t40, .slice d40 e40 f40], 54)] [fun V => Zd V (.slice a1 n1 c1) m1 (x1), fun V => Nz V s11 (.slice a11 n11 c11) (x1), fun V => Zd V (.slice a2 n2 c2) m2 (x2), fun V => Nz V s12 (.slice a12 n12 c12) (x2), fun V => Rd V (.slice a36 n36 c36) m36 (.slice d36 e36 f36) ((Rat.divInt K J)), fun V => Rd V (.slice a39 n39 c39) m39 (.slice d39 e39 f39) ((Rat.divInt x1 x2)), fun V => Nq V s40 (.slice a40 n40 c40) t40 (.slice d40 e40 f40) ((Rat.divInt x1 x2)), fun V => Zd V (.slice a48 n48 c48) m48 (((Rat.divInt x1 x2)).floor), fun V => Nz V s49 (.slice a49 n49 c49) (((Rat.divInt x1 x2)).floor)]) := Lib.hid (St.pick ((hC48.out.call hb).pn hz) [0, 1, 2, 3, 4, 5, 6, 7, 8] rfl); clear hb hz; clear _t hC48)
  (try go_wp2_with fail)
  refine hKq.out _ _ ?_ (fun hH9 => ?_)
  · (try dsimp only)
    all_goals (with_reducible refine And.intro (?_ : World.cell? w49 _ = _) ?_; exact hC49.out.cell 5 0 rfl rfl; exact ⟨hC49.out.cell 5 1 rfl rfl, hC49.out.cell 5 2 rfl rfl, hC49.out.cell 6 0 rfl rfl, hC49.out.cell 6 1 rfl rfl, hC49.out.cell 6 2 rfl rfl, hC49.out.cell 6 3 rfl rfl, trivial⟩)
  clear hKq Kq hH8
  try simp only [Act.put, List.setIfInBounds_toArray, List.set_cons_zero, List.set_cons_succ]
  refine wpAnyH_ready (rs := [26]) (by kernel_rfl) (by simp) ?_
  refine AllReadyH.cons (o := ⟨_, _, _, _, _, _⟩) rfl (fun Kq hKq => ?_) AllReadyH.nil
  go_simp
  (have _t := hC49; go_at_call 14; refine (sameZ_b (hC49.out.z 7 rfl) (hC49.out.n 8 rfl) (Bd.floor ((Bq.ofInt E1.out E2.out HB0.out (Nat.le_refl _) (Nat.le_refl _)))) (by omega)).mono ?_; rintro e w50 ⟨rfl, hb⟩; have hC50 : Hid (St w w50 [(w1.heap.size, #[.slice a1 n1 c1, .bool m1], 28), (w1.heap.size + 1, #[.int .i64 s11, .slice a11 n11 c11], 31), (w2.heap.size, #[.slice a2 n2 c2, .bool m2], 28), (w2.heap.size + 1, #[.int .i64 s12, .slice a12 n12 c12], 31), (w36.heap.size, #[.slice a36 n36 c36, .bool m36, .slice d36 e36 f36], 48), (w39.heap.size, #[.slice a39 n39 c39, .bool m39, .slice d39 e39 f39], 48), (w40.heap.size, #[.int .i64 s40, .slice a40 n40 c40, .int .i64 t40, .slice d40 e40 f40], 54)] [fun V => Zd V (.slice a1 n1 c1) m1 (x1), fun V => Nz V s11 (.slice a11 n11 c11) (x1), fun V => Zd V (.slice a2 n2 c2) m2 (x2), fun V => Nz V s12 (.slice a12 n12 c12) (x2), fun V => Rd V (.slice a36 n36 c36) m36 (.slice d36 e36 f36) ((Rat.divInt K J)), fun V => Rd V (.slice a39 n39 c39) m39 (.slice d39 e39 f39) ((Rat.divInt x1 x2)), fun V => Nq V s40 (.slice a40 n40 c40) t40 (.slice d40 e40 f40) ((Rat.divInt x1 x2))]) := Lib.hid (St.pick ((hC49.out.call hb)) [0, 1, 2, 3, 4, 5, 6] rfl); clear hb; clear _t hC49)
  (try go_wp2_with fail)
  refine hKq.out _ _ ?_ (fun hH10 => ?_)
  · (try dsimp only)
    all_goals (with_reducible refine And.intro (?_ : World.cell? w50 _ = _) ?_; exact hC50.out.cell 5 0 rfl rfl; exact ⟨hC50.out.cell 5 1 rfl rfl, hC50.out.cell 5 2 rfl rfl, hC50.out.cell 6 0 rfl rfl, hC50.out.cell 6 1 rfl rfl, hC50.out.cell 6 2 rfl rfl, hC50.out.cell 6 3 rfl rfl, trivial⟩)
  clear hKq Kq hH9
  try simp only [Act.put, List.setIfInBounds_toArray, List.set_cons_zero, List.set_cons_succ]
  refine wpAnyH_take (i := 27) (oi := ⟨_, _, _, _, _, _⟩) (v := ?_) rfl (by kernel_rfl) (by kernel_rfl) (by kernel_rfl) (fun _ _ _ h => h) (Or.inl ⟨by rfl, ?_⟩) hH10 ?_
  rotate_left
  · intro wS hSw; (try dsimp only at hSw); go_simp; try with_reducible rfl
  try simp only [Act.put, List.setIfInBounds_toArray, List.set_cons_zero, List.set_cons_succ]
  refine wpAnyH_take (i := 28) (oi := ⟨_, _, _, _, _, _⟩) (v := ?_) rfl (by kernel_rfl) (by kernel_rfl) (by kernel_rfl) (fun _ _ _ h => h) (Or.inl ⟨by rfl, ?_⟩) hH10 ?_
  rotate_left
  · intro wS hSw; (try dsimp only at hSw); go_simp; try with_reducible rfl
  try simp only [Act.put, List.setIfInBounds_toArray, List.set_cons_zero, List.set_cons_succ]
  refine wpAnyH_take (i := 29) (oi := ⟨_, _, _, _, _, _⟩) (v := ?_) rfl (by kernel_rfl) (by kernel_rfl) (by kernel_rfl) (fun _ _ _ h => h) (Or.inl ⟨by rfl, ?_⟩) hH10 ?_
  rotate_left
  · intro wS hSw; (try dsimp only at hSw); go_simp; try with_reducible rfl
  try simp only [Act.put, List.setIfInBounds_toArray, List.set_cons_zero, List.set_cons_succ]
  refine wpAnyH_take (i := 31) (oi := ⟨_, _, _, _, _, _⟩) (v := ?_) rfl (by kernel_rfl) (by kernel_rfl) (by kernel_rfl) (fun _ _ _ h => h) (Or.inl ⟨by rfl, ?_⟩) hH10 ?_
  rotate_left
  · intro wS hSw; (try dsimp only at hSw); go_simp; try with_reducible rfl
  try simp only [Act.put, List.setIfInBounds_toArray, List.set_cons_zero, List.set_cons_succ]
  refine wpAnyH_ready (rs := [30]) (by kernel_rfl) (by simp) ?_
  refine AllReadyH.cons (o := ⟨_, _, _, _, _, _⟩) rfl (fun Kq hKq => ?_) AllReadyH.nil
  go_simp
  (have _t := hC50; go_at_call 62; refine (rceil_any _ _ _ _ _ _ _ _ _ (hC50.out.r 5 rfl) _ (Bq.ofInt E1.out E2.out HB0.out (Nat.le_refl _) (Nat.le_refl _)) (by omega)).mono ?_; rintro e w51 ⟨a51, n51, c51, m51, rfl, hz, hb⟩; have hC51 : Hid (St w w51 [(w1.heap.size, #[.slice a1 n1 c1, .bool m1], 28), (w1.heap.size + 1, #[.int .i64 s11, .slice a11 n11 c11], 31), (w2.heap.size, #[.slice a2 n2 c2, .bool m2], 28), (w2.heap.size + 1, #[.int .i64 s12, .slice a12 n12 c12], 31), (w36.heap.size, #[.slice a36 n36 c36, .bool m36, .slice d36 e36 f36], 48), (w39.heap.size, #[.slice a39 n39 c39, .bool m39, .slice d39 e39 f39], 48), (w40.heap.size, #[.int .i64 s40, .slice a40 n40 c40, .int .i64 t40, .slice d40 e40 f40], 54)] [fun V => Zd V (.slice a1 n1 c1) m1 (x1), fun V => Nz V s11 (.slice a11 n11 c11) (x1), fun V => Zd V (.slice a2 n2 c2) m2 (x2), fun V => Nz V s12 (.slice a12 n12 c12) (x2), fun V => Rd V (.slice a36 n36 c36) m36 (.slice d36 e36 f36) ((Rat.divInt K J)), fun V => Rd V (.slice a39 n39 c39) m39 (.slice d39 e39 f39) ((Rat.divInt x1 x2)), fun V => Nq V s40 (.slice a40 n40 c40) t40 (.slice d40 e40 f40) ((Rat.divInt x1 x2)), fun V => Zd V (.slice a51 n51 c51) m51 ((-((-(Rat.divInt x1 x2)).floor)))]) := Lib.hid (St.pick ((hC50.out.call hb).pz hz) [0, 1, 2, 3, 4, 5, 6, 7] rfl); clear hb hz; clear _t hC50)
  (try go_wp2_with fail)
  refine hKq.out _ _ ?_ (fun hH11 => ?_)
  · (try dsimp only)
    all_goals (with_reducible refine And.intro (?_ : World.cell? w51 _ = _) ?_; exact hC51.out.cell 5 0 rfl rfl; exact ⟨hC51.out.cell 5 1 rfl rfl, hC51.out.cell 5 2 rfl rfl, hC51.out.cell 6 0 rfl rfl, hC51.out.cell 6 1 rfl rfl, hC51.out.cell 6 2 rfl rfl, hC51.out.cell 6 3 rfl rfl, trivial⟩)
  clear hKq Kq hH10
  try simp only [Act.put, List.setIfInBounds_toArray, List.set_cons_zero, List.set_cons_succ]
  refine wpAnyH_ready (rs := [32]) (by kernel_rfl) (by simp) ?_
  refine AllReadyH.cons (o := ⟨_, _, _, _, _, _⟩) rfl (fun Kq hKq => ?_) AllReadyH.nil
  go_simp
  (have _t := hC51; go_at_call 63; refine (rceilN_any _ _ _ _ _ _ _ _ _ _ (hC51.out.rq 6 rfl) _ (Bq.ofInt E1.out E2.out HB0.out (Nat.le_refl _) (Nat.le_refl _)) (by omega)).mono ?_; rintro e w52 ⟨s52, a52, n52, c52, rfl, hz, hb⟩; have hC52 : Hid (St w w52 [(w1.heap.size, #[.slice a1 n1 c1, .bool m1], 28), (w1.heap.size + 1, #[.int .i64 s11, .slice a11 n11 c11], 31), (w2.heap.size, #[.slice a2 n2 c2, .bool m2], 28), (w2.heap.size + 1, #[.int .i64 s12, .slice a12 n12 c12], 31), (w36.heap.size, #[.slice a36 n36 c36, .bool m36, .slice d36 e36 f36], 48), (w39.heap.size, #[.slice a39 n39 c39, .bool m39, .slice d39 e39 f39], 48), (w40.heap.size, #[.int .i64 s40, .slice a40 n40 c40, .int .i64 t40, .slice d40 e40 f40], 54)] [fun V => Zd V (.slice a1 n1 c1) m1 (x1), fun V => Nz V s11 (.slice a11 n11 c11) (x1), fun V => Zd V (.slice a2 n2 c2) m2 (x2), fun V => Nz V s12 (.slice a12 n12 c12) (x2), fun V => Rd V (.slice a36 n36 c36) m36 (.slice d36 e36 f36) ((Rat.divInt K J)), fun V => Rd V (.slice a39 n39 c39) m39 (.slice d39 e39 f39) ((Rat.divInt x1 x2)), fun V => Nq V s40 (.slice a40 n40 c40) t40 (.slice d40 e40 f40) ((Rat.divInt x1 x2)), fun V => Zd V (.slice a51 n51 c51) m51 ((-((-(Rat.divInt x1 x2)).floor))), fun V => Nz V s52 (.slice a52 n52 c52) ((-((-(Rat.divInt x1 x2)).floor)))]) := Lib.hid (St.pick ((hC51.out.call hb).pn hz) [0, 1, 2, 3, 4, 5, 6, 7, 8] rfl); clear hb hz; clear _t hC51)
  (try go_wp2_with fail)
  refine hKq.out _ _ ?_ (fun hH12 => ?_)
  · (try dsimp only)
    all_goals (with_reducible refine And.intro (?_ : World.cell? w52 _ = _) ?_; exact hC52.out.cell 5 0 rfl rfl; exact ⟨hC52.out.cell 5 1 rfl rfl, hC52.out.cell 5 2 rfl rfl, hC52.out.cell 6 0 rfl rfl, hC52.out.cell 6 1 rfl rfl, hC52.out.cell 6 2 rfl rfl, hC52.out.cell 6 3 rfl rfl, trivial⟩)
  clear hKq Kq hH11
  try simp only [Act.put, List.setIfInBounds_toArray, List.set_cons_zero, List.set_cons_succ]
  refine wpAnyH_ready (rs := [33]) (by kernel_rfl) (by simp) ?_
  refine AllReadyH.cons (o := ⟨_, _, _, _, _, _⟩) rfl (fun Kq hKq => ?_) AllReadyH.nil
  go_simp
  (have _t := hC52; go_at_call 14; refine (sameZ_b (hC52.out.z 7 rfl) (hC52.out.n 8 rfl) (Bd.floor ((Bq.ofInt E1.out E2.out HB0.out (Nat.le_refl _) (Nat.le_refl _))).neg).neg (by omega)).mono ?_; rintro e w53 ⟨rfl, hb⟩; have hC53 : Hid (St w w53 [(w1.heap.size, #[.slice a1 n1 c1, .bool m1], 28), (w1.heap.size + 1, #[.int .i64 s11, .slice a11 n11 c11], 31), (w2.heap.size, #[.slice a2 n2 c2, .bool m2], 28), (w2.heap.size + 1, #[.int .i64 s12, .slice a12 n12 c12], 31), (w36.heap.size, #[.slice a36 n36 c36, .bool m36, .slice d36 e36 f36], 48), (w39.heap.size, #[.slice a39 n39 c39, .bool m39, .slice d39 e39 f39], 48), (w40.heap.size, #[.int .i64 s40, .slice a40 n40 c40, .int .i64 t40, .slice d40 e40 f40], 54)] [fun V => Zd V (.slice a1 n1 c1) m1 (x1), fun V => Nz V s11 (.slice a11 n11 c11) (x1), fun V => Zd V (.slice a2 n2 c2) m2 (x2), fun V => Nz V s12 (.slice a12 n12 c12) (x2), fun V => Rd V (.slice a36 n36 c36) m36 (.slice d36 e36 f36) ((Rat.divInt K J)), fun V => Rd V (.slice a39 n39 c39) m39 (.slice d39 e39 f39) ((Rat.divInt x1 x2)), fun V => Nq V s40 (.slice a40 n40 c40) t40 (.slice d40 e40 f40) ((Rat.divInt x1 x2))]) := Lib.hid (St.pick ((hC52.out.call hb)) [0, 1, 2, 3, 4, 5, 6] rfl); clear hb; clear _t hC52)
  (try go_wp2_with fail)
  refine hKq.out _ _ ?_ (fun hH13 => ?_)
  · (try dsimp only)
    all_goals (with_reducible refine And.intro (?_ : World.cell? w53 _ = _) ?_; exact hC53.out.cell 5 0 rfl rfl; exact ⟨hC53.out.cell 5 1 rfl rfl, hC53.out.cell 5 2 rfl rfl, hC53.out.cell 6 0 rfl rfl, hC53.out.cell 6 1 rfl rfl, hC53.out.cell 6 2 rfl rfl, hC53.out.cell 6 3 rfl rfl, trivial⟩)
  clear hKq Kq hH12
  try simp only [Act.put, List.setIfInBounds_toArray, List.set_cons_zero, List.set_cons_succ]
  refine wpAnyH_take (i := 34) (oi := ⟨_, _, _, _, _, _⟩) (v := ?_) rfl (by kernel_rfl) (by kernel_rfl) (by kernel_rfl) (fun _ _ _ h => h) (Or.inl ⟨by rfl, ?_⟩) hH13 ?_
  rotate_left
  · intro wS hSw; (try dsimp only at hSw); go_simp; try with_reducible rfl
  try simp only [Act.put, List.setIfInBounds_toArray, List.set_cons_zero, List.set_cons_succ]
  refine wpAnyH_take (i := 35) (oi := ⟨_, _, _, _, _, _⟩) (v := ?_) rfl (by kernel_rfl) (by kernel_rfl) (by kernel_rfl) (fun _ _ _ h => h) (Or.inl ⟨by rfl, ?_⟩) hH13 ?_
  rotate_left
  · intro wS hSw; (try dsimp only at hSw); go_simp; try with_reducible rfl
  try simp only [Act.put, List.setIfInBounds_toArray, List.set_cons_zero, List.set_cons_succ]
  refine wpAnyH_ready (rs := [36]) (by kernel_rfl) (by simp) ?_
  refine AllReadyH.cons (o := ⟨_, _, _, _, _, _⟩) rfl (fun Kq hKq => ?_) AllReadyH.nil
  go_simp
  (have _t := hC53; go_at_call 19; refine (awake_any _).mono ?_; rintro e w54 ⟨rfl, hb⟩; have hC54 : Hid (St w w54 [(w1.heap.size, #[.slice a1 n1 c1, .bool m1], 28), (w1.heap.size + 1, #[.int .i64 s11, .slice a11 n11 c11], 31), (w2.heap.size, #[.slice a2 n2 c2, .bool m2], 28), (w2.heap.size + 1, #[.int .i64 s12, .slice a12 n12 c12], 31), (w36.heap.size, #[.slice a36 n36 c36, .bool m36, .slice d36 e36 f36], 48), (w39.heap.size, #[.slice a39 n39 c39, .bool m39, .slice d39 e39 f39], 48), (w40.heap.size, #[.int .i64 s40, .slice a40 n40 c40, .int .i64 t40, .slice d40 e40 f40], 54)] [fun V => Zd V (.slice a1 n1 c1) m1 (x1), fun V => Nz V s11 (.slice a11 n11 c11) (x1), fun V => Zd V (.slice a2 n2 c2) m2 (x2), fun V => Nz V s12 (.slice a12 n12 c12) (x2), fun V => Rd V (.slice a36 n36 c36) m36 (.slice d36 e36 f36) ((Rat.divInt K J)), fun V => Rd V (.slice a39 n39 c39) m39 (.slice d39 e39 f39) ((Rat.divInt x1 x2)), fun V => Nq V s40 (.slice a40 n40 c40) t40 (.slice d40 e40 f40) ((Rat.divInt x1 x2))]) := Lib.hid (St.pick ((hC53.out.call hb)) [0, 1, 2, 3, 4, 5, 6] rfl); clear hb; clear _t hC53)
  (try go_wp2_with fail)
  refine hKq.out _ _ ?_ (fun hH14 => ?_)
  · (try dsimp only)
    all_goals (with_reducible refine And.intro (?_ : World.cell? w54 _ = _) ?_; exact hC54.out.cell 5 0 rfl rfl; exact ⟨hC54.out.cell 5 1 rfl rfl, hC54.out.cell 5 2 rfl rfl, hC54.out.cell 6 0 rfl rfl, hC54.out.cell 6 1 rfl rfl, hC54.out.cell 6 2 rfl rfl, hC54.out.cell 6 3 rfl rfl, trivial⟩)
  clear hKq Kq hH13
  try simp only [Act.put, List.setIfInBounds_toArray, List.set_cons_zero, List.set_cons_succ]
  refine wpAnyH_take (i := 37) (oi := ⟨_, _, _, _, _, _⟩) (v := ?_) rfl (by kernel_rfl) (by kernel_rfl) (by kernel_rfl) (fun _ _ _ h => h) (Or.inl ⟨by rfl, ?_⟩) hH14 ?_
  rotate_left
  · intro wS hSw; (try dsimp only at hSw); go_simp; try with_reducible rfl
  try simp only [Act.put, List.setIfInBounds_toArray, List.set_cons_zero, List.set_cons_succ]
  refine wpAnyH_ready (rs := [38]) (by kernel_rfl) (by simp) ?_
  refine AllReadyH.cons (o := ⟨_, _, _, _, _, _⟩) rfl (fun Kq hKq => ?_) AllReadyH.nil
  go_simp
  refine hKq.out _ _ ?_ (fun hH15 => ?_)
  · (try dsimp only)
    all_goals (with_reducible refine And.intro (?_ : World.cell? w54 _ = _) ?_; exact hC54.out.cell 5 0 rfl rfl; exact ⟨hC54.out.cell 5 1 rfl rfl, hC54.out.cell 5 2 rfl rfl, hC54.out.cell 6 0 rfl rfl, hC54.out.cell 6 1 rfl rfl, hC54.out.cell 6 2 rfl rfl, hC54.out.cell 6 3 rfl rfl, trivial⟩)
  clear hKq Kq hH14
  try simp only [Act.put, List.setIfInBounds_toArray, List.set_cons_zero, List.set_cons_succ]
  refine wpAnyH_done (by kernel_rfl) ?_ _
  go_wp2_with fail
  go_wp2
  go_ret
  exact ⟨rfl, hC54.out.be⟩

theorem wholeRatios_walk (A1 B1 C1 P1 : Int) (A2 B2 C2 P2 : Int) (K J : Int) (w : World) (hA1 : -9223372036854775808 ≤ A1 ∧ A1 < 9223372036854775808) (hB1 : -9223372036854775808 ≤ B1 ∧ B1 < 9223372036854775808) (hC1 : -9223372036854775808 ≤ C1 ∧ C1 < 9223372036854775808) (hP1 : 0 ≤ P1 ∧ P1 < 256) (hA2 : -9223372036854775808 ≤ A2 ∧ A2 < 9223372036854775808) (hB2 : -9223372036854775808 ≤ B2 ∧ B2 < 9223372036854775808) (hC2 : -9223372036854775808 ≤ C2 ∧ C2 < 9223372036854775808) (hP2 : 0 ≤ P2 ∧ P2 < 256) (hK : -9223372036854775808 ≤ K ∧ K < 9223372036854775808) (hJ : -9223372036854775808 ≤ J ∧ J < 9223372036854775808) :
    Calls Tryz.prog 7 #[.agg #[.int .i64 A1, .int .i64 B1, .int .i64 C1, .int .u8 P1], .agg #[.int .i64 A2, .int .i64 B2, .int .i64 C2, .int .u8 P2], .int .i64 K, .int .i64 J] w (fun e w' => e = .returned (.bool true) ∧ Below w.heap.size w w') := by
  by_cases hb : big A2 B2 C2 P2 = 0 <;> by_cases hj : J = 0
  · exact ratios_zz A1 B1 C1 P1 A2 B2 C2 P2 K J w hA1 hB1 hC1 hP1 hA2 hB2 hC2 hP2 hK hJ hb hj
  · exact ratios_nz A1 B1 C1 P1 A2 B2 C2 P2 K J w hA1 hB1 hC1 hP1 hA2 hB2 hC2 hP2 hK hJ hb hj
  · exact ratios_zn A1 B1 C1 P1 A2 B2 C2 P2 K J w hA1 hB1 hC1 hP1 hA2 hB2 hC2 hP2 hK hJ hb hj
  · exact ratios_nn A1 B1 C1 P1 A2 B2 C2 P2 K J w hA1 hB1 hC1 hP1 hA2 hB2 hC2 hP2 hK hJ hb hj

end Go.Proofs.YtmfplelodnoicaaGreatDoor

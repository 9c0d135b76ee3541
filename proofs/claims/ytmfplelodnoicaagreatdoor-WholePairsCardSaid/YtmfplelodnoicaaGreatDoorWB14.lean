/- the law WholePairs: its walk -/
import Derived.Test.YtmfplelodnoicaaGreatDoorWB6
import Derived.Test.YtmfplelodnoicaaGreatDoorWBZ
import Derived.Test.YtmfplelodnoicaaGreatDoorWB20
namespace Go.Proofs.YtmfplelodnoicaaGreatDoor
open Go.RowKit Dig

set_option maxRecDepth 100000 in
set_option maxHeartbeats 16000000 in
theorem wholePairs_walk (N1 D1 : Int) (N2 D2 : Int) (N3 D3 : Int) (N4 D4 : Int) (N5 D5 : Int) (w : World) (hN1 : -9223372036854775808 ≤ N1 ∧ N1 < 9223372036854775808) (hD1 : -9223372036854775808 ≤ D1 ∧ D1 < 9223372036854775808) (hN2 : -9223372036854775808 ≤ N2 ∧ N2 < 9223372036854775808) (hD2 : -9223372036854775808 ≤ D2 ∧ D2 < 9223372036854775808) (hN3 : -9223372036854775808 ≤ N3 ∧ N3 < 9223372036854775808) (hD3 : -9223372036854775808 ≤ D3 ∧ D3 < 9223372036854775808) (hN4 : -9223372036854775808 ≤ N4 ∧ N4 < 9223372036854775808) (hD4 : -9223372036854775808 ≤ D4 ∧ D4 < 9223372036854775808) (hN5 : -9223372036854775808 ≤ N5 ∧ N5 < 9223372036854775808) (hD5 : -9223372036854775808 ≤ D5 ∧ D5 < 9223372036854775808) :
    Calls Tryz.prog 11 #[.agg #[.int .i64 N1, .int .i64 D1], .agg #[.int .i64 N2, .int .i64 D2], .agg #[.int .i64 N3, .int .i64 D3], .agg #[.int .i64 N4, .int .i64 D4], .agg #[.int .i64 N5, .int .i64 D5]] w (fun e w' => e = .returned (.bool true) ∧ Below w.heap.size w w') := by
  obtain ⟨x1, h1, b1⟩ : ∃ x : Rat, num N1 D1 = x ∧ Bq 64 x := ⟨_, rfl, num_bd hN1 hD1⟩
  have H1 := Lib.hid h1
  have E1 := Lib.hid b1
  clear h1 b1
  have HN1 := Lib.hid hN1
  clear hN1
  have HD1 := Lib.hid hD1
  clear hD1
  obtain ⟨x2, h1, b1⟩ : ∃ x : Rat, num N2 D2 = x ∧ Bq 64 x := ⟨_, rfl, num_bd hN2 hD2⟩
  have H2 := Lib.hid h1
  have E2 := Lib.hid b1
  clear h1 b1
  have HN2 := Lib.hid hN2
  clear hN2
  have HD2 := Lib.hid hD2
  clear hD2
  obtain ⟨x3, h1, b1⟩ : ∃ x : Rat, num N3 D3 = x ∧ Bq 64 x := ⟨_, rfl, num_bd hN3 hD3⟩
  have H3 := Lib.hid h1
  have E3 := Lib.hid b1
  clear h1 b1
  have HN3 := Lib.hid hN3
  clear hN3
  have HD3 := Lib.hid hD3
  clear hD3
  obtain ⟨x4, h1, b1⟩ : ∃ x : Rat, num N4 D4 = x ∧ Bq 64 x := ⟨_, rfl, num_bd hN4 hD4⟩
  have H4 := Lib.hid h1
  have E4 := Lib.hid b1
  clear h1 b1
  have HN4 := Lib.hid hN4
  clear hN4
  have HD4 := Lib.hid hD4
  clear hD4
  obtain ⟨x5, h1, b1⟩ : ∃ x : Rat, num N5 D5 = x ∧ Bq 64 x := ⟨_, rfl, num_bd hN5 hD5⟩
  have H5 := Lib.hid h1
  have E5 := Lib.hid b1
  clear h1 b1
  have HN5 := Lib.hid hN5
  clear hN5
  have HD5 := Lib.hid hD5
  clear hD5
  have hC := Lib.hid ((((((St.enter w).al (w.heap.size) #[.int .i64 N1, .int .i64 D1] 60 rfl rfl).al (w.heap.size + 1) #[.int .i64 N2, .int .i64 D2] 60 (by simp) rfl).al (w.heap.size + 2) #[.int .i64 N3, .int .i64 D3] 60 (by simp) rfl).al (w.heap.size + 3) #[.int .i64 N4, .int .i64 D4] 60 (by simp) rfl).al (w.heap.size + 4) #[.int .i64 N5, .int .i64 D5] 60 (by simp) rfl)
  obtain ⟨u, hu⟩ : ∃ u : Bool, sameP (x1, x2) (x3, x4) = u := ⟨_, rfl⟩
  have HU := Lib.hid hu
  have du : (u == u) = true := by simp
  obtain ⟨T, hT⟩ : ∃ T : ByteArray, T = ⟨(vtext (x1, x2)).toArray⟩ := ⟨_, rfl⟩
  have hTT := str_same T
  have HT := Lib.hid (show vtext (x1, x2) = T.data.toList from by rw [hT])
  clear hu hT
  go_enter Tryz.func11, Tryz.ntmps11
  have fa10 := hC.out.cell 0 0 rfl rfl
  have fa11 := hC.out.cell 0 1 rfl rfl
  have fa20 := hC.out.cell 1 0 rfl rfl
  have fa21 := hC.out.cell 1 1 rfl rfl
  go_wp2_with fail
  refine (pair_any N1 D1 N2 D2 _ HN1.out HD1.out HN2.out HD2.out).mono ?_
  rintro e wa ⟨a21, n21, c21, m21, d21, e21, f21, u21, x21, y21, p21, t21, o21, l21, s22, a22, n22, c22, t22, d22, e22, f22, p22, u22, x22, y22, g22, i22, o22, l22, rfl, hz, hn, hb⟩
  rw [H1.out, H2.out] at hz hn
  have hwa := Lib.hid ((((hC.out.call hb).pv hz).pp hn |>.al wa.heap.size #[.slice a21 n21 c21, .bool m21, .slice d21 e21 f21, .slice u21 x21 y21, .bool p21, .slice t21 o21 l21] 103 rfl rfl).al (wa.heap.size + 1) #[.int .i64 s22, .slice a22 n22 c22, .int .i64 t22, .slice d22 e22 f22, .int .i64 p22, .slice u22 x22 y22, .int .i64 g22, .slice i22 o22 l22] 105 (by simp) rfl)
  clear hz hn hb hC fa10 fa11 fa20 fa21
  have fa30 := hwa.out.cell 2 0 rfl rfl
  have fa31 := hwa.out.cell 2 1 rfl rfl
  have fa40 := hwa.out.cell 3 0 rfl rfl
  have fa41 := hwa.out.cell 3 1 rfl rfl
  go_wp2_with fail
  refine (pair_any N3 D3 N4 D4 _ HN3.out HD3.out HN4.out HD4.out).mono ?_
  rintro e wb ⟨a23, n23, c23, m23, d23, e23, f23, u23, x23, y23, p23, t23, o23, l23, s24, a24, n24, c24, t24, d24, e24, f24, p24, u24, x24, y24, g24, i24, o24, l24, rfl, hz, hn, hb⟩
  rw [H3.out, H4.out] at hz hn
  have hwb := Lib.hid ((((hwa.out.call hb).pv hz).pp hn |>.al wb.heap.size #[.slice a23 n23 c23, .bool m23, .slice d23 e23 f23, .slice u23 x23 y23, .bool p23, .slice t23 o23 l23] 103 rfl rfl).al (wb.heap.size + 1) #[.int .i64 s24, .slice a24 n24 c24, .int .i64 t24, .slice d24 e24 f24, .int .i64 p24, .slice u24 x24 y24, .int .i64 g24, .slice i24 o24 l24] 105 (by simp) rfl)
  clear hz hn hb hwa fa30 fa31 fa40 fa41
  have y0 := hwb.out.cell 4 0 rfl rfl
  have y1 := hwb.out.cell 4 1 rfl rfl
  go_wp2_with fail
  refine (both_any N5 D5 _ HN5.out HD5.out).mono ?_
  rintro e wc ⟨a25, n25, c25, m25, d25, e25, f25, s26, a26, n26, c26, t26, d26, e26, f26, rfl, hz, hn, hb⟩
  rw [H5.out] at hz hn
  have hwc := Lib.hid ((((hwb.out.call hb).pr hz).pq hn |>.al wc.heap.size #[.slice a25 n25 c25, .bool m25, .slice d25 e25 f25] 48 rfl rfl).al (wc.heap.size + 1) #[.int .i64 s26, .slice a26 n26 c26, .int .i64 t26, .slice d26 e26 f26] 54 (by simp) rfl)
  clear hz hn hb hwb y0 y1
  go_wp2_with fail
  refine wp_gen ((hwc.out.pick [0, 1, 2, 3, 4, 5] (rs' := [fun V => Vd V (.slice a21 n21 c21) m21 (.slice d21 e21 f21) (.slice u21 x21 y21) p21 (.slice t21 o21 l21) ((x1, x2)), fun V => Nv V s22 (.slice a22 n22 c22) t22 (.slice d22 e22 f22) p22 (.slice u22 x22 y22) g22 (.slice i22 o22 l22) ((x1, x2)), fun V => Vd V (.slice a23 n23 c23) m23 (.slice d23 e23 f23) (.slice u23 x23 y23) p23 (.slice t23 o23 l23) ((x3, x4)), fun V => Nv V s24 (.slice a24 n24 c24) t24 (.slice d24 e24 f24) p24 (.slice u24 x24 y24) g24 (.slice i24 o24 l24) ((x3, x4)), fun V => Rd V (.slice a25 n25 c25) m25 (.slice d25 e25 f25) (x5), fun V => Nq V s26 (.slice a26 n26 c26) t26 (.slice d26 e26 f26) (x5)]) rfl).bpick [5, 6, 7, 8, 9, 10] (by decide) (bs' := [(wa.heap.size, #[.slice a21 n21 c21, .bool m21, .slice d21 e21 f21, .slice u21 x21 y21, .bool p21, .slice t21 o21 l21], 103), (wa.heap.size + 1, #[.int .i64 s22, .slice a22 n22 c22, .int .i64 t22, .slice d22 e22 f22, .int .i64 p22, .slice u22 x22 y22, .int .i64 g22, .slice i22 o22 l22], 105), (wb.heap.size, #[.slice a23 n23 c23, .bool m23, .slice d23 e23 f23, .slice u23 x23 y23, .bool p23, .slice t23 o23 l23], 103), (wb.heap.size + 1, #[.int .i64 s24, .slice a24 n24 c24, .int .i64 t24, .slice d24 e24 f24, .int .i64 p24, .slice u24 x24 y24, .int .i64 g24, .slice i24 o24 l24], 105), (wc.heap.size, #[.slice a25 n25 c25, .bool m25, .slice d25 e25 f25], 48), (wc.heap.size + 1, #[.int .i64 s26, .slice a26 n26 c26, .int .i64 t26, .slice d26 e26 f26], 54)]) rfl) ?_
  intro W hc
  clear hwc
  have hC0 := Lib.hid hc
  clear hc
  refine wp_region_held_drew (S := (fun w' => w'.cell? ⟨wa.heap.size, 0, none⟩ = some (.slice a21 n21 c21) ∧ w'.cell? ⟨wa.heap.size, 1, none⟩ = some (.bool m21) ∧ w'.cell? ⟨wa.heap.size, 2, none⟩ = some (.slice d21 e21 f21) ∧ w'.cell? ⟨wa.heap.size, 3, none⟩ = some (.slice u21 x21 y21) ∧ w'.cell? ⟨wa.heap.size, 4, none⟩ = some (.bool p21) ∧ w'.cell? ⟨wa.heap.size, 5, none⟩ = some (.slice t21 o21 l21) ∧ w'.cell? ⟨wa.heap.size + 1, 0, none⟩ = some (.int .i64 s22) ∧ w'.cell? ⟨wa.heap.size + 1, 1, none⟩ = some (.slice a22 n22 c22) ∧ w'.cell? ⟨wa.heap.size + 1, 2, none⟩ = some (.int .i64 t22) ∧ w'.cell? ⟨wa.heap.size + 1, 3, none⟩ = some (.slice d22 e22 f22) ∧ w'.cell? ⟨wa.heap.size + 1, 4, none⟩ = some (.int .i64 p22) ∧ w'.cell? ⟨wa.heap.size + 1, 5, none⟩ = some (.slice u22 x22 y22) ∧ w'.cell? ⟨wa.heap.size + 1, 6, none⟩ = some (.int .i64 g22) ∧ w'.cell? ⟨wa.heap.size + 1, 7, none⟩ = some (.slice i22 o22 l22) ∧ w'.cell? ⟨wb.heap.size, 0, none⟩ = some (.slice a23 n23 c23) ∧ w'.cell? ⟨wb.heap.size, 1, none⟩ = some (.bool m23) ∧ w'.cell? ⟨wb.heap.size, 2, none⟩ = some (.slice d23 e23 f23) ∧ w'.cell? ⟨wb.heap.size, 3, none⟩ = some (.slice u23 x23 y23) ∧ w'.cell? ⟨wb.heap.size, 4, none⟩ = some (.bool p23) ∧ w'.cell? ⟨wb.heap.size, 5, none⟩ = some (.slice t23 o23 l23) ∧ w'.cell? ⟨wb.heap.size + 1, 0, none⟩ = some (.int .i64 s24) ∧ w'.cell? ⟨wb.heap.size + 1, 1, none⟩ = some (.slice a24 n24 c24) ∧ w'.cell? ⟨wb.heap.size + 1, 2, none⟩ = some (.int .i64 t24) ∧ w'.cell? ⟨wb.heap.size + 1, 3, none⟩ = some (.slice d24 e24 f24) ∧ w'.cell? ⟨wb.heap.size + 1, 4, none⟩ = some (.int .i64 p24) ∧ w'.cell? ⟨wb.heap.size + 1, 5, none⟩ = some (.slice u24 x24 y24) ∧ w'.cell? ⟨wb.heap.size + 1, 6, none⟩ = some (.int .i64 g24) ∧ w'.cell? ⟨wb.heap.size + 1, 7, none⟩ = some (.slice i24 o24 l24) ∧ w'.cell? ⟨wc.heap.size, 0, none⟩ = some (.slice a25 n25 c25) ∧ w'.cell? ⟨wc.heap.size, 1, none⟩ = some (.bool m25) ∧ w'.cell? ⟨wc.heap.size, 2, none⟩ = some (.slice d25 e25 f25) ∧ w'.cell? ⟨wc.heap.size + 1, 0, none⟩ = some (.int .i64 s26) ∧ w'.cell? ⟨wc.heap.size + 1, 1, none⟩ = some (.slice a26 n26 c26) ∧ w'.cell? ⟨wc.heap.size + 1, 2, none⟩ = some (.int .i64 t26) ∧ w'.cell? ⟨wc.heap.size + 1, 3, none⟩ = some (.slice d26 e26 f26) ∧ True)) (by kernel_rfl) ?_ (fun hH0 => ?_)
  · (try dsimp only)
    all_goals (with_reducible refine And.intro (?_ : World.cell? (World.drew W) _ = _) ?_; exact hC0.out.drew.cell 0 0 rfl rfl; exact ⟨hC0.out.drew.cell 0 1 rfl rfl, hC0.out.drew.cell 0 2 rfl rfl, hC0.out.drew.cell 0 3 rfl rfl, hC0.out.drew.cell 0 4 rfl rfl, hC0.out.drew.cell 0 5 rfl rfl, hC0.out.drew.cell 1 0 rfl rfl, hC0.out.drew.cell 1 1 rfl rfl, hC0.out.drew.cell 1 2 rfl rfl, hC0.out.drew.cell 1 3 rfl rfl, hC0.out.drew.cell 1 4 rfl rfl, hC0.out.drew.cell 1 5 rfl rfl, hC0.out.drew.cell 1 6 rfl rfl, hC0.out.drew.cell 1 7 rfl rfl, hC0.out.drew.cell 2 0 rfl rfl, hC0.out.drew.cell 2 1 rfl rfl, hC0.out.drew.cell 2 2 rfl rfl, hC0.out.drew.cell 2 3 rfl rfl, hC0.out.drew.cell 2 4 rfl rfl, hC0.out.drew.cell 2 5 rfl rfl, hC0.out.drew.cell 3 0 rfl rfl, hC0.out.drew.cell 3 1 rfl rfl, hC0.out.drew.cell 3 2 rfl rfl, hC0.out.drew.cell 3 3 rfl rfl, hC0.out.drew.cell 3 4 rfl rfl, hC0.out.drew.cell 3 5 rfl rfl, hC0.out.drew.cell 3 6 rfl rfl, hC0.out.drew.cell 3 7 rfl rfl, hC0.out.drew.cell 4 0 rfl rfl, hC0.out.drew.cell 4 1 rfl rfl, hC0.out.drew.cell 4 2 rfl rfl, hC0.out.drew.cell 5 0 rfl rfl, hC0.out.drew.cell 5 1 rfl rfl, hC0.out.drew.cell 5 2 rfl rfl, hC0.out.drew.cell 5 3 rfl rfl, trivial⟩)
  refine wpAnyH_take (i := 0) (oi := ⟨_, _, _, _, _, _⟩) (v := ?_) rfl (by kernel_rfl) (by kernel_rfl) (by kernel_rfl) (fun _ _ _ h => h) (Or.inl ⟨by rfl, ?_⟩) hH0 ?_
  rotate_left
  · intro wS hSw; (try dsimp only at hSw); go_simp; try with_reducible rfl
  try simp only [Act.put, List.setIfInBounds_toArray, List.set_cons_zero, List.set_cons_succ]
  refine wpAnyH_take (i := 1) (oi := ⟨_, _, _, _, _, _⟩) (v := ?_) rfl (by kernel_rfl) (by kernel_rfl) (by kernel_rfl) (fun _ _ _ h => h) (Or.inl ⟨by rfl, ?_⟩) hH0 ?_
  rotate_left
  · intro wS hSw; (try dsimp only at hSw); go_simp; try with_reducible rfl
  try simp only [Act.put, List.setIfInBounds_toArray, List.set_cons_zero, List.set_cons_succ]
  refine wpAnyH_take (i := 3) (oi := ⟨_, _, _, _, _, _⟩) (v := ?_) rfl (by kernel_rfl) (by kernel_rfl) (by kernel_rfl) (fun _ _ _ h => h) (Or.inl ⟨by rfl, ?_⟩) hH0 ?_
  rotate_left
  · intro wS hSw; (try dsimp only at hSw); go_simp; try with_reducible rfl
  try simp only [Act.put, List.setIfInBounds_toArray, List.set_cons_zero, List.set_cons_succ]
  refine wpAnyH_take (i := 4) (oi := ⟨_, _, _, _, _, _⟩) (v := ?_) rfl (by kernel_rfl) (by kernel_rfl) (by kernel_rfl) (fun _ _ _ h => h) (Or.inl ⟨by rfl, ?_⟩) hH0 ?_
  rotate_left
  · intro wS hSw; (try dsimp only at hSw); go_simp; try with_reducible rfl
  try simp only [Act.put, List.setIfInBounds_toArray, List.set_cons_zero, List.set_cons_succ]
  refine wpAnyH_ready (rs := [2]) (by kernel_rfl) (by simp) ?_
  refine AllReadyH.cons (o := ⟨_, _, _, _, _, _⟩) rfl (fun Kq hKq => ?_) AllReadyH.nil
  go_simp
  (have _t := hC0; go_at_call 86; refine (vadd_b (hC0.out.drew.v 0 rfl) (hC0.out.drew.v 2 rfl) (Bv.of E1.out E2.out) (Bv.of E3.out E4.out) (by omega) (by omega)).mono ?_; rintro e w30 ⟨a30, n30, c30, m30, d30, e30, f30, u30, x30, y30, p30, t30, o30, l30, rfl, hz, hb⟩; have hC30 : Hid (St w w30 [(wa.heap.size, #[.slice a21 n21 c21, .bool m21, .slice d21 e21 f21, .slice u21 x21 y21, .bool p21, .slice t21 o21 l21], 103), (wa.heap.size + 1, #[.int .i64 s22, .slice a22 n22 c22, .int .i64 t22, .slice d22 e22 f22, .int .i64 p22, .slice u22 x22 y22, .int .i64 g22, .slice i22 o22 l22], 105), (wb.heap.size, #[.slice a23 n23 c23, .bool m23, .slice d23 e23 f23, .slice u23 x23 y23, .bool p23, .slice t23 o23 l23], 103), (wb.heap.size + 1, #[.int .i64 s24, .slice a24 n24 c24, .int .i64 t24, .slice d24 e24 f24, .int .i64 p24, .slice u24 x24 y24, .int .i64 g24, .slice i24 o24 l24], 105), (wc.heap.size, #[.slice a25 n25 c25, .bool m25, .slice d25 e25 f25], 48), (wc.heap.size + 1, #[.int .i64 s26, .slice a26 n26 c26, .int .i64 t26, .slice d26 e26 f26], 54)] [fun V => Vd V (.slice a21 n21 c21) m21 (.slice d21 e21 f21) (.slice u21 x21 y21) p21 (.slice t21 o21 l21) ((x1, x2)), fun V => Nv V s22 (.slice a22 n22 c22) t22 (.slice d22 e22 f22) p22 (.slice u22 x22 y22) g22 (.slice i22 o22 l22) ((x1, x2)), fun V => Vd V (.slice a23 n23 c23) m23 (.slice d23 e23 f23) (.slice u23 x23 y23) p23 (.slice t23 o23 l23) ((x3, x4)), fun V => Nv V s24 (.slice a24 n24 c24) t24 (.slice d24 e24 f24) p24 (.slice u24 x24 y24) g24 (.slice i24 o24 l24) ((x3, x4)), fun V => Rd V (.slice a25 n25 c25) m25 (.slice d25 e25 f25) (x5), fun V => Nq V s26 (.slice a26 n26 c26) t26 (.slice d26 e26 f26) (x5), fun V => Vd V (.slice a30 n30 c30) m30 (.slice d30 e30 f30) (.slice u30 x30 y30) p30 (.slice t30 o30 l30) ((((x1, x2)).1 + ((x3, x4)).1, ((x1, x2)).2 + ((x3, x4)).2))]) := Lib.hid (St.pick ((hC0.out.drew.call hb).pv hz) [0, 1, 2, 3, 4, 5, 6] rfl); clear hb hz; clear _t hC0)
  (try go_wp2_with fail)
  refine hKq.out _ _ ?_ (fun hH1 => ?_)
  · (try dsimp only)
    all_goals (with_reducible refine And.intro (?_ : World.cell? w30 _ = _) ?_; exact hC30.out.cell 0 0 rfl rfl; exact ⟨hC30.out.cell 0 1 rfl rfl, hC30.out.cell 0 2 rfl rfl, hC30.out.cell 0 3 rfl rfl, hC30.out.cell 0 4 rfl rfl, hC30.out.cell 0 5 rfl rfl, hC30.out.cell 1 0 rfl rfl, hC30.out.cell 1 1 rfl rfl, hC30.out.cell 1 2 rfl rfl, hC30.out.cell 1 3 rfl rfl, hC30.out.cell 1 4 rfl rfl, hC30.out.cell 1 5 rfl rfl, hC30.out.cell 1 6 rfl rfl, hC30.out.cell 1 7 rfl rfl, hC30.out.cell 2 0 rfl rfl, hC30.out.cell 2 1 rfl rfl, hC30.out.cell 2 2 rfl rfl, hC30.out.cell 2 3 rfl rfl, hC30.out.cell 2 4 rfl rfl, hC30.out.cell 2 5 rfl rfl, hC30.out.cell 3 0 rfl rfl, hC30.out.cell 3 1 rfl rfl, hC30.out.cell 3 2 rfl rfl, hC30.out.cell 3 3 rfl rfl, hC30.out.cell 3 4 rfl rfl, hC30.out.cell 3 5 rfl rfl, hC30.out.cell 3 6 rfl rfl, hC30.out.cell 3 7 rfl rfl, hC30.out.cell 4 0 rfl rfl, hC30.out.cell 4 1 rfl rfl, hC30.out.cell 4 2 rfl rfl, hC30.out.cell 5 0 rfl rfl, hC30.out.cell 5 1 rfl rfl, hC30.out.cell 5 2 rfl rfl, hC30.out.cell 5 3 rfl rfl, trivial⟩)
  clear hKq Kq hH0
  try simp only [Act.put, List.setIfInBounds_toArray, List.set_cons_zero, List.set_cons_succ]
  refine wpAnyH_ready (rs := [5]) (by kernel_rfl) (by simp) ?_
  refine AllReadyH.cons (o := ⟨_, _, _, _, _, _⟩) rfl (fun Kq hKq => ?_) AllReadyH.nil
  go_simp
  (have _t := hC30; go_at_call 87; refine (vaddN_b (hC30.out.vp 1 rfl) (hC30.out.vp 3 rfl) (Bv.of E1.out E2.out) (Bv.of E3.out E4.out) (by omega) (by omega)).mono ?_; rintro e w31 ⟨s31, a31, n31, c31, t31, d31, e31, f31, p31, u31, x31, y31, g31, i31, o31, l31, rfl, hz, hb⟩; have hC31 : Hid (St w w31 [(wa.heap.size, #[.slice a21 n21 c21, .bool m21, .slice d21 e21 f21, .slice u21 x21 y21, .bool p21, .slice t21 o21 l21], 103), (wa.heap.size + 1, #[.int .i64 s22, .slice a22 n22 c22, .int .i64 t22, .slice d22 e22 f22, .int .i64 p22, .slice u22 x22 y22, .int .i64 g22, .slice i22 o22 l22], 105), (wb.heap.size, #[.slice a23 n23 c23, .bool m23, .slice d23 e23 f23, .slice u23 x23 y23, .bool p23, .slice t23 o23 l23], 103), (wb.heap.size + 1, #[.int .i64 s24, .slice a24 n24 c24, .int .i64 t24, .slice d24 e24 f24, .int .i64 p24, .slice u24 x24 y24, .int .i64 g24, .slice i24 o24 l24], 105), (wc.heap.size, #[.slice a25 n25 c25, .bool m25, .slice d25 e25 f25], 48), (wc.heap.size + 1, #[.int .i64 s26, .slice a26 n26 c26, .int .i64 t26, .slice d26 e26 f26], 54)] [fun V => Vd V (.slice a21 n21 c21) m21 (.slice d21 e21 f21) (.slice u21 x21 y21) p21 (.slice t21 o21 l21) ((x1, x2)), fun V => Nv V s22 (.slice a22 n22 c22) t22 (.slice d22 e22 f22) p22 (.slice u22 x22 y22) g22 (.slice i22 o22 l22) ((x1, x2)), fun V => Vd V (.slice a23 n23 c23) m23 (.slice d23 e23 f23) (.slice u23 x23 y23) p23 (.slice t23 o23 l23) ((x3, x4)), fun V => Nv V s24 (.slice a24 n24 c24) t24 (.slice d24 e24 f24) p24 (.slice u24 x24 y24) g24 (.slice i24 o24 l24) ((x3, x4)), fun V => Rd V (.slice a25 n25 c25) m25 (.slice d25 e25 f25) (x5), fun V => Nq V s26 (.slice a26 n26 c26) t26 (.slice d26 e26 f26) (x5), fun V => Vd V (.slice a30 n30 c30) m30 (.slice d30 e30 f30) (.slice u30 x30 y30) p30 (.slice t30 o30 l30) ((((x1, x2)).1 + ((x3, x4)).1, ((x1, x2)).2 + ((x3, x4)).2)), fun V => Nv V s31 (.slice a31 n31 c31) t31 (.slice d31 e31 f31) p31 (.slice u31 x31 y31) g31 (.slice i31 o31 l31) ((((x1, x2)).1 + ((x3, x4)).1, ((x1, x2)).2 + ((x3, x4)).2))]) := Lib.hid (St.pick ((hC30.out.call hb).pp hz) [0, 1, 2, 3, 4, 5, 6, 7] rfl); clear hb hz; clear _t hC30)
  (try go_wp2_with fail)
  refine hKq.out _ _ ?_ (fun hH2 => ?_)
  · (try dsimp only)
    all_goals (with_reducible refine And.intro (?_ : World.cell? w31 _ = _) ?_; exact hC31.out.cell 0 0 rfl rfl; exact ⟨hC31.out.cell 0 1 rfl rfl, hC31.out.cell 0 2 rfl rfl, hC31.out.cell 0 3 rfl rfl, hC31.out.cell 0 4 rfl rfl, hC31.out.cell 0 5 rfl rfl, hC31.out.cell 1 0 rfl rfl, hC31.out.cell 1 1 rfl rfl, hC31.out.cell 1 2 rfl rfl, hC31.out.cell 1 3 rfl rfl, hC31.out.cell 1 4 rfl rfl, hC31.out.cell 1 5 rfl rfl, hC31.out.cell 1 6 rfl rfl, hC31.out.cell 1 7 rfl rfl, hC31.out.cell 2 0 rfl rfl, hC31.out.cell 2 1 rfl rfl, hC31.out.cell 2 2 rfl rfl, hC31.out.cell 2 3 rfl rfl, hC31.out.cell 2 4 rfl rfl, hC31.out.cell 2 5 rfl rfl, hC31.out.cell 3 0 rfl rfl, hC31.out.cell 3 1 rfl rfl, hC31.out.cell 3 2 rfl rfl, hC31.out.cell 3 3 rfl rfl, hC31.out.cell 3 4 rfl rfl, hC31.out.cell 3 5 rfl rfl, hC31.out.cell 3 6 rfl rfl, hC31.out.cell 3 7 rfl rfl, hC31.out.cell 4 0 rfl rfl, hC31.out.cell 4 1 rfl rfl, hC31.out.cell 4 2 rfl rfl, hC31.out.cell 5 0 rfl rfl, hC31.out.cell 5 1 rfl rfl, hC31.out.cell 5 2 rfl rfl, hC31.out.cell 5 3 rfl rfl, trivial⟩)
  clear hKq Kq hH1
  try simp only [Act.put, List.setIfInBounds_toArray, List.set_cons_zero, List.set_cons_succ]
  refine wpAnyH_ready (rs := [6]) (by kernel_rfl) (by simp) ?_
  refine AllReadyH.cons (o := ⟨_, _, _, _, _, _⟩) rfl (fun Kq hKq => ?_) AllReadyH.nil
  go_simp
  (have _t := hC31; go_at_call 85; refine (sameV_b (hC31.out.v 6 rfl) (hC31.out.vp 7 rfl) (Bv.add ((Bv.of E1.out E2.out)) ((Bv.of E3.out E4.out))) (by omega)).mono ?_; rintro e w32 ⟨rfl, hb⟩; have hC32 : Hid (St w w32 [(wa.heap.size, #[.slice a21 n21 c21, .bool m21, .slice d21 e21 f21, .slice u21 x21 y21, .bool p21, .slice t21 o21 l21], 103), (wa.heap.size + 1, #[.int .i64 s22, .slice a22 n22 c22, .int .i64 t22, .slice d22 e22 f22, .int .i64 p22, .slice u22 x22 y22, .int .i64 g22, .slice i22 o22 l22], 105), (wb.heap.size, #[.slice a23 n23 c23, .bool m23, .slice d23 e23 f23, .slice u23 x23 y23, .bool p23, .slice t23 o23 l23], 103), (wb.heap.size + 1, #[.int .i64 s24, .slice a24 n24 c24, .int .i64 t24, .slice d24 e24 f24, .int .i64 p24, .slice u24 x24 y24, .int .i64 g24, .slice i24 o24 l24], 105), (wc.heap.size, #[.slice a25 n25 c25, .bool m25, .slice d25 e25 f25], 48), (wc.heap.size + 1, #[.int .i64 s26, .slice a26 n26 c26, .int .i64 t26, .slice d26 e26 f26], 54)] [fun V => Vd V (.slice a21 n21 c21) m21 (.slice d21 e21 f21) (.slice u21 x21 y21) p21 (.slice t21 o21 l21) ((x1, x2)), fun V => Nv V s22 (.slice a22 n22 c22) t22 (.slice d22 e22 f22) p22 (.slice u22 x22 y22) g22 (.slice i22 o22 l22) ((x1, x2)), fun V => Vd V (.slice a23 n23 c23) m23 (.slice d23 e23 f23) (.slice u23 x23 y23) p23 (.slice t23 o23 l23) ((x3, x4)), fun V => Nv V s24 (.slice a24 n24 c24) t24 (.slice d24 e24 f24) p24 (.slice u24 x24 y24) g24 (.slice i24 o24 l24) ((x3, x4)), fun V => Rd V (.slice a25 n25 c25) m25 (.slice d25 e25 f25) (x5), fun V => Nq V s26 (.slice a26 n26 c26) t26 (.slice d26 e26 f26) (x5)]) := Lib.hid (St.pick ((hC31.out.call hb)) [0, 1, 2, 3, 4, 5] rfl); clear hb; clear _t hC31)
  (try go_wp2_with fail)
  refine hKq.out _ _ ?_ (fun hH3 => ?_)
  · (try dsimp only)
    all_goals (with_reducible refine And.intro (?_ : World.cell? w32 _ = _) ?_; exact hC32.out.cell 0 0 rfl rfl; exact ⟨hC32.out.cell 0 1 rfl rfl, hC32.out.cell 0 2 rfl rfl, hC32.out.cell 0 3 rfl rfl, hC32.out.cell 0 4 rfl rfl, hC32.out.cell 0 5 rfl rfl, hC32.out.cell 1 0 rfl rfl, hC32.out.cell 1 1 rfl rfl, hC32.out.cell 1 2 rfl rfl, hC32.out.cell 1 3 rfl rfl, hC32.out.cell 1 4 rfl rfl, hC32.out.cell 1 5 rfl rfl, hC32.out.cell 1 6 rfl rfl, hC32.out.cell 1 7 rfl rfl, hC32.out.cell 2 0 rfl rfl, hC32.out.cell 2 1 rfl rfl, hC32.out.cell 2 2 rfl rfl, hC32.out.cell 2 3 rfl rfl, hC32.out.cell 2 4 rfl rfl, hC32.out.cell 2 5 rfl rfl, hC32.out.cell 3 0 rfl rfl, hC32.out.cell 3 1 rfl rfl, hC32.out.cell 3 2 rfl rfl, hC32.out.cell 3 3 rfl rfl, hC32.out.cell 3 4 rfl rfl, hC32.out.cell 3 5 rfl rfl, hC32.out.cell 3 6 rfl rfl, hC32.out.cell 3 7 rfl rfl, hC32.out.cell 4 0 rfl rfl, hC32.out.cell 4 1 rfl rfl, hC32.out.cell 4 2 rfl rfl, hC32.out.cell 5 0 rfl rfl, hC32.out.cell 5 1 rfl rfl, hC32.out.cell 5 2 rfl rfl, hC32.out.cell 5 3 rfl rfl, trivial⟩)
  clear hKq Kq hH2
  try simp only [Act.put, List.setIfInBounds_toArray, List.set_cons_zero, List.set_cons_succ]
  refine wpAnyH_take (i := 7) (oi := ⟨_, _, _, _, _, _⟩) (v := ?_) rfl (by kernel_rfl) (by kernel_rfl) (by kernel_rfl) (fun _ _ _ h => h) (Or.inl ⟨by rfl, ?_⟩) hH3 ?_
  rotate_left
  · intro wS hSw; (try dsimp only at hSw); go_simp; try with_reducible rfl
  try simp only [Act.put, List.setIfInBounds_toArray, List.set_cons_zero, List.set_cons_succ]
  refine wpAnyH_take (i := 8) (oi := ⟨_, _, _, _, _, _⟩) (v := ?_) rfl (by kernel_rfl) (by kernel_rfl) (by kernel_rfl) (fun _ _ _ h => h) (Or.inl ⟨by rfl, ?_⟩) hH3 ?_
  rotate_left
  · intro wS hSw; (try dsimp only at hSw); go_simp; try with_reducible rfl
  try simp only [Act.put, List.setIfInBounds_toArray, List.set_cons_zero, List.set_cons_succ]
  refine wpAnyH_take (i := 9) (oi := ⟨_, _, _, _, _, _⟩) (v := ?_) rfl (by kernel_rfl) (by kernel_rfl) (by kernel_rfl) (fun _ _ _ h => h) (Or.inl ⟨by rfl, ?_⟩) hH3 ?_
  rotate_left
  · intro wS hSw; (try dsimp only at hSw); go_simp; try with_reducible rfl
  try simp only [Act.put, List.setIfInBounds_toArray, List.set_cons_zero, List.set_cons_succ]
  refine wpAnyH_take (i := 11) (oi := ⟨_, _, _, _, _, _⟩) (v := ?_) rfl (by kernel_rfl) (by kernel_rfl) (by kernel_rfl) (fun _ _ _ h => h) (Or.inl ⟨by rfl, ?_⟩) hH3 ?_
  rotate_left
  · intro wS hSw; (try dsimp only at hSw); go_simp; try with_reducible rfl
  try simp only [Act.put, List.setIfInBounds_toArray, List.set_cons_zero, List.set_cons_succ]
  refine wpAnyH_take (i := 12) (oi := ⟨_, _, _, _, _, _⟩) (v := ?_) rfl (by kernel_rfl) (by kernel_rfl) (by kernel_rfl) (fun _ _ _ h => h) (Or.inl ⟨by rfl, ?_⟩) hH3 ?_
  rotate_left
  · intro wS hSw; (try dsimp only at hSw); go_simp; try with_reducible rfl
  try simp only [Act.put, List.setIfInBounds_toArray, List.set_cons_zero, List.set_cons_succ]
  refine wpAnyH_ready (rs := [10]) (by kernel_rfl) (by simp) ?_
  refine AllReadyH.cons (o := ⟨_, _, _, _, _, _⟩) rfl (fun Kq hKq => ?_) AllReadyH.nil
  go_simp
  (have _t := hC32; go_at_call 88; refine (vsub_b (hC32.out.v 0 rfl) (hC32.out.v 2 rfl) (Bv.of E1.out E2.out) (Bv.of E3.out E4.out) (by omega) (by omega)).mono ?_; rintro e w33 ⟨a33, n33, c33, m33, d33, e33, f33, u33, x33, y33, p33, t33, o33, l33, rfl, hz, hb⟩; have hC33 : Hid (St w w33 [(wa.heap.size, #[.slice a21 n21 c21, .bool m21, .slice d21 e21 f21, .slice u21 x21 y21, .bool p21, .slice t21 o21 l21], 103), (wa.heap.size + 1, #[.int .i64 s22, .slice a22 n22 c22, .int .i64 t22, .slice d22 e22 f22, .int .i64 p22, .slice u22 x22 y22, .int .i64 g22, .slice i22 o22 l22], 105), (wb.heap.size, #[.slice a23 n23 c23, .bool m23, .slice d23 e23 f23, .slice u23 x23 y23, .bool p23, .slice t23 o23 l23], 103), (wb.heap.size + 1, #[.int .i64 s24, .slice a24 n24 c24, .int .i64 t24, .slice d24 e24 f24, .int .i64 p24, .slice u24 x24 y24, .int .i64 g24, .slice i24 o24 l24], 105), (wc.heap.size, #[.slice a25 n25 c25, .bool m25, .slice d25 e25 f25], 48), (wc.heap.size + 1, #[.int .i64 s26, .slice a26 n26 c26, .int .i64 t26, .slice d26 e26 f26], 54)] [fun V => Vd V (.slice a21 n21 c21) m21 (.slice d21 e21 f21) (.slice u21 x21 y21) p21 (.slice t21 o21 l21) ((x1, x2)), fun V => Nv V s22 (.slice a22 n22 c22) t22 (.slice d22 e22 f22) p22 (.slice u22 x22 y22) g22 (.slice i22 o22 l22) ((x1, x2)), fun V => Vd V (.slice a23 n23 c23) m23 (.slice d23 e23 f23) (.slice u23 x23 y23) p23 (.slice t23 o23 l23) ((x3, x4)), fun V => Nv V s24 (.slice a24 n24 c24) t24 (.slice d24 e24 f24) p24 (.slice u24 x24 y24) g24 (.slice i24 o24 l24) ((x3, x4)), fun V => Rd V (.slice a25 n25 c25) m25 (.slice d25 e25 f25) (x5), fun V => Nq V s26 (.slice a26 n26 c26) t26 (.slice d26 e26 f26) (x5), fun V => Vd V (.slice a33 n33 c33) m33 (.slice d33 e33 f33) (.slice u33 x33 y33) p33 (.slice t33 o33 l33) ((((x1, x2)).1 - ((x3, x4)).1, ((x1, x2)).2 - ((x3, x4)).2))]) := Lib.hid (St.pick ((hC32.out.call hb).pv hz) [0, 1, 2, 3, 4, 5, 6] rfl); clear hb hz; clear _t hC32)
  (try go_wp2_with fail)
  refine hKq.out _ _ ?_ (fun hH4 => ?_)
  · (try dsimp only)
    all_goals (with_reducible refine And.intro (?_ : World.cell? w33 _ = _) ?_; exact hC33.out.cell 0 0 rfl rfl; exact ⟨hC33.out.cell 0 1 rfl rfl, hC33.out.cell 0 2 rfl rfl, hC33.out.cell 0 3 rfl rfl, hC33.out.cell 0 4 rfl rfl, hC33.out.cell 0 5 rfl rfl, hC33.out.cell 1 0 rfl rfl, hC33.out.cell 1 1 rfl rfl, hC33.out.cell 1 2 rfl rfl, hC33.out.cell 1 3 rfl rfl, hC33.out.cell 1 4 rfl rfl, hC33.out.cell 1 5 rfl rfl, hC33.out.cell 1 6 rfl rfl, hC33.out.cell 1 7 rfl rfl, hC33.out.cell 2 0 rfl rfl, hC33.out.cell 2 1 rfl rfl, hC33.out.cell 2 2 rfl rfl, hC33.out.cell 2 3 rfl rfl, hC33.out.cell 2 4 rfl rfl, hC33.out.cell 2 5 rfl rfl, hC33.out.cell 3 0 rfl rfl, hC33.out.cell 3 1 rfl rfl, hC33.out.cell 3 2 rfl rfl, hC33.out.cell 3 3 rfl rfl, hC33.out.cell 3 4 rfl rfl, hC33.out.cell 3 5 rfl rfl, hC33.out.cell 3 6 rfl rfl, hC33.out.cell 3 7 rfl rfl, hC33.out.cell 4 0 rfl rfl, hC33.out.cell 4 1 rfl rfl, hC33.out.cell 4 2 rfl rfl, hC33.out.cell 5 0 rfl rfl, hC33.out.cell 5 1 rfl rfl, hC33.out.cell 5 2 rfl rfl, hC33.out.cell 5 3 rfl rfl, trivial⟩)
  clear hKq Kq hH3
  try simp only [Act.put, List.setIfInBounds_toArray, List.set_cons_zero, List.set_cons_succ]
  refine wpAnyH_ready (rs := [13]) (by kernel_rfl) (by simp) ?_
  refine AllReadyH.cons (o := ⟨_, _, _, _, _, _⟩) rfl (fun Kq hKq => ?_) AllReadyH.nil
  go_simp
  (have _t := hC33; go_at_call 89; refine (vsubN_b (hC33.out.vp 1 rfl) (hC33.out.vp 3 rfl) (Bv.of E1.out E2.out) (Bv.of E3.out E4.out) (by omega) (by omega)).mono ?_; rintro e w34 ⟨s34, a34, n34, c34, t34, d34, e34, f34, p34, u34, x34, y34, g34, i34, o34, l34, rfl, hz, hb⟩; have hC34 : Hid (St w w34 [(wa.heap.size, #[.slice a21 n21 c21, .bool m21, .slice d21 e21 f21, .slice u21 x21 y21, .bool p21, .slice t21 o21 l21], 103), (wa.heap.size + 1, #[.int .i64 s22, .slice a22 n22 c22, .int .i64 t22, .slice d22 e22 f22, .int .i64 p22, .slice u22 x22 y22, .int .i64 g22, .slice i22 o22 l22], 105), (wb.heap.size, #[.slice a23 n23 c23, .bool m23, .slice d23 e23 f23, .slice u23 x23 y23, .bool p23, .slice t23 o23 l23], 103), (wb.heap.size + 1, #[.int .i64 s24, .slice a24 n24 c24, .int .i64 t24, .slice d24 e24 f24, .int .i64 p24, .slice u24 x24 y24, .int .i64 g24, .slice i24 o24 l24], 105), (wc.heap.size, #[.slice a25 n25 c25, .bool m25, .slice d25 e25 f25], 48), (wc.heap.size + 1, #[.int .i64 s26, .slice a26 n26 c26, .int .i64 t26, .slice d26 e26 f26], 54)] [fun V => Vd V (.slice a21 n21 c21) m21 (.slice d21 e21 f21) (.slice u21 x21 y21) p21 (.slice t21 o21 l21) ((x1, x2)), fun V => Nv V s22 (.slice a22 n22 c22) t22 (.slice d22 e22 f22) p22 (.slice u22 x22 y22) g22 (.slice i22 o22 l22) ((x1, x2)), fun V => Vd V (.slice a23 n23 c23) m23 (.slice d23 e23 f23) (.slice u23 x23 y23) p23 (.slice t23 o23 l23) ((x3, x4)), fun V => Nv V s24 (.slice a24 n24 c24) t24 (.slice d24 e24 f24) p24 (.slice u24 x24 y24) g24 (.slice i24 o24 l24) ((x3, x4)), fun V => Rd V (.slice a25 n25 c25) m25 (.slice d25 e25 f25) (x5), fun V => Nq V s26 (.slice a26 n26 c26) t26 (.slice d26 e26 f26) (x5), fun V => Vd V (.slice a33 n33 c33) m33 (.slice d33 e33 f33) (.slice u33 x33 y33) p33 (.slice t33 o33 l33) ((((x1, x2)).1 - ((x3, x4)).1, ((x1, x2)).2 - ((x3, x4)).2)), fun V => Nv V s34 (.slice a34 n34 c34) t34 (.slice d34 e34 f34) p34 (.slice u34 x34 y34) g34 (.slice i34 o34 l34) ((((x1, x2)).1 - ((x3, x4)).1, ((x1, x2)).2 - ((x3, x4)).2))]) := Lib.hid (St.pick ((hC33.out.call hb).pp hz) [0, 1, 2, 3, 4, 5, 6, 7] rfl); clear hb hz; clear _t hC33)
  (try go_wp2_with fail)
  refine hKq.out _ _ ?_ (fun hH5 => ?_)
  · (try dsimp only)
    all_goals (with_reducible refine And.intro (?_ : World.cell? w34 _ = _) ?_; exact hC34.out.cell 0 0 rfl rfl; exact ⟨hC34.out.cell 0 1 rfl rfl, hC34.out.cell 0 2 rfl rfl, hC34.out.cell 0 3 rfl rfl, hC34.out.cell 0 4 rfl rfl, hC34.out.cell 0 5 rfl rfl, hC34.out.cell 1 0 rfl rfl, hC34.out.cell 1 1 rfl rfl, hC34.out.cell 1 2 rfl rfl, hC34.out.cell 1 3 rfl rfl, hC34.out.cell 1 4 rfl rfl, hC34.out.cell 1 5 rfl rfl, hC34.out.cell 1 6 rfl rfl, hC34.out.cell 1 7 rfl rfl, hC34.out.cell 2 0 rfl rfl, hC34.out.cell 2 1 rfl rfl, hC34.out.cell 2 2 rfl rfl, hC34.out.cell 2 3 rfl rfl, hC34.out.cell 2 4 rfl rfl, hC34.out.cell 2 5 rfl rfl, hC34.out.cell 3 0 rfl rfl, hC34.out.cell 3 1 rfl rfl, hC34.out.cell 3 2 rfl rfl, hC34.out.cell 3 3 rfl rfl, hC34.out.cell 3 4 rfl rfl, hC34.out.cell 3 5 rfl rfl, hC34.out.cell 3 6 rfl rfl, hC34.out.cell 3 7 rfl rfl, hC34.out.cell 4 0 rfl rfl, hC34.out.cell 4 1 rfl rfl, hC34.out.cell 4 2 rfl rfl, hC34.out.cell 5 0 rfl rfl, hC34.out.cell 5 1 rfl rfl, hC34.out.cell 5 2 rfl rfl, hC34.out.cell 5 3 rfl rfl, trivial⟩)
  clear hKq Kq hH4
  try simp only [Act.put, List.setIfInBounds_toArray, List.set_cons_zero, List.set_cons_succ]
  refine wpAnyH_ready (rs := [14]) (by kernel_rfl) (by simp) ?_
  refine AllReadyH.cons (o := ⟨_, _, _, _, _, _⟩) rfl (fun Kq hKq => ?_) AllReadyH.nil
  go_simp
  (have _t := hC34; go_at_call 85; refine (sameV_b (hC34.out.v 6 rfl) (hC34.out.vp 7 rfl) (Bv.sub ((Bv.of E1.out E2.out)) ((Bv.of E3.out E4.out))) (by omega)).mono ?_; rintro e w35 ⟨rfl, hb⟩; have hC35 : Hid (St w w35 [(wa.heap.size, #[.slice a21 n21 c21, .bool m21, .slice d21 e21 f21, .slice u21 x21 y21, .bool p21, .slice t21 o21 l21], 103), (wa.heap.size + 1, #[.int .i64 s22, .slice a22 n22 c22, .int .i64 t22, .slice d22 e22 f22, .int .i64 p22, .slice u22 x22 y22, .int .i64 g22, .slice i22 o22 l22], 105), (wb.heap.size, #[.slice a23 n23 c23, .bool m23, .slice d23 e23 f23, .slice u23 x23 y23, .bool p23, .slice t23 o23 l23], 103), (wb.heap.size + 1, #[.int .i64 s24, .slice a24 n24 c24, .int .i64 t24, .slice d24 e24 f24, .int .i64 p24, .slice u24 x24 y24, .int .i64 g24, .slice i24 o24 l24], 105), (wc.heap.size, #[.slice a25 n25 c25, .bool m25, .slice d25 e25 f25], 48), (wc.heap.size + 1, #[.int .i64 s26, .slice a26 n26 c26, .int .i64 t26, .slice d26 e26 f26], 54)] [fun V => Vd V (.slice a21 n21 c21) m21 (.slice d21 e21 f21) (.slice u21 x21 y21) p21 (.slice t21 o21 l21) ((x1, x2)), fun V => Nv V s22 (.slice a22 n22 c22) t22 (.slice d22 e22 f22) p22 (.slice u22 x22 y22) g22 (.slice i22 o22 l22) ((x1, x2)), fun V => Vd V (.slice a23 n23 c23) m23 (.slice d23 e23 f23) (.slice u23 x23 y23) p23 (.slice t23 o23 l23) ((x3, x4)), fun V => Nv V s24 (.slice a24 n24 c24) t24 (.slice d24 e24 f24) p24 (.slice u24 x24 y24) g24 (.slice i24 o24 l24) ((x3, x4)), fun V => Rd V (.slice a25 n25 c25) m25 (.slice d25 e25 f25) (x5), fun V => Nq V s26 (.slice a26 n26 c26) t26 (.slice d26 e26 f26) (x5)]) := Lib.hid (St.pick ((hC34.out.call hb)) [0, 1, 2, 3, 4, 5] rfl); clear hb; clear _t hC34)
  (try go_wp2_with fail)
  refine hKq.out _ _ ?_ (fun hH6 => ?_)
  · (try dsimp only)
    all_goals (with_reducible refine And.intro (?_ : World.cell? w35 _ = _) ?_; exact hC35.out.cell 0 0 rfl rfl; exact ⟨hC35.out.cell 0 1 rfl rfl, hC35.out.cell 0 2 rfl rfl, hC35.out.cell 0 3 rfl rfl, hC35.out.cell 0 4 rfl rfl, hC35.out.cell 0 5 rfl rfl, hC35.out.cell 1 0 rfl rfl, hC35.out.cell 1 1 rfl rfl, hC35.out.cell 1 2 rfl rfl, hC35.out.cell 1 3 rfl rfl, hC35.out.cell 1 4 rfl rfl, hC35.out.cell 1 5 rfl rfl, hC35.out.cell 1 6 rfl rfl, hC35.out.cell 1 7 rfl rfl, hC35.out.cell 2 0 rfl rfl, hC35.out.cell 2 1 rfl rfl, hC35.out.cell 2 2 rfl rfl, hC35.out.cell 2 3 rfl rfl, hC35.out.cell 2 4 rfl rfl, hC35.out.cell 2 5 rfl rfl, hC35.out.cell 3 0 rfl rfl, hC35.out.cell 3 1 rfl rfl, hC35.out.cell 3 2 rfl rfl, hC35.out.cell 3 3 rfl rfl, hC35.out.cell 3 4 rfl rfl, hC35.out.cell 3 5 rfl rfl, hC35.out.cell 3 6 rfl rfl, hC35.out.cell 3 7 rfl rfl, hC35.out.cell 4 0 rfl rfl, hC35.out.cell 4 1 rfl rfl, hC35.out.cell 4 2 rfl rfl, hC35.out.cell 5 0 rfl rfl, hC35.out.cell 5 1 rfl rfl, hC35.out.cell 5 2 rfl rfl, hC35.out.cell 5 3 rfl rfl, trivial⟩)
  clear hKq Kq hH5
  try simp only [Act.put, List.setIfInBounds_toArray, List.set_cons_zero, List.set_cons_succ]
  refine wpAnyH_take (i := 15) (oi := ⟨_, _, _, _, _, _⟩) (v := ?_) rfl (by kernel_rfl) (by kernel_rfl) (by kernel_rfl) (fun _ _ _ h => h) (Or.inl ⟨by rfl, ?_⟩) hH6 ?_
  rotate_left
  · intro wS hSw; (try dsimp only at hSw); go_simp; try with_reducible rfl
  try simp only [Act.put, List.setIfInBounds_toArray, List.set_cons_zero, List.set_cons_succ]
  refine wpAnyH_take (i := 16) (oi := ⟨_, _, _, _, _, _⟩) (v := ?_) rfl (by kernel_rfl) (by kernel_rfl) (by kernel_rfl) (fun _ _ _ h => h) (Or.inl ⟨by rfl, ?_⟩) hH6 ?_
  rotate_left
  · intro wS hSw; (try dsimp only at hSw); go_simp; try with_reducible rfl
  try simp only [Act.put, List.setIfInBounds_toArray, List.set_cons_zero, List.set_cons_succ]
  refine wpAnyH_take (i := 17) (oi := ⟨_, _, _, _, _, _⟩) (v := ?_) rfl (by kernel_rfl) (by kernel_rfl) (by kernel_rfl) (fun _ _ _ h => h) (Or.inl ⟨by rfl, ?_⟩) hH6 ?_
  rotate_left
  · intro wS hSw; (try dsimp only at hSw); go_simp; try with_reducible rfl
  try simp only [Act.put, List.setIfInBounds_toArray, List.set_cons_zero, List.set_cons_succ]
  refine wpAnyH_take (i := 18) (oi := ⟨_, _, _, _, _, _⟩) (v := ?_) rfl (by kernel_rfl) (by kernel_rfl) (by kernel_rfl) (fun _ _ _ h => h) (Or.inl ⟨by rfl, ?_⟩) hH6 ?_
  rotate_left
  · intro wS hSw; (try dsimp only at hSw); go_simp; try with_reducible rfl
  try simp only [Act.put, List.setIfInBounds_toArray, List.set_cons_zero, List.set_cons_succ]
  refine wpAnyH_take (i := 20) (oi := ⟨_, _, _, _, _, _⟩) (v := ?_) rfl (by kernel_rfl) (by kernel_rfl) (by kernel_rfl) (fun _ _ _ h => h) (Or.inl ⟨by rfl, ?_⟩) hH6 ?_
  rotate_left
  · intro wS hSw; (try dsimp only at hSw); go_simp; try with_reducible rfl
  try simp only [Act.put, List.setIfInBounds_toArray, List.set_cons_zero, List.set_cons_succ]
  refine wpAnyH_take (i := 21) (oi := ⟨_, _, _, _, _, _⟩) (v := ?_) rfl (by kernel_rfl) (by kernel_rfl) (by kernel_rfl) (fun _ _ _ h => h) (Or.inl ⟨by rfl, ?_⟩) hH6 ?_
  rotate_left
  · intro wS hSw; (try dsimp only at hSw); go_simp; try with_reducible rfl
  try simp only [Act.put, List.setIfInBounds_toArray, List.set_cons_zero, List.set_cons_succ]
  refine wpAnyH_ready (rs := [19]) (by kernel_rfl) (by simp) ?_
  refine AllReadyH.cons (o := ⟨_, _, _, _, _, _⟩) rfl (fun Kq hKq => ?_) AllReadyH.nil
  go_simp
  (have _t := hC35; go_at_call 90; refine (vscale_b (hC35.out.v 0 rfl) (hC35.out.r 4 rfl) (Bv.of E1.out E2.out) E5.out (by omega) (by omega)).mono ?_; rintro e w36 ⟨a36, n36, c36, m36, d36, e36, f36, u36, x36, y36, p36, t36, o36, l36, rfl, hz, hb⟩; have hC36 : Hid (St w w36 [(wa.heap.size, #[.slice a21 n21 c21, .bool m21, .slice d21 e21 f21, .slice u21 x21 y21, .bool p21, .slice t21 o21 l21], 103), (wa.heap.size + 1, #[.int .i64 s22, .slice a22 n22 c22, .int .i64 t22, .slice d22 e22 f22, .int .i64 p22, .slice u22 x22 y22, .int .i64 g22, .slice i22 o22 l22], 105), (wb.heap.size, #[.slice a23 n23 c23, .bool m23, .slice d23 e23 f23, .slice u23 x23 y23, .bool p23, .slice t23 o23 l23], 103), (wb.heap.size + 1, #[.int .i64 s24, .slice a24 n24 c24, .int .i64 t24, .slice d24 e24 f24, .int .i64 p24, .slice u24 x24 y24, .int .i64 g24, .slice i24 o24 l24], 105), (wc.heap.size, #[.slice a25 n25 c25, .bool m25, .slice d25 e25 f25], 48), (wc.heap.size + 1, #[.int .i64 s26, .slice a26 n26 c26, .int .i64 t26, .slice d26 e26 f26], 54)] [fun V => Vd V (.slice a21 n21 c21) m21 (.slice d21 e21 f21) (.slice u21 x21 y21) p21 (.slice t21 o21 l21) ((x1, x2)), fun V => Nv V s22 (.slice a22 n22 c22) t22 (.slice d22 e22 f22) p22 (.slice u22 x22 y22) g22 (.slice i22 o22 l22) ((x1, x2)), fun V => Vd V (.slice a23 n23 c23) m23 (.slice d23 e23 f23) (.slice u23 x23 y23) p23 (.slice t23 o23 l23) ((x3, x4)), fun V => Nv V s24 (.slice a24 n24 c24) t24 (.slice d24 e24 f24) p24 (.slice u24 x24 y24) g24 (.slice i24 o24 l24) ((x3, x4)), fun V => Rd V (.slice a25 n25 c25) m25 (.slice d25 e25 f25) (x5), fun V => Nq V s26 (.slice a26 n26 c26) t26 (.slice d26 e26 f26) (x5), fun V => Vd V (.slice a36 n36 c36) m36 (.slice d36 e36 f36) (.slice u36 x36 y36) p36 (.slice t36 o36 l36) ((((x1, x2)).1 * x5, ((x1, x2)).2 * x5))]) := Lib.hid (St.pick ((hC35.out.call hb).pv hz) [0, 1, 2, 3, 4, 5, 6] rfl); clear hb hz; clear _t hC35)
  (try go_wp2_with fail)
  refine hKq.out _ _ ?_ (fun hH7 => ?_)
  · (try dsimp only)
    all_goals (with_reducible refine And.intro (?_ : World.cell? w36 _ = _) ?_; exact hC36.out.cell 0 0 rfl rfl; exact ⟨hC36.out.cell 0 1 rfl rfl, hC36.out.cell 0 2 rfl rfl, hC36.out.cell 0 3 rfl rfl, hC36.out.cell 0 4 rfl rfl, hC36.out.cell 0 5 rfl rfl, hC36.out.cell 1 0 rfl rfl, hC36.out.cell 1 1 rfl rfl, hC36.out.cell 1 2 rfl rfl, hC36.out.cell 1 3 rfl rfl, hC36.out.cell 1 4 rfl rfl, hC36.out.cell 1 5 rfl rfl, hC36.out.cell 1 6 rfl rfl, hC36.out.cell 1 7 rfl rfl, hC36.out.cell 2 0 rfl rfl, hC36.out.cell 2 1 rfl rfl, hC36.out.cell 2 2 rfl rfl, hC36.out.cell 2 3 rfl rfl, hC36.out.cell 2 4 rfl rfl, hC36.out.cell 2 5 rfl rfl, hC36.out.cell 3 0 rfl rfl, hC36.out.cell 3 1 rfl rfl, hC36.out.cell 3 2 rfl rfl, hC36.out.cell 3 3 rfl rfl, hC36.out.cell 3 4 rfl rfl, hC36.out.cell 3 5 rfl rfl, hC36.out.cell 3 6 rfl rfl, hC36.out.cell 3 7 rfl rfl, hC36.out.cell 4 0 rfl rfl, hC36.out.cell 4 1 rfl rfl, hC36.out.cell 4 2 rfl rfl, hC36.out.cell 5 0 rfl rfl, hC36.out.cell 5 1 rfl rfl, hC36.out.cell 5 2 rfl rfl, hC36.out.cell 5 3 rfl rfl, trivial⟩)
  clear hKq Kq hH6
  try simp only [Act.put, List.setIfInBounds_toArray, List.set_cons_zero, List.set_cons_succ]
  refine wpAnyH_ready (rs := [22]) (by kernel_rfl) (by simp) ?_
  refine AllReadyH.cons (o := ⟨_, _, _, _, _, _⟩) rfl (fun Kq hKq => ?_) AllReadyH.nil
  go_simp
  (have _t := hC36; go_at_call 91; refine (vscaleN_b (hC36.out.vp 1 rfl) (hC36.out.rq 5 rfl) (Bv.of E1.out E2.out) E5.out (by omega) (by omega)).mono ?_; rintro e w37 ⟨s37, a37, n37, c37, t37, d37, e37, f37, p37, u37, x37, y37, g37, i37, o37, l37, rfl, hz, hb⟩; have hC37 : Hid (St w w37 [(wa.heap.size, #[.slice a21 n21 c21, .bool m21, .slice d21 e21 f21, .slice u21 x21 y21, .bool p21, .slice t21 o21 l21], 103), (wa.heap.size + 1, #[.int .i64 s22, .slice a22 n22 c22, .int .i64 t22, .slice d22 e22 f22, .int .i64 p22, .slice u22 x22 y22, .int .i64 g22, .slice i22 o22 l22], 105), (wb.heap.size, #[.slice a23 n23 c23, .bool m23, .slice d23 e23 f23, .slice u23 x23 y23, .bool p23, .slice t23 o23 l23], 103), (wb.heap.size + 1, #[.int .i64 s24, .slice a24 n24 c24, .int .i64 t24, .slice d24 e24 f24, .int .i64 p24, .slice u24 x24 y24, .int .i64 g24, .slice i24 o24 l24], 105), (wc.heap.size, #[.slice a25 n25 c25, .bool m25, .slice d25 e25 f25], 48), (wc.heap.size + 1, #[.int .i64 s26, .slice a26 n26 c26, .int .i64 t26, .slice d26 e26 f26], 54)] [fun V => Vd V (.slice a21 n21 c21) m21 (.slice d21 e21 f21) (.slice u21 x21 y21) p21 (.slice t21 o21 l21) ((x1, x2)), fun V => Nv V s22 (.slice a22 n22 c22) t22 (.slice d22 e22 f22) p22 (.slice u22 x22 y22) g22 (.slice i22 o22 l22) ((x1, x2)), fun V => Vd V (.slice a23 n23 c23) m23 (.slice d23 e23 f23) (.slice u23 x23 y23) p23 (.slice t23 o23 l23) ((x3, x4)), fun V => Nv V s24 (.slice a24 n24 c24) t24 (.slice d24 e24 f24) p24 (.slice u24 x24 y24) g24 (.slice i24 o24 l24) ((x3, x4)), fun V => Rd V (.slice a25 n25 c25) m25 (.slice d25 e25 f25) (x5), fun V => Nq V s26 (.slice a26 n26 c26) t26 (.slice d26 e26 f26) (x5), fun V => Vd V (.slice a36 n36 c36) m36 (.slice d36 e36 f36) (.slice u36 x36 y36) p36 (.slice t36 o36 l36) ((((x1, x2)).1 * x5, ((x1, x2)).2 * x5)), fun V => Nv V s37 (.slice a37 n37 c37) t37 (.slice d37 e37 f37) p37 (.slice u37 x37 y37) g37 (.slice i37 o37 l37) ((((x1, x2)).1 * x5, ((x1, x2)).2 * x5))]) := Lib.hid (St.pick ((hC36.out.call hb).pp hz) [0, 1, 2, 3, 4, 5, 6, 7] rfl); clear hb hz; clear _t hC36)
  (try go_wp2_with fail)
  refine hKq.out _ _ ?_ (fun hH8 => ?_)
  · (try dsimp only)
    all_goals (with_reducible refine And.intro (?_ : World.cell? w37 _ = _) ?_; exact hC37.out.cell 0 0 rfl rfl; exact ⟨hC37.out.cell 0 1 rfl rfl, hC37.out.cell 0 2 rfl rfl, hC37.out.cell 0 3 rfl rfl, hC37.out.cell 0 4 rfl rfl, hC37.out.cell 0 5 rfl rfl, hC37.out.cell 1 0 rfl rfl, hC37.out.cell 1 1 rfl rfl, hC37.out.cell 1 2 rfl rfl, hC37.out.cell 1 3 rfl rfl, hC37.out.cell 1 4 rfl rfl, hC37.out.cell 1 5 rfl rfl, hC37.out.cell 1 6 rfl rfl, hC37.out.cell 1 7 rfl rfl, hC37.out.cell 2 0 rfl rfl, hC37.out.cell 2 1 rfl rfl, hC37.out.cell 2 2 rfl rfl, hC37.out.cell 2 3 rfl rfl, hC37.out.cell 2 4 rfl rfl, hC37.out.cell 2 5 rfl rfl, hC37.out.cell 3 0 rfl rfl, hC37.out.cell 3 1 rfl rfl, hC37.out.cell 3 2 rfl rfl, hC37.out.cell 3 3 rfl rfl, hC37.out.cell 3 4 rfl rfl, hC37.out.cell 3 5 rfl rfl, hC37.out.cell 3 6 rfl rfl, hC37.out.cell 3 7 rfl rfl, hC37.out.cell 4 0 rfl rfl, hC37.out.cell 4 1 rfl rfl, hC37.out.cell 4 2 rfl rfl, hC37.out.cell 5 0 rfl rfl, hC37.out.cell 5 1 rfl rfl, hC37.out.cell 5 2 rfl rfl, hC37.out.cell 5 3 rfl rfl, trivial⟩)
  clear hKq Kq hH7
  try simp only [Act.put, List.setIfInBounds_toArray, List.set_cons_zero, List.set_cons_succ]
  refine wpAnyH_ready (rs := [23]) (by kernel_rfl) (by simp) ?_
  refine AllReadyH.cons (o := ⟨_, _, _, _, _, _⟩) rfl (fun Kq hKq => ?_) AllReadyH.nil
  go_simp
  (have _t := hC37; go_at_call 85; refine (sameV_b (hC37.out.v 6 rfl) (hC37.out.vp 7 rfl) (Bv.scale ((Bv.of E1.out E2.out)) (E5.out)) (by omega)).mono ?_; rintro e w38 ⟨rfl, hb⟩; have hC38 : Hid (St w w38 [(wa.heap.size, #[.slice a21 n21 c21, .bool m21, .slice d21 e21 f21, .slice u21 x21 y21, .bool p21, .slice t21 o21 l21], 103), (wa.heap.size + 1, #[.int .i64 s22, .slice a22 n22 c22, .int .i64 t22, .slice d22 e22 f22, .int .i64 p22, .slice u22 x22 y22, .int .i64 g22, .slice i22 o22 l22], 105), (wb.heap.size, #[.slice a23 n23 c23, .bool m23, .slice d23 e23 f23, .slice u23 x23 y23, .bool p23, .slice t23 o23 l23], 103), (wb.heap.size + 1, #[.int .i64 s24, .slice a24 n24 c24, .int .i64 t24, .slice d24 e24 f24, .int .i64 p24, .slice u24 x24 y24, .int .i64 g24, .slice i24 o24 l24], 105), (wc.heap.size, #[.slice a25 n25 c25, .bool m25, .slice d25 e25 f25], 48), (wc.heap.size + 1, #[.int .i64 s26, .slice a26 n26 c26, .int .i64 t26, .slice d26 e26 f26], 54)] [fun V => Vd V (.slice a21 n21 c21) m21 (.slice d21 e21 f21) (.slice u21 x21 y21) p21 (.slice t21 o21 l21) ((x1, x2)), fun V => Nv V s22 (.slice a22 n22 c22) t22 (.slice d22 e22 f22) p22 (.slice u22 x22 y22) g22 (.slice i22 o22 l22) ((x1, x2)), fun V => Vd V (.slice a23 n23 c23) m23 (.slice d23 e23 f23) (.slice u23 x23 y23) p23 (.slice t23 o23 l23) ((x3, x4)), fun V => Nv V s24 (.slice a24 n24 c24) t24 (.slice d24 e24 f24) p24 (.slice u24 x24 y24) g24 (.slice i24 o24 l24) ((x3, x4)), fun V => Rd V (.slice a25 n25 c25) m25 (.slice d25 e25 f25) (x5), fun V => Nq V s26 (.slice a26 n26 c26) t26 (.slice d26 e26 f26) (x5)]) := Lib.hid (St.pick ((hC37.out.call hb)) [0, 1, 2, 3, 4, 5] rfl); clear hb; clear _t hC37)
  (try go_wp2_with fail)
  refine hKq.out _ _ ?_ (fun hH9 => ?_)
  · (try dsimp only)
    all_goals (with_reducible refine And.intro (?_ : World.cell? w38 _ = _) ?_; exact hC38.out.cell 0 0 rfl rfl; exact ⟨hC38.out.cell 0 1 rfl rfl, hC38.out.cell 0 2 rfl rfl, hC38.out.cell 0 3 rfl rfl, hC38.out.cell 0 4 rfl rfl, hC38.out.cell 0 5 rfl rfl, hC38.out.cell 1 0 rfl rfl, hC38.out.cell 1 1 rfl rfl, hC38.out.cell 1 2 rfl rfl, hC38.out.cell 1 3 rfl rfl, hC38.out.cell 1 4 rfl rfl, hC38.out.cell 1 5 rfl rfl, hC38.out.cell 1 6 rfl rfl, hC38.out.cell 1 7 rfl rfl, hC38.out.cell 2 0 rfl rfl, hC38.out.cell 2 1 rfl rfl, hC38.out.cell 2 2 rfl rfl, hC38.out.cell 2 3 rfl rfl, hC38.out.cell 2 4 rfl rfl, hC38.out.cell 2 5 rfl rfl, hC38.out.cell 3 0 rfl rfl, hC38.out.cell 3 1 rfl rfl, hC38.out.cell 3 2 rfl rfl, hC38.out.cell 3 3 rfl rfl, hC38.out.cell 3 4 rfl rfl, hC38.out.cell 3 5 rfl rfl, hC38.out.cell 3 6 rfl rfl, hC38.out.cell 3 7 rfl rfl, hC38.out.cell 4 0 rfl rfl, hC38.out.cell 4 1 rfl rfl, hC38.out.cell 4 2 rfl rfl, hC38.out.cell 5 0 rfl rfl, hC38.out.cell 5 1 rfl rfl, hC38.out.cell 5 2 rfl rfl, hC38.out.cell 5 3 rfl rfl, trivial⟩)
  clear hKq Kq hH8
  try simp only [Act.put, List.setIfInBounds_toArray, List.set_cons_zero, List.set_cons_succ]
  refine wpAnyH_take (i := 24) (oi := ⟨_, _, _, _, _, _⟩) (v := ?_) rfl (by kernel_rfl) (by kernel_rfl) (by kernel_rfl) (fun _ _ _ h => h) (Or.inl ⟨by rfl, ?_⟩) hH9 ?_
  rotate_left
  · intro wS hSw; (try dsimp only at hSw); go_simp; try with_reducible rfl
  try simp only [Act.put, List.setIfInBounds_toArray, List.set_cons_zero, List.set_cons_succ]
  refine wpAnyH_take (i := 25) (oi := ⟨_, _, _, _, _, _⟩) (v := ?_) rfl (by kernel_rfl) (by kernel_rfl) (by kernel_rfl) (fun _ _ _ h => h) (Or.inl ⟨by rfl, ?_⟩) hH9 ?_
  rotate_left
  · intro wS hSw; (try dsimp only at hSw); go_simp; try with_reducible rfl
  try simp only [Act.put, List.setIfInBounds_toArray, List.set_cons_zero, List.set_cons_succ]
  refine wpAnyH_take (i := 26) (oi := ⟨_, _, _, _, _, _⟩) (v := ?_) rfl (by kernel_rfl) (by kernel_rfl) (by kernel_rfl) (fun _ _ _ h => h) (Or.inl ⟨by rfl, ?_⟩) hH9 ?_
  rotate_left
  · intro wS hSw; (try dsimp only at hSw); go_simp; try with_reducible rfl
  try simp only [Act.put, List.setIfInBounds_toArray, List.set_cons_zero, List.set_cons_succ]
  refine wpAnyH_take (i := 27) (oi := ⟨_, _, _, _, _, _⟩) (v := ?_) rfl (by kernel_rfl) (by kernel_rfl) (by kernel_rfl) (fun _ _ _ h => h) (Or.inl ⟨by rfl, ?_⟩) hH9 ?_
  rotate_left
  · intro wS hSw; (try dsimp only at hSw); go_simp; try with_reducible rfl
  try simp only [Act.put, List.setIfInBounds_toArray, List.set_cons_zero, List.set_cons_succ]
  refine wpAnyH_take (i := 29) (oi := ⟨_, _, _, _, _, _⟩) (v := ?_) rfl (by kernel_rfl) (by kernel_rfl) (by kernel_rfl) (fun _ _ _ h => h) (Or.inl ⟨by rfl, ?_⟩) hH9 ?_
  rotate_left
  · intro wS hSw; (try dsimp only at hSw); go_simp; try with_reducible rfl
  try simp only [Act.put, List.setIfInBounds_toArray, List.set_cons_zero, List.set_cons_succ]
  refine wpAnyH_take (i := 30) (oi := ⟨_, _, _, _, _, _⟩) (v := ?_) rfl (by kernel_rfl) (by kernel_rfl) (by kernel_rfl) (fun _ _ _ h => h) (Or.inl ⟨by rfl, ?_⟩) hH9 ?_
  rotate_left
  · intro wS hSw; (try dsimp only at hSw); go_simp; try with_reducible rfl
  try simp only [Act.put, List.setIfInBounds_toArray, List.set_cons_zero, List.set_cons_succ]
  refine wpAnyH_ready (rs := [28]) (by kernel_rfl) (by simp) ?_
  refine AllReadyH.cons (o := ⟨_, _, _, _, _, _⟩) rfl (fun Kq hKq => ?_) AllReadyH.nil
  go_simp
  (have _t := hC38; go_at_call 92; refine (vdot_b (hC38.out.v 0 rfl) (hC38.out.v 2 rfl) (Bv.of E1.out E2.out) (Bv.of E3.out E4.out) (by omega) (by omega)).mono ?_; rintro e w39 ⟨a39, n39, c39, m39, d39, e39, f39, rfl, hz, hb⟩; have hC39 : Hid (St w w39 [(wa.heap.size, #[.slice a21 n21 c21, .bool m21, .slice d21 e21 f21, .slice u21 x21 y21, .bool p21, .slice t21 o21 l21], 103), (wa.heap.size + 1, #[.int .i64 s22, .slice a22 n22 c22, .int .i64 t22, .slice d22 e22 f22, .int .i64 p22, .slice u22 x22 y22, .int .i64 g22, .slice i22 o22 l22], 105), (wb.heap.size, #[.slice a23 n23 c23, .bool m23, .slice d23 e23 f23, .slice u23 x23 y23, .bool p23, .slice t23 o23 l23], 103), (wb.heap.size + 1, #[.int .i64 s24, .slice a24 n24 c24, .int .i64 t24, .slice d24 e24 f24, .int .i64 p24, .slice u24 x24 y24, .int .i64 g24, .slice i24 o24 l24], 105), (wc.heap.size, #[.slice a25 n25 c25, .bool m25, .slice d25 e25 f25], 48), (wc.heap.size + 1, #[.int .i64 s26, .slice a26 n26 c26, .int .i64 t26, .slice d26 e26 f26], 54)] [fun V => Vd V (.slice a21 n21 c21) m21 (.slice d21 e21 f21) (.slice u21 x21 y21) p21 (.slice t21 o21 l21) ((x1, x2)), fun V => Nv V s22 (.slice a22 n22 c22) t22 (.slice d22 e22 f22) p22 (.slice u22 x22 y22) g22 (.slice i22 o22 l22) ((x1, x2)), fun V => Vd V (.slice a23 n23 c23) m23 (.slice d23 e23 f23) (.slice u23 x23 y23) p23 (.slice t23 o23 l23) ((x3, x4)), fun V => Nv V s24 (.slice a24 n24 c24) t24 (.slice d24 e24 f24) p24 (.slice u24 x24 y24) g24 (.slice i24 o24 l24) ((x3, x4)), fun V => Rd V (.slice a25 n25 c25) m25 (.slice d25 e25 f25) (x5), fun V => Nq V s26 (.slice a26 n26 c26) t26 (.slice d26 e26 f26) (x5), fun V => Rd V (.slice a39 n39 c39) m39 (.slice d39 e39 f39) ((((x1, x2)).1 * ((x3, x4)).1 + ((x1, x2)).2 * ((x3, x4)).2))]) := Lib.hid (St.pick ((hC38.out.call hb).pr hz) [0, 1, 2, 3, 4, 5, 6] rfl); clear hb hz; clear _t hC38)
  (try go_wp2_with fail)
  refine hKq.out _ _ ?_ (fun hH10 => ?_)
  · (try dsimp only)
    all_goals (with_reducible refine And.intro (?_ : World.cell? w39 _ = _) ?_; exact hC39.out.cell 0 0 rfl rfl; exact ⟨hC39.out.cell 0 1 rfl rfl, hC39.out.cell 0 2 rfl rfl, hC39.out.cell 0 3 rfl rfl, hC39.out.cell 0 4 rfl rfl, hC39.out.cell 0 5 rfl rfl, hC39.out.cell 1 0 rfl rfl, hC39.out.cell 1 1 rfl rfl, hC39.out.cell 1 2 rfl rfl, hC39.out.cell 1 3 rfl rfl, hC39.out.cell 1 4 rfl rfl, hC39.out.cell 1 5 rfl rfl, hC39.out.cell 1 6 rfl rfl, hC39.out.cell 1 7 rfl rfl, hC39.out.cell 2 0 rfl rfl, hC39.out.cell 2 1 rfl rfl, hC39.out.cell 2 2 rfl rfl, hC39.out.cell 2 3 rfl rfl, hC39.out.cell 2 4 rfl rfl, hC39.out.cell 2 5 rfl rfl, hC39.out.cell 3 0 rfl rfl, hC39.out.cell 3 1 rfl rfl, hC39.out.cell 3 2 rfl rfl, hC39.out.cell 3 3 rfl rfl, hC39.out.cell 3 4 rfl rfl, hC39.out.cell 3 5 rfl rfl, hC39.out.cell 3 6 rfl rfl, hC39.out.cell 3 7 rfl rfl, hC39.out.cell 4 0 rfl rfl, hC39.out.cell 4 1 rfl rfl, hC39.out.cell 4 2 rfl rfl, hC39.out.cell 5 0 rfl rfl, hC39.out.cell 5 1 rfl rfl, hC39.out.cell 5 2 rfl rfl, hC39.out.cell 5 3 rfl rfl, trivial⟩)
  clear hKq Kq hH9
  try simp only [Act.put, List.setIfInBounds_toArray, List.set_cons_zero, List.set_cons_succ]
  refine wpAnyH_ready (rs := [31]) (by kernel_rfl) (by simp) ?_
  refine AllReadyH.cons (o := ⟨_, _, _, _, _, _⟩) rfl (fun Kq hKq => ?_) AllReadyH.nil
  go_simp
  (have _t := hC39; go_at_call 93; refine (vdotN_b (hC39.out.vp 1 rfl) (hC39.out.vp 3 rfl) (Bv.of E1.out E2.out) (Bv.of E3.out E4.out) (by omega) (by omega)).mono ?_; rintro e w40 ⟨s40, a40, n40, c40, t40, d40, e40, f40, rfl, hz, hb⟩; have hC40 : Hid (St w w40 [(wa.heap.size, #[.slice a21 n21 c21, .bool m21, .slice d21 e21 f21, .slice u21 x21 y21, .bool p21, .slice t21 o21 l21], 103), (wa.heap.size + 1, #[.int .i64 s22, .slice a22 n22 c22, .int .i64 t22, .slice d22 e22 f22, .int .i64 p22, .slice u22 x22 y22, .int .i64 g22, .slice i22 o22 l22], 105), (wb.heap.size, #[.slice a23 n23 c23, .bool m23, .slice d23 e23 f23, .slice u23 x23 y23, .bool p23, .slice t23 o23 l23], 103), (wb.heap.size + 1, #[.int .i64 s24, .slice a24 n24 c24, .int .i64 t24, .slice d24 e24 f24, .int .i64 p24, .slice u24 x24 y24, .int .i64 g24, .slice i24 o24 l24], 105), (wc.heap.size, #[.slice a25 n25 c25, .bool m25, .slice d25 e25 f25], 48), (wc.heap.size + 1, #[.int .i64 s26, .slice a26 n26 c26, .int .i64 t26, .slice d26 e26 f26], 54)] [fun V => Vd V (.slice a21 n21 c21) m21 (.slice d21 e21 f21) (.slice u21 x21 y21) p21 (.slice t21 o21 l21) ((x1, x2)), fun V => Nv V s22 (.slice a22 n22 c22) t22 (.slice d22 e22 f22) p22 (.slice u22 x22 y22) g22 (.slice i22 o22 l22) ((x1, x2)), fun V => Vd V (.slice a23 n23 c23) m23 (.slice d23 e23 f23) (.slice u23 x23 y23) p23 (.slice t23 o23 l23) ((x3, x4)), fun V => Nv V s24 (.slice a24 n24 c24) t24 (.slice d24 e24 f24) p24 (.slice u24 x24 y24) g24 (.slice i24 o24 l24) ((x3, x4)), fun V => Rd V (.slice a25 n25 c25) m25 (.slice d25 e25 f25) (x5), fun V => Nq V s26 (.slice a26 n26 c26) t26 (.slice d26 e26 f26) (x5), fun V => Rd V (.slice a39 n39 c39) m39 (.slice d39 e39 f39) ((((x1, x2)).1 * ((x3, x4)).1 + ((x1, x2)).2 * ((x3, x4)).2)), fun V => Nq V s40 (.slice a40 n40 c40) t40 (.slice d40 e40 f40) ((((x1, x2)).1 * ((x3, x4)).1 + ((x1, x2)).2 * ((x3, x4)).2))]) := Lib.hid (St.pick ((hC39.out.call hb).pq hz) [0, 1, 2, 3, 4, 5, 6, 7] rfl); clear hb hz; clear _t hC39)
  (try go_wp2_with fail)
  refine hKq.out _ _ ?_ (fun hH11 => ?_)
  · (try dsimp only)
    all_goals (with_reducible refine And.intro (?_ : World.cell? w40 _ = _) ?_; exact hC40.out.cell 0 0 rfl rfl; exact ⟨hC40.out.cell 0 1 rfl rfl, hC40.out.cell 0 2 rfl rfl, hC40.out.cell 0 3 rfl rfl, hC40.out.cell 0 4 rfl rfl, hC40.out.cell 0 5 rfl rfl, hC40.out.cell 1 0 rfl rfl, hC40.out.cell 1 1 rfl rfl, hC40.out.cell 1 2 rfl rfl, hC40.out.cell 1 3 rfl rfl, hC40.out.cell 1 4 rfl rfl, hC40.out.cell 1 5 rfl rfl, hC40.out.cell 1 6 rfl rfl, hC40.out.cell 1 7 rfl rfl, hC40.out.cell 2 0 rfl rfl, hC40.out.cell 2 1 rfl rfl, hC40.out.cell 2 2 rfl rfl, hC40.out.cell 2 3 rfl rfl, hC40.out.cell 2 4 rfl rfl, hC40.out.cell 2 5 rfl rfl, hC40.out.cell 3 0 rfl rfl, hC40.out.cell 3 1 rfl rfl, hC40.out.cell 3 2 rfl rfl, hC40.out.cell 3 3 rfl rfl, hC40.out.cell 3 4 rfl rfl, hC40.out.cell 3 5 rfl rfl, hC40.out.cell 3 6 rfl rfl, hC40.out.cell 3 7 rfl rfl, hC40.out.cell 4 0 rfl rfl, hC40.out.cell 4 1 rfl rfl, hC40.out.cell 4 2 rfl rfl, hC40.out.cell 5 0 rfl rfl, hC40.out.cell 5 1 rfl rfl, hC40.out.cell 5 2 rfl rfl, hC40.out.cell 5 3 rfl rfl, trivial⟩)
  clear hKq Kq hH10
  try simp only [Act.put, List.setIfInBounds_toArray, List.set_cons_zero, List.set_cons_succ]
  refine wpAnyH_ready (rs := [32]) (by kernel_rfl) (by simp) ?_
  refine AllReadyH.cons (o := ⟨_, _, _, _, _, _⟩) rfl (fun Kq hKq => ?_) AllReadyH.nil
  go_simp
  (have _t := hC40; go_at_call 27; refine (same_b (hC40.out.r 6 rfl) (hC40.out.rq 7 rfl) (Bv.dot ((Bv.of E1.out E2.out)) ((Bv.of E3.out E4.out))) (by omega)).mono ?_; rintro e w41 ⟨rfl, hb⟩; have hC41 : Hid (St w w41 [(wa.heap.size, #[.slice a21 n21 c21, .bool m21, .slice d21 e21 f21, .slice u21 x21 y21, .bool p21, .slice t21 o21 l21], 103), (wa.heap.size + 1, #[.int .i64 s22, .slice a22 n22 c22, .int .i64 t22, .slice d22 e22 f22, .int .i64 p22, .slice u22 x22 y22, .int .i64 g22, .slice i22 o22 l22], 105), (wb.heap.size, #[.slice a23 n23 c23, .bool m23, .slice d23 e23 f23, .slice u23 x23 y23, .bool p23, .slice t23 o23 l23], 103), (wb.heap.size + 1, #[.int .i64 s24, .slice a24 n24 c24, .int .i64 t24, .slice d24 e24 f24, .int .i64 p24, .slice u24 x24 y24, .int .i64 g24, .slice i24 o24 l24], 105), (wc.heap.size, #[.slice a25 n25 c25, .bool m25, .slice d25 e25 f25], 48), (wc.heap.size + 1, #[.int .i64 s26, .slice a26 n26 c26, .int .i64 t26, .slice d26 e26 f26], 54)] [fun V => Vd V (.slice a21 n21 c21) m21 (.slice d21 e21 f21) (.slice u21 x21 y21) p21 (.slice t21 o21 l21) ((x1, x2)), fun V => Nv V s22 (.slice a22 n22 c22) t22 (.slice d22 e22 f22) p22 (.slice u22 x22 y22) g22 (.slice i22 o22 l22) ((x1, x2)), fun V => Vd V (.slice a23 n23 c23) m23 (.slice d23 e23 f23) (.slice u23 x23 y23) p23 (.slice t23 o23 l23) ((x3, x4)), fun V => Nv V s24 (.slice a24 n24 c24) t24 (.slice d24 e24 f24) p24 (.slice u24 x24 y24) g24 (.slice i24 o24 l24) ((x3, x4)), fun V => Rd V (.slice a25 n25 c25) m25 (.slice d25 e25 f25) (x5), fun V => Nq V s26 (.slice a26 n26 c26) t26 (.slice d26 e26 f26) (x5)]) := Lib.hid (St.pick ((hC40.out.call hb)) [0, 1, 2, 3, 4, 5] rfl); clear hb; clear _t hC40)
  (try go_wp2_with fail)
  refine hKq.out _ _ ?_ (fun hH12 => ?_)
  · (try dsimp only)
    all_goals (with_reducible refine And.intro (?_ : World.cell? w41 _ = _) ?_; exact hC41.out.cell 0 0 rfl rfl; exact ⟨hC41.out.cell 0 1 rfl rfl, hC41.out.cell 0 2 rfl rfl, hC41.out.cell 0 3 rfl rfl, hC41.out.cell 0 4 rfl rfl, hC41.out.cell 0 5 rfl rfl, hC41.out.cell 1 0 rfl rfl, hC41.out.cell 1 1 rfl rfl, hC41.out.cell 1 2 rfl rfl, hC41.out.cell 1 3 rfl rfl, hC41.out.cell 1 4 rfl rfl, hC41.out.cell 1 5 rfl rfl, hC41.out.cell 1 6 rfl rfl, hC41.out.cell 1 7 rfl rfl, hC41.out.cell 2 0 rfl rfl, hC41.out.cell 2 1 rfl rfl, hC41.out.cell 2 2 rfl rfl, hC41.out.cell 2 3 rfl rfl, hC41.out.cell 2 4 rfl rfl, hC41.out.cell 2 5 rfl rfl, hC41.out.cell 3 0 rfl rfl, hC41.out.cell 3 1 rfl rfl, hC41.out.cell 3 2 rfl rfl, hC41.out.cell 3 3 rfl rfl, hC41.out.cell 3 4 rfl rfl, hC41.out.cell 3 5 rfl rfl, hC41.out.cell 3 6 rfl rfl, hC41.out.cell 3 7 rfl rfl, hC41.out.cell 4 0 rfl rfl, hC41.out.cell 4 1 rfl rfl, hC41.out.cell 4 2 rfl rfl, hC41.out.cell 5 0 rfl rfl, hC41.out.cell 5 1 rfl rfl, hC41.out.cell 5 2 rfl rfl, hC41.out.cell 5 3 rfl rfl, trivial⟩)
  clear hKq Kq hH11
  try simp only [Act.put, List.setIfInBounds_toArray, List.set_cons_zero, List.set_cons_succ]
  refine wpAnyH_take (i := 33) (oi := ⟨_, _, _, _, _, _⟩) (v := ?_) rfl (by kernel_rfl) (by kernel_rfl) (by kernel_rfl) (fun _ _ _ h => h) (Or.inl ⟨by rfl, ?_⟩) hH12 ?_
  rotate_left
  · intro wS hSw; (try dsimp only at hSw); go_simp; try with_reducible rfl
  try simp only [Act.put, List.setIfInBounds_toArray, List.set_cons_zero, List.set_cons_succ]
  refine wpAnyH_take (i := 34) (oi := ⟨_, _, _, _, _, _⟩) (v := ?_) rfl (by kernel_rfl) (by kernel_rfl) (by kernel_rfl) (fun _ _ _ h => h) (Or.inl ⟨by rfl, ?_⟩) hH12 ?_
  rotate_left
  · intro wS hSw; (try dsimp only at hSw); go_simp; try with_reducible rfl
  try simp only [Act.put, List.setIfInBounds_toArray, List.set_cons_zero, List.set_cons_succ]
  refine wpAnyH_take (i := 35) (oi := ⟨_, _, _, _, _, _⟩) (v := ?_) rfl (by kernel_rfl) (by kernel_rfl) (by kernel_rfl) (fun _ _ _ h => h) (Or.inl ⟨by rfl, ?_⟩) hH12 ?_
  rotate_left
  · intro wS hSw; (try dsimp only at hSw); go_simp; try with_reducible rfl
  try simp only [Act.put, List.setIfInBounds_toArray, List.set_cons_zero, List.set_cons_succ]
  refine wpAnyH_take (i := 36) (oi := ⟨_, _, _, _, _, _⟩) (v := ?_) rfl (by kernel_rfl) (by kernel_rfl) (by kernel_rfl) (fun _ _ _ h => h) (Or.inl ⟨by rfl, ?_⟩) hH12 ?_
  rotate_left
  · intro wS hSw; (try dsimp only at hSw); go_simp; try with_reducible rfl
  try simp only [Act.put, List.setIfInBounds_toArray, List.set_cons_zero, List.set_cons_succ]
  refine wpAnyH_take (i := 38) (oi := ⟨_, _, _, _, _, _⟩) (v := ?_) rfl (by kernel_rfl) (by kernel_rfl) (by kernel_rfl) (fun _ _ _ h => h) (Or.inl ⟨by rfl, ?_⟩) hH12 ?_
  rotate_left
  · intro wS hSw; (try dsimp only at hSw); go_simp; try with_reducible rfl
  try simp only [Act.put, List.setIfInBounds_toArray, List.set_cons_zero, List.set_cons_succ]
  refine wpAnyH_take (i := 39) (oi := ⟨_, _, _, _, _, _⟩) (v := ?_) rfl (by kernel_rfl) (by kernel_rfl) (by kernel_rfl) (fun _ _ _ h => h) (Or.inl ⟨by rfl, ?_⟩) hH12 ?_
  rotate_left
  · intro wS hSw; (try dsimp only at hSw); go_simp; try with_reducible rfl
  try simp only [Act.put, List.setIfInBounds_toArray, List.set_cons_zero, List.set_cons_succ]
  refine wpAnyH_ready (rs := [37]) (by kernel_rfl) (by simp) ?_
  refine AllReadyH.cons (o := ⟨_, _, _, _, _, _⟩) rfl (fun Kq hKq => ?_) AllReadyH.nil
  go_simp
  (have _t := hC41; go_at_call 94; refine (vcross_b (hC41.out.v 0 rfl) (hC41.out.v 2 rfl) (Bv.of E1.out E2.out) (Bv.of E3.out E4.out) (by omega) (by omega)).mono ?_; rintro e w42 ⟨a42, n42, c42, m42, d42, e42, f42, rfl, hz, hb⟩; have hC42 : Hid (St w w42 [(wa.heap.size, #[.slice a21 n21 c21, .bool m21, .slice d21 e21 f21, .slice u21 x21 y21, .bool p21, .slice t21 o21 l21], 103), (wa.heap.size + 1, #[.int .i64 s22, .slice a22 n22 c22, .int .i64 t22, .slice d22 e22 f22, .int .i64 p22, .slice u22 x22 y22, .int .i64 g22, .slice i22 o22 l22], 105), (wb.heap.size, #[.slice a23 n23 c23, .bool m23, .slice d23 e23 f23, .slice u23 x23 y23, .bool p23, .slice t23 o23 l23], 103), (wb.heap.size + 1, #[.int .i64 s24, .slice a24 n24 c24, .int .i64 t24, .slice d24 e24 f24, .int .i64 p24, .slice u24 x24 y24, .int .i64 g24, .slice i24 o24 l24], 105), (wc.heap.size, #[.slice a25 n25 c25, .bool m25, .slice d25 e25 f25], 48), (wc.heap.size + 1, #[.int .i64 s26, .slice a26 n26 c26, .int .i64 t26, .slice d26 e26 f26], 54)] [fun V => Vd V (.slice a21 n21 c21) m21 (.slice d21 e21 f21) (.slice u21 x21 y21) p21 (.slice t21 o21 l21) ((x1, x2)), fun V => Nv V s22 (.slice a22 n22 c22) t22 (.slice d22 e22 f22) p22 (.slice u22 x22 y22) g22 (.slice i22 o22 l22) ((x1, x2)), fun V => Vd V (.slice a23 n23 c23) m23 (.slice d23 e23 f23) (.slice u23 x23 y23) p23 (.slice t23 o23 l23) ((x3, x4)), fun V => Nv V s24 (.slice a24 n24 c24) t24 (.slice d24 e24 f24) p24 (.slice u24 x24 y24) g24 (.slice i24 o24 l24) ((x3, x4)), fun V => Rd V (.slice a25 n25 c25) m25 (.slice d25 e25 f25) (x5), fun V => Nq V s26 (.slice a26 n26 c26) t26 (.slice d26 e26 f26) (x5), fun V => Rd V (.slice a42 n42 c42) m42 (.slice d42 e42 f42) ((((x1, x2)).1 * ((x3, x4)).2 - ((x1, x2)).2 * ((x3, x4)).1))]) := Lib.hid (St.pick ((hC41.out.call hb).pr hz) [0, 1, 2, 3, 4, 5, 6] rfl); clear hb hz; clear _t hC41)
  (try go_wp2_with fail)
  refine hKq.out _ _ ?_ (fun hH13 => ?_)
  · (try dsimp only)
    all_goals (with_reducible refine And.intro (?_ : World.cell? w42 _ = _) ?_; exact hC42.out.cell 0 0 rfl rfl; exact ⟨hC42.out.cell 0 1 rfl rfl, hC42.out.cell 0 2 rfl rfl, hC42.out.cell 0 3 rfl rfl, hC42.out.cell 0 4 rfl rfl, hC42.out.cell 0 5 rfl rfl, hC42.out.cell 1 0 rfl rfl, hC42.out.cell 1 1 rfl rfl, hC42.out.cell 1 2 rfl rfl, hC42.out.cell 1 3 rfl rfl, hC42.out.cell 1 4 rfl rfl, hC42.out.cell 1 5 rfl rfl, hC42.out.cell 1 6 rfl rfl, hC42.out.cell 1 7 rfl rfl, hC42.out.cell 2 0 rfl rfl, hC42.out.cell 2 1 rfl rfl, hC42.out.cell 2 2 rfl rfl, hC42.out.cell 2 3 rfl rfl, hC42.out.cell 2 4 rfl rfl, hC42.out.cell 2 5 rfl rfl, hC42.out.cell 3 0 rfl rfl, hC42.out.cell 3 1 rfl rfl, hC42.out.cell 3 2 rfl rfl, hC42.out.cell 3 3 rfl rfl, hC42.out.cell 3 4 rfl rfl, hC42.out.cell 3 5 rfl rfl, hC42.out.cell 3 6 rfl rfl, hC42.out.cell 3 7 rfl rfl, hC42.out.cell 4 0 rfl rfl, hC42.out.cell 4 1 rfl rfl, hC42.out.cell 4 2 rfl rfl, hC42.out.cell 5 0 rfl rfl, hC42.out.cell 5 1 rfl rfl, hC42.out.cell 5 2 rfl rfl, hC42.out.cell 5 3 rfl rfl, trivial⟩)
  clear hKq Kq hH12
  try simp only [Act.put, List.setIfInBounds_toArray, List.set_cons_zero, List.set_cons_succ]
  refine wpAnyH_ready (rs := [40]) (by kernel_rfl) (by simp) ?_
  refine AllReadyH.cons (o := ⟨_, _, _, _, _, _⟩) rfl (fun Kq hKq => ?_) AllReadyH.nil
  go_simp
  (have _t := hC42; go_at_call 95; refine (vcrossN_b (hC42.out.vp 1 rfl) (hC42.out.vp 3 rfl) (Bv.of E1.out E2.out) (Bv.of E3.out E4.out) (by omega) (by omega)).mono ?_; rintro e w43 ⟨s43, a43, n43, c43, t43, d43, e43, f43, rfl, hz, hb⟩; have hC43 : Hid (St w w43 [(wa.heap.size, #[.slice a21 n21 c21, .bool m21, .slice d21 e21 f21, .slice u21 x21 y21, .bool p21, .slice t21 o21 l21], 103), (wa.heap.size + 1, #[.int .i64 s22, .slice a22 n22 c22, .int .i64 t22, .slice d22 e22 f22, .int .i64 p22, .slice u22 x22 y22, .int .i64 g22, .slice i22 o22 l22], 105), (wb.heap.size, #[.slice a23 n23 c23, .bool m23, .slice d23 e23 f23, .slice u23 x23 y23, .bool p23, .slice t23 o23 l23], 103), (wb.heap.size + 1, #[.int .i64 s24, .slice a24 n24 c24, .int .i64 t24, .slice d24 e24 f24, .int .i64 p24, .slice u24 x24 y24, .int .i64 g24, .slice i24 o24 l24], 105), (wc.heap.size, #[.slice a25 n25 c25, .bool m25, .slice d25 e25 f25], 48), (wc.heap.size + 1, #[.int .i64 s26, .slice a26 n26 c26, .int .i64 t26, .slice d26 e26 f26], 54)] [fun V => Vd V (.slice a21 n21 c21) m21 (.slice d21 e21 f21) (.slice u21 x21 y21) p21 (.slice t21 o21 l21) ((x1, x2)), fun V => Nv V s22 (.slice a22 n22 c22) t22 (.slice d22 e22 f22) p22 (.slice u22 x22 y22) g22 (.slice i22 o22 l22) ((x1, x2)), fun V => Vd V (.slice a23 n23 c23) m23 (.slice d23 e23 f23) (.slice u23 x23 y23) p23 (.slice t23 o23 l23) ((x3, x4)), fun V => Nv V s24 (.slice a24 n24 c24) t24 (.slice d24 e24 f24) p24 (.slice u24 x24 y24) g24 (.slice i24 o24 l24) ((x3, x4)), fun V => Rd V (.slice a25 n25 c25) m25 (.slice d25 e25 f25) (x5), fun V => Nq V s26 (.slice a26 n26 c26) t26 (.slice d26 e26 f26) (x5), fun V => Rd V (.slice a42 n42 c42) m42 (.slice d42 e42 f42) ((((x1, x2)).1 * ((x3, x4)).2 - ((x1, x2)).2 * ((x3, x4)).1)), fun V => Nq V s43 (.slice a43 n43 c43) t43 (.slice d43 e43 f43) ((((x1, x2)).1 * ((x3, x4)).2 - ((x1, x2)).2 * ((x3, x4)).1))]) := Lib.hid (St.pick ((hC42.out.call hb).pq hz) [0, 1, 2, 3, 4, 5, 6, 7] rfl); clear hb hz; clear _t hC42)
  (try go_wp2_with fail)
  refine hKq.out _ _ ?_ (fun hH14 => ?_)
  · (try dsimp only)
    all_goals (with_reducible refine And.intro (?_ : World.cell? w43 _ = _) ?_; exact hC43.out.cell 0 0 rfl rfl; exact ⟨hC43.out.cell 0 1 rfl rfl, hC43.out.cell 0 2 rfl rfl, hC43.out.cell 0 3 rfl rfl, hC43.out.cell 0 4 rfl rfl, hC43.out.cell 0 5 rfl rfl, hC43.out.cell 1 0 rfl rfl, hC43.out.cell 1 1 rfl rfl, hC43.out.cell 1 2 rfl rfl, hC43.out.cell 1 3 rfl rfl, hC43.out.cell 1 4 rfl rfl, hC43.out.cell 1 5 rfl rfl, hC43.out.cell 1 6 rfl rfl, hC43.out.cell 1 7 rfl rfl, hC43.out.cell 2 0 rfl rfl, hC43.out.cell 2 1 rfl rfl, hC43.out.cell 2 2 rfl rfl, hC43.out.cell 2 3 rfl rfl, hC43.out.cell 2 4 rfl rfl, hC43.out.cell 2 5 rfl rfl, hC43.out.cell 3 0 rfl rfl, hC43.out.cell 3 1 rfl rfl, hC43.out.cell 3 2 rfl rfl, hC43.out.cell 3 3 rfl rfl, hC43.out.cell 3 4 rfl rfl, hC43.out.cell 3 5 rfl rfl, hC43.out.cell 3 6 rfl rfl, hC43.out.cell 3 7 rfl rfl, hC43.out.cell 4 0 rfl rfl, hC43.out.cell 4 1 rfl rfl, hC43.out.cell 4 2 rfl rfl, hC43.out.cell 5 0 rfl rfl, hC43.out.cell 5 1 rfl rfl, hC43.out.cell 5 2 rfl rfl, hC43.out.cell 5 3 rfl rfl, trivial⟩)
  clear hKq Kq hH13
  try simp only [Act.put, List.setIfInBounds_toArray, List.set_cons_zero, List.set_cons_succ]
  refine wpAnyH_ready (rs := [41]) (by kernel_rfl) (by simp) ?_
  refine AllReadyH.cons (o := ⟨_, _, _, _, _, _⟩) rfl (fun Kq hKq => ?_) AllReadyH.nil
  go_simp
  (have _t := hC43; go_at_call 27; refine (same_b (hC43.out.r 6 rfl) (hC43.out.rq 7 rfl) (Bv.cross ((Bv.of E1.out E2.out)) ((Bv.of E3.out E4.out))) (by omega)).mono ?_; rintro e w44 ⟨rfl, hb⟩; have hC44 : Hid (St w w44 [(wa.heap.size, #[.slice a21 n21 c21, .bool m21, .slice d21 e21 f21, .slice u21 x21 y21, .bool p21, .slice t21 o21 l21], 103), (wa.heap.size + 1, #[.int .i64 s22, .slice a22 n22 c22, .int .i64 t22, .slice d22 e22 f22, .int .i64 p22, .slice u22 x22 y22, .int .i64 g22, .slice i22 o22 l22], 105), (wb.heap.size, #[.slice a23 n23 c23, .bool m23, .slice d23 e23 f23, .slice u23 x23 y23, .bool p23, .slice t23 o23 l23], 103), (wb.heap.size + 1, #[.int .i64 s24, .slice a24 n24 c24, .int .i64 t24, .slice d24 e24 f24, .int .i64 p24, .slice u24 x24 y24, .int .i64 g24, .slice i24 o24 l24], 105), (wc.heap.size, #[.slice a25 n25 c25, .bool m25, .slice d25 e25 f25], 48), (wc.heap.size + 1, #[.int .i64 s26, .slice a26 n26 c26, .int .i64 t26, .slice d26 e26 f26], 54)] [fun V => Vd V (.slice a21 n21 c21) m21 (.slice d21 e21 f21) (.slice u21 x21 y21) p21 (.slice t21 o21 l21) ((x1, x2)), fun V => Nv V s22 (.slice a22 n22 c22) t22 (.slice d22 e22 f22) p22 (.slice u22 x22 y22) g22 (.slice i22 o22 l22) ((x1, x2)), fun V => Vd V (.slice a23 n23 c23) m23 (.slice d23 e23 f23) (.slice u23 x23 y23) p23 (.slice t23 o23 l23) ((x3, x4)), fun V => Nv V s24 (.slice a24 n24 c24) t24 (.slice d24 e24 f24) p24 (.slice u24 x24 y24) g24 (.slice i24 o24 l24) ((x3, x4)), fun V => Rd V (.slice a25 n25 c25) m25 (.slice d25 e25 f25) (x5), fun V => Nq V s26 (.slice a26 n26 c26) t26 (.slice d26 e26 f26) (x5)]) := Lib.hid (St.pick ((hC43.out.call hb)) [0, 1, 2, 3, 4, 5] rfl); clear hb; clear _t hC43)
  (try go_wp2_with fail)
  refine hKq.out _ _ ?_ (fun hH15 => ?_)
  · (try dsimp only)
    all_goals (with_reducible refine And.intro (?_ : World.cell? w44 _ = _) ?_; exact hC44.out.cell 0 0 rfl rfl; exact ⟨hC44.out.cell 0 1 rfl rfl, hC44.out.cell 0 2 rfl rfl, hC44.out.cell 0 3 rfl rfl, hC44.out.cell 0 4 rfl rfl, hC44.out.cell 0 5 rfl rfl, hC44.out.cell 1 0 rfl rfl, hC44.out.cell 1 1 rfl rfl, hC44.out.cell 1 2 rfl rfl, hC44.out.cell 1 3 rfl rfl, hC44.out.cell 1 4 rfl rfl, hC44.out.cell 1 5 rfl rfl, hC44.out.cell 1 6 rfl rfl, hC44.out.cell 1 7 rfl rfl, hC44.out.cell 2 0 rfl rfl, hC44.out.cell 2 1 rfl rfl, hC44.out.cell 2 2 rfl rfl, hC44.out.cell 2 3 rfl rfl, hC44.out.cell 2 4 rfl rfl, hC44.out.cell 2 5 rfl rfl, hC44.out.cell 3 0 rfl rfl, hC44.out.cell 3 1 rfl rfl, hC44.out.cell 3 2 rfl rfl, hC44.out.cell 3 3 rfl rfl, hC44.out.cell 3 4 rfl rfl, hC44.out.cell 3 5 rfl rfl, hC44.out.cell 3 6 rfl rfl, hC44.out.cell 3 7 rfl rfl, hC44.out.cell 4 0 rfl rfl, hC44.out.cell 4 1 rfl rfl, hC44.out.cell 4 2 rfl rfl, hC44.out.cell 5 0 rfl rfl, hC44.out.cell 5 1 rfl rfl, hC44.out.cell 5 2 rfl rfl, hC44.out.cell 5 3 rfl rfl, trivial⟩)
  clear hKq Kq hH14
  try simp only [Act.put, List.setIfInBounds_toArray, List.set_cons_zero, List.set_cons_succ]
  refine wpAnyH_take (i := 42) (oi := ⟨_, _, _, _, _, _⟩) (v := ?_) rfl (by kernel_rfl) (by kernel_rfl) (by kernel_rfl) (fun _ _ _ h => h) (Or.inl ⟨by rfl, ?_⟩) hH15 ?_
  rotate_left
  · intro wS hSw; (try dsimp only at hSw); go_simp; try with_reducible rfl
  try simp only [Act.put, List.setIfInBounds_toArray, List.set_cons_zero, List.set_cons_succ]
  refine wpAnyH_take (i := 43) (oi := ⟨_, _, _, _, _, _⟩) (v := ?_) rfl (by kernel_rfl) (by kernel_rfl) (by kernel_rfl) (fun _ _ _ h => h) (Or.inl ⟨by rfl, ?_⟩) hH15 ?_
  rotate_left
  · intro wS hSw; (try dsimp only at hSw); go_simp; try with_reducible rfl
  try simp only [Act.put, List.setIfInBounds_toArray, List.set_cons_zero, List.set_cons_succ]
  refine wpAnyH_take (i := 44) (oi := ⟨_, _, _, _, _, _⟩) (v := ?_) rfl (by kernel_rfl) (by kernel_rfl) (by kernel_rfl) (fun _ _ _ h => h) (Or.inl ⟨by rfl, ?_⟩) hH15 ?_
  rotate_left
  · intro wS hSw; (try dsimp only at hSw); go_simp; try with_reducible rfl
  try simp only [Act.put, List.setIfInBounds_toArray, List.set_cons_zero, List.set_cons_succ]
  refine wpAnyH_take (i := 45) (oi := ⟨_, _, _, _, _, _⟩) (v := ?_) rfl (by kernel_rfl) (by kernel_rfl) (by kernel_rfl) (fun _ _ _ h => h) (Or.inl ⟨by rfl, ?_⟩) hH15 ?_
  rotate_left
  · intro wS hSw; (try dsimp only at hSw); go_simp; try with_reducible rfl
  try simp only [Act.put, List.setIfInBounds_toArray, List.set_cons_zero, List.set_cons_succ]
  refine wpAnyH_take (i := 47) (oi := ⟨_, _, _, _, _, _⟩) (v := ?_) rfl (by kernel_rfl) (by kernel_rfl) (by kernel_rfl) (fun _ _ _ h => h) (Or.inl ⟨by rfl, ?_⟩) hH15 ?_
  rotate_left
  · intro wS hSw; (try dsimp only at hSw); go_simp; try with_reducible rfl
  try simp only [Act.put, List.setIfInBounds_toArray, List.set_cons_zero, List.set_cons_succ]
  refine wpAnyH_take (i := 48) (oi := ⟨_, _, _, _, _, _⟩) (v := ?_) rfl (by kernel_rfl) (by kernel_rfl) (by kernel_rfl) (fun _ _ _ h => h) (Or.inl ⟨by rfl, ?_⟩) hH15 ?_
  rotate_left
  · intro wS hSw; (try dsimp only at hSw); go_simp; try with_reducible rfl
  try simp only [Act.put, List.setIfInBounds_toArray, List.set_cons_zero, List.set_cons_succ]
  refine wpAnyH_ready (rs := [46]) (by kernel_rfl) (by simp) ?_
  refine AllReadyH.cons (o := ⟨_, _, _, _, _, _⟩) rfl (fun Kq hKq => ?_) AllReadyH.nil
  go_simp
  (have _t := hC44; go_at_call 96; refine (vsame_is (hC44.out.v 0 rfl) (hC44.out.v 2 rfl) (Bv.of E1.out E2.out) (Bv.of E3.out E4.out) (by omega) (by omega) HU.out).mono ?_; rintro e w45 ⟨rfl, hb⟩; have hC45 : Hid (St w w45 [(wa.heap.size, #[.slice a21 n21 c21, .bool m21, .slice d21 e21 f21, .slice u21 x21 y21, .bool p21, .slice t21 o21 l21], 103), (wa.heap.size + 1, #[.int .i64 s22, .slice a22 n22 c22, .int .i64 t22, .slice d22 e22 f22, .int .i64 p22, .slice u22 x22 y22, .int .i64 g22, .slice i22 o22 l22], 105), (wb.heap.size, #[.slice a23 n23 c23, .bool m23, .slice d23 e23 f23, .slice u23 x23 y23, .bool p23, .slice t23 o23 l23], 103), (wb.heap.size + 1, #[.int .i64 s24, .slice a24 n24 c24, .int .i64 t24, .slice d24 e24 f24, .int .i64 p24, .slice u24 x24 y24, .int .i64 g24, .slice i24 o24 l24], 105), (wc.heap.size, #[.slice a25 n25 c25, .bool m25, .slice d25 e25 f25], 48), (wc.heap.size + 1, #[.int .i64 s26, .slice a26 n26 c26, .int .i64 t26, .slice d26 e26 f26], 54)] [fun V => Vd V (.slice a21 n21 c21) m21 (.slice d21 e21 f21) (.slice u21 x21 y21) p21 (.slice t21 o21 l21) ((x1, x2)), fun V => Nv V s22 (.slice a22 n22 c22) t22 (.slice d22 e22 f22) p22 (.slice u22 x22 y22) g22 (.slice i22 o22 l22) ((x1, x2)), fun V => Vd V (.slice a23 n23 c23) m23 (.slice d23 e23 f23) (.slice u23 x23 y23) p23 (.slice t23 o23 l23) ((x3, x4)), fun V => Nv V s24 (.slice a24 n24 c24) t24 (.slice d24 e24 f24) p24 (.slice u24 x24 y24) g24 (.slice i24 o24 l24) ((x3, x4)), fun V => Rd V (.slice a25 n25 c25) m25 (.slice d25 e25 f25) (x5), fun V => Nq V s26 (.slice a26 n26 c26) t26 (.slice d26 e26 f26) (x5)]) := Lib.hid (St.pick ((hC44.out.call hb)) [0, 1, 2, 3, 4, 5] rfl); clear hb; clear _t hC44)
  (try go_wp2_with fail)
  refine hKq.out _ _ ?_ (fun hH16 => ?_)
  · (try dsimp only)
    all_goals (with_reducible refine And.intro (?_ : World.cell? w45 _ = _) ?_; exact hC45.out.cell 0 0 rfl rfl; exact ⟨hC45.out.cell 0 1 rfl rfl, hC45.out.cell 0 2 rfl rfl, hC45.out.cell 0 3 rfl rfl, hC45.out.cell 0 4 rfl rfl, hC45.out.cell 0 5 rfl rfl, hC45.out.cell 1 0 rfl rfl, hC45.out.cell 1 1 rfl rfl, hC45.out.cell 1 2 rfl rfl, hC45.out.cell 1 3 rfl rfl, hC45.out.cell 1 4 rfl rfl, hC45.out.cell 1 5 rfl rfl, hC45.out.cell 1 6 rfl rfl, hC45.out.cell 1 7 rfl rfl, hC45.out.cell 2 0 rfl rfl, hC45.out.cell 2 1 rfl rfl, hC45.out.cell 2 2 rfl rfl, hC45.out.cell 2 3 rfl rfl, hC45.out.cell 2 4 rfl rfl, hC45.out.cell 2 5 rfl rfl, hC45.out.cell 3 0 rfl rfl, hC45.out.cell 3 1 rfl rfl, hC45.out.cell 3 2 rfl rfl, hC45.out.cell 3 3 rfl rfl, hC45.out.cell 3 4 rfl rfl, hC45.out.cell 3 5 rfl rfl, hC45.out.cell 3 6 rfl rfl, hC45.out.cell 3 7 rfl rfl, hC45.out.cell 4 0 rfl rfl, hC45.out.cell 4 1 rfl rfl, hC45.out.cell 4 2 rfl rfl, hC45.out.cell 5 0 rfl rfl, hC45.out.cell 5 1 rfl rfl, hC45.out.cell 5 2 rfl rfl, hC45.out.cell 5 3 rfl rfl, trivial⟩)
  clear hKq Kq hH15
  try simp only [Act.put, List.setIfInBounds_toArray, List.set_cons_zero, List.set_cons_succ]
  refine wpAnyH_ready (rs := [49]) (by kernel_rfl) (by simp) ?_
  refine AllReadyH.cons (o := ⟨_, _, _, _, _, _⟩) rfl (fun Kq hKq => ?_) AllReadyH.nil
  go_simp
  (have _t := hC45; go_at_call 97; refine (vsameN_is (hC45.out.vp 1 rfl) (hC45.out.vp 3 rfl) (Bv.of E1.out E2.out) (Bv.of E3.out E4.out) (by omega) (by omega) HU.out).mono ?_; rintro e w46 ⟨rfl, hb⟩; have hC46 : Hid (St w w46 [(wa.heap.size, #[.slice a21 n21 c21, .bool m21, .slice d21 e21 f21, .slice u21 x21 y21, .bool p21, .slice t21 o21 l21], 103), (wa.heap.size + 1, #[.int .i64 s22, .slice a22 n22 c22, .int .i64 t22, .slice d22 e22 f22, .int .i64 p22, .slice u22 x22 y22, .int .i64 g22, .slice i22 o22 l22], 105), (wb.heap.size, #[.slice a23 n23 c23, .bool m23, .slice d23 e23 f23, .slice u23 x23 y23, .bool p23, .slice t23 o23 l23], 103), (wb.heap.size + 1, #[.int .i64 s24, .slice a24 n24 c24, .int .i64 t24, .slice d24 e24 f24, .int .i64 p24, .slice u24 x24 y24, .int .i64 g24, .slice i24 o24 l24], 105), (wc.heap.size, #[.slice a25 n25 c25, .bool m25, .slice d25 e25 f25], 48), (wc.heap.size + 1, #[.int .i64 s26, .slice a26 n26 c26, .int .i64 t26, .slice d26 e26 f26], 54)] [fun V => Vd V (.slice a21 n21 c21) m21 (.slice d21 e21 f21) (.slice u21 x21 y21) p21 (.slice t21 o21 l21) ((x1, x2)), fun V => Nv V s22 (.slice a22 n22 c22) t22 (.slice d22 e22 f22) p22 (.slice u22 x22 y22) g22 (.slice i22 o22 l22) ((x1, x2)), fun V => Vd V (.slice a23 n23 c23) m23 (.slice d23 e23 f23) (.slice u23 x23 y23) p23 (.slice t23 o23 l23) ((x3, x4)), fun V => Nv V s24 (.slice a24 n24 c24) t24 (.slice d24 e24 f24) p24 (.slice u24 x24 y24) g24 (.slice i24 o24 l24) ((x3, x4)), fun V => Rd V (.slice a25 n25 c25) m25 (.slice d25 e25 f25) (x5), fun V => Nq V s26 (.slice a26 n26 c26) t26 (.slice d26 e26 f26) (x5)]) := Lib.hid (St.pick ((hC45.out.call hb)) [0, 1, 2, 3, 4, 5] rfl); clear hb; clear _t hC45)
  (try go_wp2_with fail)
  refine hKq.out _ _ ?_ (fun hH17 => ?_)
  · (try dsimp only)
    all_goals (with_reducible refine And.intro (?_ : World.cell? w46 _ = _) ?_; exact hC46.out.cell 0 0 rfl rfl; exact ⟨hC46.out.cell 0 1 rfl rfl, hC46.out.cell 0 2 rfl rfl, hC46.out.cell 0 3 rfl rfl, hC46.out.cell 0 4 rfl rfl, hC46.out.cell 0 5 rfl rfl, hC46.out.cell 1 0 rfl rfl, hC46.out.cell 1 1 rfl rfl, hC46.out.cell 1 2 rfl rfl, hC46.out.cell 1 3 rfl rfl, hC46.out.cell 1 4 rfl rfl, hC46.out.cell 1 5 rfl rfl, hC46.out.cell 1 6 rfl rfl, hC46.out.cell 1 7 rfl rfl, hC46.out.cell 2 0 rfl rfl, hC46.out.cell 2 1 rfl rfl, hC46.out.cell 2 2 rfl rfl, hC46.out.cell 2 3 rfl rfl, hC46.out.cell 2 4 rfl rfl, hC46.out.cell 2 5 rfl rfl, hC46.out.cell 3 0 rfl rfl, hC46.out.cell 3 1 rfl rfl, hC46.out.cell 3 2 rfl rfl, hC46.out.cell 3 3 rfl rfl, hC46.out.cell 3 4 rfl rfl, hC46.out.cell 3 5 rfl rfl, hC46.out.cell 3 6 rfl rfl, hC46.out.cell 3 7 rfl rfl, hC46.out.cell 4 0 rfl rfl, hC46.out.cell 4 1 rfl rfl, hC46.out.cell 4 2 rfl rfl, hC46.out.cell 5 0 rfl rfl, hC46.out.cell 5 1 rfl rfl, hC46.out.cell 5 2 rfl rfl, hC46.out.cell 5 3 rfl rfl, trivial⟩)
  clear hKq Kq hH16
  try simp only [Act.put, List.setIfInBounds_toArray, List.set_cons_zero, List.set_cons_succ]
  refine wpAnyH_take (i := 50) (oi := ⟨_, _, _, _, _, _⟩) (v := ?_) rfl (by kernel_rfl) (by kernel_rfl) (by kernel_rfl) (fun _ _ _ h => h) (Or.inl ⟨by rfl, ?_⟩) hH17 ?_
  rotate_left
  · intro wS hSw; (try dsimp only at hSw); go_simp; try with_reducible rfl
  try simp only [Act.put, List.setIfInBounds_toArray, List.set_cons_zero, List.set_cons_succ]
  refine wpAnyH_take (i := 51) (oi := ⟨_, _, _, _, _, _⟩) (v := ?_) rfl (by kernel_rfl) (by kernel_rfl) (by kernel_rfl) (fun _ _ _ h => h) (Or.inl ⟨by rfl, ?_⟩) hH17 ?_
  rotate_left
  · intro wS hSw; (try dsimp only at hSw); go_simp; try with_reducible rfl
  try simp only [Act.put, List.setIfInBounds_toArray, List.set_cons_zero, List.set_cons_succ]
  refine wpAnyH_take (i := 52) (oi := ⟨_, _, _, _, _, _⟩) (v := ?_) rfl (by kernel_rfl) (by kernel_rfl) (by kernel_rfl) (fun _ _ _ h => h) (Or.inl ⟨by rfl, ?_⟩) hH17 ?_
  rotate_left
  · intro wS hSw; (try dsimp only at hSw); go_simp; try with_reducible rfl
  try simp only [Act.put, List.setIfInBounds_toArray, List.set_cons_zero, List.set_cons_succ]
  refine wpAnyH_take (i := 53) (oi := ⟨_, _, _, _, _, _⟩) (v := ?_) rfl (by kernel_rfl) (by kernel_rfl) (by kernel_rfl) (fun _ _ _ h => h) (Or.inl ⟨by rfl, ?_⟩) hH17 ?_
  rotate_left
  · intro wS hSw; (try dsimp only at hSw); go_simp; try with_reducible rfl
  try simp only [Act.put, List.setIfInBounds_toArray, List.set_cons_zero, List.set_cons_succ]
  refine wpAnyH_take (i := 55) (oi := ⟨_, _, _, _, _, _⟩) (v := ?_) rfl (by kernel_rfl) (by kernel_rfl) (by kernel_rfl) (fun _ _ _ h => h) (Or.inl ⟨by rfl, ?_⟩) hH17 ?_
  rotate_left
  · intro wS hSw; (try dsimp only at hSw); go_simp; try with_reducible rfl
  try simp only [Act.put, List.setIfInBounds_toArray, List.set_cons_zero, List.set_cons_succ]
  refine wpAnyH_ready (rs := [54]) (by kernel_rfl) (by simp) ?_
  refine AllReadyH.cons (o := ⟨_, _, _, _, _, _⟩) rfl (fun Kq hKq => ?_) AllReadyH.nil
  go_simp
  (have _t := hC46; go_at_call 98; refine (vtext_is (hC46.out.v 0 rfl) (Bv.of E1.out E2.out) (by omega) HT.out).mono ?_; rintro e w47 ⟨rfl, hb⟩; have hC47 : Hid (St w w47 [(wa.heap.size, #[.slice a21 n21 c21, .bool m21, .slice d21 e21 f21, .slice u21 x21 y21, .bool p21, .slice t21 o21 l21], 103), (wa.heap.size + 1, #[.int .i64 s22, .slice a22 n22 c22, .int .i64 t22, .slice d22 e22 f22, .int .i64 p22, .slice u22 x22 y22, .int .i64 g22, .slice i22 o22 l22], 105), (wb.heap.size, #[.slice a23 n23 c23, .bool m23, .slice d23 e23 f23, .slice u23 x23 y23, .bool p23, .slice t23 o23 l23], 103), (wb.heap.size + 1, #[.int .i64 s24, .slice a24 n24 c24, .int .i64 t24, .slice d24 e24 f24, .int .i64 p24, .slice u24 x24 y24, .int .i64 g24, .slice i24 o24 l24], 105), (wc.heap.size, #[.slice a25 n25 c25, .bool m25, .slice d25 e25 f25], 48), (wc.heap.size + 1, #[.int .i64 s26, .slice a26 n26 c26, .int .i64 t26, .slice d26 e26 f26], 54)] [fun V => Vd V (.slice a21 n21 c21) m21 (.slice d21 e21 f21) (.slice u21 x21 y21) p21 (.slice t21 o21 l21) ((x1, x2)), fun V => Nv V s22 (.slice a22 n22 c22) t22 (.slice d22 e22 f22) p22 (.slice u22 x22 y22) g22 (.slice i22 o22 l22) ((x1, x2)), fun V => Vd V (.slice a23 n23 c23) m23 (.slice d23 e23 f23) (.slice u23 x23 y23) p23 (.slice t23 o23 l23) ((x3, x4)), fun V => Nv V s24 (.slice a24 n24 c24) t24 (.slice d24 e24 f24) p24 (.slice u24 x24 y24) g24 (.slice i24 o24 l24) ((x3, x4)), fun V => Rd V (.slice a25 n25 c25) m25 (.slice d25 e25 f25) (x5), fun V => Nq V s26 (.slice a26 n26 c26) t26 (.slice d26 e26 f26) (x5)]) := Lib.hid (St.pick ((hC46.out.call hb)) [0, 1, 2, 3, 4, 5] rfl); clear hb; clear _t hC46)
  (try go_wp2_with fail)
  refine hKq.out _ _ ?_ (fun hH18 => ?_)
  · (try dsimp only)
    all_goals (with_reducible refine And.intro (?_ : World.cell? w47 _ = _) ?_; exact hC47.out.cell 0 0 rfl rfl; exact ⟨hC47.out.cell 0 1 rfl rfl, hC47.out.cell 0 2 rfl rfl, hC47.out.cell 0 3 rfl rfl, hC47.out.cell 0 4 rfl rfl, hC47.out.cell 0 5 rfl rfl, hC47.out.cell 1 0 rfl rfl, hC47.out.cell 1 1 rfl rfl, hC47.out.cell 1 2 rfl rfl, hC47.out.cell 1 3 rfl rfl, hC47.out.cell 1 4 rfl rfl, hC47.out.cell 1 5 rfl rfl, hC47.out.cell 1 6 rfl rfl, hC47.out.cell 1 7 rfl rfl, hC47.out.cell 2 0 rfl rfl, hC47.out.cell 2 1 rfl rfl, hC47.out.cell 2 2 rfl rfl, hC47.out.cell 2 3 rfl rfl, hC47.out.cell 2 4 rfl rfl, hC47.out.cell 2 5 rfl rfl, hC47.out.cell 3 0 rfl rfl, hC47.out.cell 3 1 rfl rfl, hC47.out.cell 3 2 rfl rfl, hC47.out.cell 3 3 rfl rfl, hC47.out.cell 3 4 rfl rfl, hC47.out.cell 3 5 rfl rfl, hC47.out.cell 3 6 rfl rfl, hC47.out.cell 3 7 rfl rfl, hC47.out.cell 4 0 rfl rfl, hC47.out.cell 4 1 rfl rfl, hC47.out.cell 4 2 rfl rfl, hC47.out.cell 5 0 rfl rfl, hC47.out.cell 5 1 rfl rfl, hC47.out.cell 5 2 rfl rfl, hC47.out.cell 5 3 rfl rfl, trivial⟩)
  clear hKq Kq hH17
  try simp only [Act.put, List.setIfInBounds_toArray, List.set_cons_zero, List.set_cons_succ]
  refine wpAnyH_ready (rs := [56]) (by kernel_rfl) (by simp) ?_
  refine AllReadyH.cons (o := ⟨_, _, _, _, _, _⟩) rfl (fun Kq hKq => ?_) AllReadyH.nil
  go_simp
  (have _t := hC47; go_at_call 99; refine (vtextN_is (hC47.out.vp 1 rfl) (Bv.of E1.out E2.out) (by omega) HT.out).mono ?_; rintro e w48 ⟨rfl, hb⟩; have hC48 : Hid (St w w48 [(wa.heap.size, #[.slice a21 n21 c21, .bool m21, .slice d21 e21 f21, .slice u21 x21 y21, .bool p21, .slice t21 o21 l21], 103), (wa.heap.size + 1, #[.int .i64 s22, .slice a22 n22 c22, .int .i64 t22, .slice d22 e22 f22, .int .i64 p22, .slice u22 x22 y22, .int .i64 g22, .slice i22 o22 l22], 105), (wb.heap.size, #[.slice a23 n23 c23, .bool m23, .slice d23 e23 f23, .slice u23 x23 y23, .bool p23, .slice t23 o23 l23], 103), (wb.heap.size + 1, #[.int .i64 s24, .slice a24 n24 c24, .int .i64 t24, .slice d24 e24 f24, .int .i64 p24, .slice u24 x24 y24, .int .i64 g24, .slice i24 o24 l24], 105), (wc.heap.size, #[.slice a25 n25 c25, .bool m25, .slice d25 e25 f25], 48), (wc.heap.size + 1, #[.int .i64 s26, .slice a26 n26 c26, .int .i64 t26, .slice d26 e26 f26], 54)] [fun V => Vd V (.slice a21 n21 c21) m21 (.slice d21 e21 f21) (.slice u21 x21 y21) p21 (.slice t21 o21 l21) ((x1, x2)), fun V => Nv V s22 (.slice a22 n22 c22) t22 (.slice d22 e22 f22) p22 (.slice u22 x22 y22) g22 (.slice i22 o22 l22) ((x1, x2)), fun V => Vd V (.slice a23 n23 c23) m23 (.slice d23 e23 f23) (.slice u23 x23 y23) p23 (.slice t23 o23 l23) ((x3, x4)), fun V => Nv V s24 (.slice a24 n24 c24) t24 (.slice d24 e24 f24) p24 (.slice u24 x24 y24) g24 (.slice i24 o24 l24) ((x3, x4)), fun V => Rd V (.slice a25 n25 c25) m25 (.slice d25 e25 f25) (x5), fun V => Nq V s26 (.slice a26 n26 c26) t26 (.slice d26 e26 f26) (x5)]) := Lib.hid (St.pick ((hC47.out.call hb)) [0, 1, 2, 3, 4, 5] rfl); clear hb; clear _t hC47)
  (try go_wp2_with fail)
  refine hKq.out _ _ ?_ (fun hH19 => ?_)
  · (try dsimp only)
    all_goals (with_reducible refine And.intro (?_ : World.cell? w48 _ = _) ?_; exact hC48.out.cell 0 0 rfl rfl; exact ⟨hC48.out.cell 0 1 rfl rfl, hC48.out.cell 0 2 rfl rfl, hC48.out.cell 0 3 rfl rfl, hC48.out.cell 0 4 rfl rfl, hC48.out.cell 0 5 rfl rfl, hC48.out.cell 1 0 rfl rfl, hC48.out.cell 1 1 rfl rfl, hC48.out.cell 1 2 rfl rfl, hC48.out.cell 1 3 rfl rfl, hC48.out.cell 1 4 rfl rfl, hC48.out.cell 1 5 rfl rfl, hC48.out.cell 1 6 rfl rfl, hC48.out.cell 1 7 rfl rfl, hC48.out.cell 2 0 rfl rfl, hC48.out.cell 2 1 rfl rfl, hC48.out.cell 2 2 rfl rfl, hC48.out.cell 2 3 rfl rfl, hC48.out.cell 2 4 rfl rfl, hC48.out.cell 2 5 rfl rfl, hC48.out.cell 3 0 rfl rfl, hC48.out.cell 3 1 rfl rfl, hC48.out.cell 3 2 rfl rfl, hC48.out.cell 3 3 rfl rfl, hC48.out.cell 3 4 rfl rfl, hC48.out.cell 3 5 rfl rfl, hC48.out.cell 3 6 rfl rfl, hC48.out.cell 3 7 rfl rfl, hC48.out.cell 4 0 rfl rfl, hC48.out.cell 4 1 rfl rfl, hC48.out.cell 4 2 rfl rfl, hC48.out.cell 5 0 rfl rfl, hC48.out.cell 5 1 rfl rfl, hC48.out.cell 5 2 rfl rfl, hC48.out.cell 5 3 rfl rfl, trivial⟩)
  clear hKq Kq hH18
  try simp only [Act.put, List.setIfInBounds_toArray, List.set_cons_zero, List.set_cons_succ]
  refine wpAnyH_take (i := 57) (oi := ⟨_, _, _, _, _, _⟩) (v := ?_) rfl (by kernel_rfl) (by kernel_rfl) (by kernel_rfl) (fun _ _ _ h => h) (Or.inl ⟨by rfl, ?_⟩) hH19 ?_
  rotate_left
  · intro wS hSw; (try dsimp only at hSw); go_simp; try with_reducible rfl
  try simp only [Act.put, List.setIfInBounds_toArray, List.set_cons_zero, List.set_cons_succ]
  refine wpAnyH_take (i := 58) (oi := ⟨_, _, _, _, _, _⟩) (v := ?_) rfl (by kernel_rfl) (by kernel_rfl) (by kernel_rfl) (fun _ _ _ h => h) (Or.inl ⟨by rfl, ?_⟩) hH19 ?_
  rotate_left
  · intro wS hSw; (try dsimp only at hSw); go_simp; try with_reducible rfl
  try simp only [Act.put, List.setIfInBounds_toArray, List.set_cons_zero, List.set_cons_succ]
  refine wpAnyH_take (i := 59) (oi := ⟨_, _, _, _, _, _⟩) (v := ?_) rfl (by kernel_rfl) (by kernel_rfl) (by kernel_rfl) (fun _ _ _ h => h) (Or.inl ⟨by rfl, ?_⟩) hH19 ?_
  rotate_left
  · intro wS hSw; (try dsimp only at hSw); go_simp; try with_reducible rfl
  try simp only [Act.put, List.setIfInBounds_toArray, List.set_cons_zero, List.set_cons_succ]
  refine wpAnyH_ready (rs := [60]) (by kernel_rfl) (by simp) ?_
  refine AllReadyH.cons (o := ⟨_, _, _, _, _, _⟩) rfl (fun Kq hKq => ?_) AllReadyH.nil
  go_simp
  (have _t := hC48; go_at_call 19; refine (awake_any _).mono ?_; rintro e w49 ⟨rfl, hb⟩; have hC49 : Hid (St w w49 [(wa.heap.size, #[.slice a21 n21 c21, .bool m21, .slice d21 e21 f21, .slice u21 x21 y21, .bool p21, .slice t21 o21 l21], 103), (wa.heap.size + 1, #[.int .i64 s22, .slice a22 n22 c22, .int .i64 t22, .slice d22 e22 f22, .int .i64 p22, .slice u22 x22 y22, .int .i64 g22, .slice i22 o22 l22], 105), (wb.heap.size, #[.slice a23 n23 c23, .bool m23, .slice d23 e23 f23, .slice u23 x23 y23, .bool p23, .slice t23 o23 l23], 103), (wb.heap.size + 1, #[.int .i64 s24, .slice a24 n24 c24, .int .i64 t24, .slice d24 e24 f24, .int .i64 p24, .slice u24 x24 y24, .int .i64 g24, .slice i24 o24 l24], 105), (wc.heap.size, #[.slice a25 n25 c25, .bool m25, .slice d25 e25 f25], 48), (wc.heap.size + 1, #[.int .i64 s26, .slice a26 n26 c26, .int .i64 t26, .slice d26 e26 f26], 54)] [fun V => Vd V (.slice a21 n21 c21) m21 (.slice d21 e21 f21) (.slice u21 x21 y21) p21 (.slice t21 o21 l21) ((x1, x2)), fun V => Nv V s22 (.slice a22 n22 c22) t22 (.slice d22 e22 f22) p22 (.slice u22 x22 y22) g22 (.slice i22 o22 l22) ((x1, x2)), fun V => Vd V (.slice a23 n23 c23) m23 (.slice d23 e23 f23) (.slice u23 x23 y23) p23 (.slice t23 o23 l23) ((x3, x4)), fun V => Nv V s24 (.slice a24 n24 c24) t24 (.slice d24 e24 f24) p24 (.slice u24 x24 y24) g24 (.slice i24 o24 l24) ((x3, x4)), fun V => Rd V (.slice a25 n25 c25) m25 (.slice d25 e25 f25) (x5), fun V => Nq V s26 (.slice a26 n26 c26) t26 (.slice d26 e26 f26) (x5)]) := Lib.hid (St.pick ((hC48.out.call hb)) [0, 1, 2, 3, 4, 5] rfl); clear hb; clear _t hC48)
  (try go_wp2_with fail)
  refine hKq.out _ _ ?_ (fun hH20 => ?_)
  · (try dsimp only)
    all_goals (with_reducible refine And.intro (?_ : World.cell? w49 _ = _) ?_; exact hC49.out.cell 0 0 rfl rfl; exact ⟨hC49.out.cell 0 1 rfl rfl, hC49.out.cell 0 2 rfl rfl, hC49.out.cell 0 3 rfl rfl, hC49.out.cell 0 4 rfl rfl, hC49.out.cell 0 5 rfl rfl, hC49.out.cell 1 0 rfl rfl, hC49.out.cell 1 1 rfl rfl, hC49.out.cell 1 2 rfl rfl, hC49.out.cell 1 3 rfl rfl, hC49.out.cell 1 4 rfl rfl, hC49.out.cell 1 5 rfl rfl, hC49.out.cell 1 6 rfl rfl, hC49.out.cell 1 7 rfl rfl, hC49.out.cell 2 0 rfl rfl, hC49.out.cell 2 1 rfl rfl, hC49.out.cell 2 2 rfl rfl, hC49.out.cell 2 3 rfl rfl, hC49.out.cell 2 4 rfl rfl, hC49.out.cell 2 5 rfl rfl, hC49.out.cell 3 0 rfl rfl, hC49.out.cell 3 1 rfl rfl, hC49.out.cell 3 2 rfl rfl, hC49.out.cell 3 3 rfl rfl, hC49.out.cell 3 4 rfl rfl, hC49.out.cell 3 5 rfl rfl, hC49.out.cell 3 6 rfl rfl, hC49.out.cell 3 7 rfl rfl, hC49.out.cell 4 0 rfl rfl, hC49.out.cell 4 1 rfl rfl, hC49.out.cell 4 2 rfl rfl, hC49.out.cell 5 0 rfl rfl, hC49.out.cell 5 1 rfl rfl, hC49.out.cell 5 2 rfl rfl, hC49.out.cell 5 3 rfl rfl, trivial⟩)
  clear hKq Kq hH19
  try simp only [Act.put, List.setIfInBounds_toArray, List.set_cons_zero, List.set_cons_succ]
  refine wpAnyH_take (i := 61) (oi := ⟨_, _, _, _, _, _⟩) (v := ?_) rfl (by kernel_rfl) (by kernel_rfl) (by kernel_rfl) (fun _ _ _ h => h) (Or.inl ⟨by rfl, ?_⟩) hH20 ?_
  rotate_left
  · intro wS hSw; (try dsimp only at hSw); go_simp; try with_reducible rfl
  try simp only [Act.put, List.setIfInBounds_toArray, List.set_cons_zero, List.set_cons_succ]
  refine wpAnyH_ready (rs := [62]) (by kernel_rfl) (by simp) ?_
  refine AllReadyH.cons (o := ⟨_, _, _, _, _, _⟩) rfl (fun Kq hKq => ?_) AllReadyH.nil
  go_simp
  refine hKq.out _ _ ?_ (fun hH21 => ?_)
  · (try dsimp only)
    all_goals (with_reducible refine And.intro (?_ : World.cell? w49 _ = _) ?_; exact hC49.out.cell 0 0 rfl rfl; exact ⟨hC49.out.cell 0 1 rfl rfl, hC49.out.cell 0 2 rfl rfl, hC49.out.cell 0 3 rfl rfl, hC49.out.cell 0 4 rfl rfl, hC49.out.cell 0 5 rfl rfl, hC49.out.cell 1 0 rfl rfl, hC49.out.cell 1 1 rfl rfl, hC49.out.cell 1 2 rfl rfl, hC49.out.cell 1 3 rfl rfl, hC49.out.cell 1 4 rfl rfl, hC49.out.cell 1 5 rfl rfl, hC49.out.cell 1 6 rfl rfl, hC49.out.cell 1 7 rfl rfl, hC49.out.cell 2 0 rfl rfl, hC49.out.cell 2 1 rfl rfl, hC49.out.cell 2 2 rfl rfl, hC49.out.cell 2 3 rfl rfl, hC49.out.cell 2 4 rfl rfl, hC49.out.cell 2 5 rfl rfl, hC49.out.cell 3 0 rfl rfl, hC49.out.cell 3 1 rfl rfl, hC49.out.cell 3 2 rfl rfl, hC49.out.cell 3 3 rfl rfl, hC49.out.cell 3 4 rfl rfl, hC49.out.cell 3 5 rfl rfl, hC49.out.cell 3 6 rfl rfl, hC49.out.cell 3 7 rfl rfl, hC49.out.cell 4 0 rfl rfl, hC49.out.cell 4 1 rfl rfl, hC49.out.cell 4 2 rfl rfl, hC49.out.cell 5 0 rfl rfl, hC49.out.cell 5 1 rfl rfl, hC49.out.cell 5 2 rfl rfl, hC49.out.cell 5 3 rfl rfl, trivial⟩)
  clear hKq Kq hH20
  try simp only [Act.put, List.setIfInBounds_toArray, List.set_cons_zero, List.set_cons_succ]
  refine wpAnyH_done (by kernel_rfl) ?_ _
  go_wp2_with fail
  go_wp2
  go_ret
  exact ⟨rfl, hC49.out.be⟩

end Go.Proofs.YtmfplelodnoicaaGreatDoor

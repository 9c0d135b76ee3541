/- the law WholeTurns: its walk -/
import Derived.Test.YtmfplelodnoicaaGreatDoorWB6
import Derived.Test.YtmfplelodnoicaaGreatDoorWBZ
import Derived.Test.YtmfplelodnoicaaGreatDoorWB13
import Derived.Test.YtmfplelodnoicaaGreatDoorWR
import Derived.Test.YtmfplelodnoicaaGreatDoorWB2
import Derived.Test.YtmfplelodnoicaaGreatDoorWS3
namespace Go.Proofs.YtmfplelodnoicaaGreatDoor
open Go.RowKit Dig

theorem turn_sq (a b c d : Rat) : (a * c + b * d) * (a * c + b * d) + (a * d - b * c) * (a * d - b * c) = (a * a + b * b) * (c * c + d * d) := by grind
theorem turn_mul (a b k : Rat) : sgnQ (a * (b * k) - b * (a * k)) = 0 := by
  have : a * (b * k) - b * (a * k) = 0 := by grind
  rw [this]; rfl
theorem turn_neg (a b c d : Rat) : a * d - b * c = -(c * b - d * a) := by grind
theorem floor_cast (q : Rat) : ((q.floor : Int) : Rat) ≤ q := Rat.floor_le q
theorem floor_cast1 (q : Rat) : q < ((q.floor : Int) : Rat) + ((1 : Int) : Rat) := by
  have := Rat.lt_floor_add_one q
  rwa [Rat.intCast_add] at this

set_option maxRecDepth 100000 in
set_option maxHeartbeats 16000000 in
theorem wholeTurns_walk (N1 D1 : Int) (N2 D2 : Int) (N3 D3 : Int) (N4 D4 : Int) (N5 D5 : Int) (w : World) (hN1 : -9223372036854775808 ≤ N1 ∧ N1 < 9223372036854775808) (hD1 : -9223372036854775808 ≤ D1 ∧ D1 < 9223372036854775808) (hN2 : -9223372036854775808 ≤ N2 ∧ N2 < 9223372036854775808) (hD2 : -9223372036854775808 ≤ D2 ∧ D2 < 9223372036854775808) (hN3 : -9223372036854775808 ≤ N3 ∧ N3 < 9223372036854775808) (hD3 : -9223372036854775808 ≤ D3 ∧ D3 < 9223372036854775808) (hN4 : -9223372036854775808 ≤ N4 ∧ N4 < 9223372036854775808) (hD4 : -9223372036854775808 ≤ D4 ∧ D4 < 9223372036854775808) (hN5 : -9223372036854775808 ≤ N5 ∧ N5 < 9223372036854775808) (hD5 : -9223372036854775808 ≤ D5 ∧ D5 < 9223372036854775808) :
    Calls Tryz.prog 12 #[.agg #[.int .i64 N1, .int .i64 D1], .agg #[.int .i64 N2, .int .i64 D2], .agg #[.int .i64 N3, .int .i64 D3], .agg #[.int .i64 N4, .int .i64 D4], .agg #[.int .i64 N5, .int .i64 D5]] w (fun e w' => e = .returned (.bool true) ∧ Below w.heap.size w w') := by
  obtain ⟨x1, h1, b1⟩ : ∃ x : Rat, num N1 D1 = x ∧ Bq 64 x := ⟨_, rfl, num_bd hN1 hD1⟩
  have H1 := Lib.hid h1
  have E1 := Lib.hid b1
  clear h1 b1
  have HN1 := Lib.hid hN1
  clear hN1
  have HD1 := Lib.hid hD1
  clear hD1
  obtain ⟨x2, h1, b1⟩ : ∃ x : Rat, num N2 D2 = x ∧ Bq 64 x := ⟨_, rfl, num_bd hN2 hD2⟩
  have H2 := Lib.hid h1
  have E2 := Lib.hid b1
  clear h1 b1
  have HN2 := Lib.hid hN2
  clear hN2
  have HD2 := Lib.hid hD2
  clear hD2
  obtain ⟨x3, h1, b1⟩ : ∃ x : Rat, num N3 D3 = x ∧ Bq 64 x := ⟨_, rfl, num_bd hN3 hD3⟩
  have H3 := Lib.hid h1
  have E3 := Lib.hid b1
  clear h1 b1
  have HN3 := Lib.hid hN3
  clear hN3
  have HD3 := Lib.hid hD3
  clear hD3
  obtain ⟨x4, h1, b1⟩ : ∃ x : Rat, num N4 D4 = x ∧ Bq 64 x := ⟨_, rfl, num_bd hN4 hD4⟩
  have H4 := Lib.hid h1
  have E4 := Lib.hid b1
  clear h1 b1
  have HN4 := Lib.hid hN4
  clear hN4
  have HD4 := Lib.hid hD4
  clear hD4
  obtain ⟨x5, h1, b1⟩ : ∃ x : Rat, num N5 D5 = x ∧ Bq 64 x := ⟨_, rfl, num_bd hN5 hD5⟩
  have H5 := Lib.hid h1
  have E5 := Lib.hid b1
  clear h1 b1
  have HN5 := Lib.hid hN5
  clear hN5
  have HD5 := Lib.hid hD5
  clear hD5
  have hC := Lib.hid ((((((St.enter w).al (w.heap.size) #[.int .i64 N1, .int .i64 D1] 60 rfl rfl).al (w.heap.size + 1) #[.int .i64 N2, .int .i64 D2] 60 (by simp) rfl).al (w.heap.size + 2) #[.int .i64 N3, .int .i64 D3] 60 (by simp) rfl).al (w.heap.size + 3) #[.int .i64 N4, .int .i64 D4] 60 (by simp) rfl).al (w.heap.size + 4) #[.int .i64 N5, .int .i64 D5] 60 (by simp) rfl)
  obtain ⟨u, hu⟩ : ∃ u : Int, cmpQ ((x5.floor : Int) : Rat) x5 = u := ⟨_, rfl⟩
  have HU := Lib.hid hu
  have du : u ≤ 0 := by
    rw [← hu]
    exact cmpQ_le (floor_cast x5)
  clear hu
  go_enter Tryz.func12, Tryz.ntmps12
  have fa10 := hC.out.cell 0 0 rfl rfl
  have fa11 := hC.out.cell 0 1 rfl rfl
  have fa20 := hC.out.cell 1 0 rfl rfl
  have fa21 := hC.out.cell 1 1 rfl rfl
  go_wp2_with fail
  refine (pair_any N1 D1 N2 D2 _ HN1.out HD1.out HN2.out HD2.out).mono ?_
  rintro e wa ⟨a221, n221, c221, m221, d221, e221, f221, u221, x221, y221, p221, t221, o221, l221, s222, a222, n222, c222, t222, d222, e222, f222, p222, u222, x222, y222, g222, i222, o222, l222, rfl, hz, hn, hb⟩
  rw [H1.out, H2.out] at hz hn
  have hwa := Lib.hid ((((hC.out.call hb).pv hz).pp hn |>.al wa.heap.size #[.slice a221 n221 c221, .bool m221, .slice d221 e221 f221, .slice u221 x221 y221, .bool p221, .slice t221 o221 l221] 103 rfl rfl).al (wa.heap.size + 1) #[.int .i64 s222, .slice a222 n222 c222, .int .i64 t222, .slice d222 e222 f222, .int .i64 p222, .slice u222 x222 y222, .int .i64 g222, .slice i222 o222 l222] 105 (by simp) rfl)
  clear hz hn hb hC fa10 fa11 fa20 fa21
  have fa30 := hwa.out.cell 2 0 rfl rfl
  have fa31 := hwa.out.cell 2 1 rfl rfl
  have fa40 := hwa.out.cell 3 0 rfl rfl
  have fa41 := hwa.out.cell 3 1 rfl rfl
  go_wp2_with fail
  refine (pair_any N3 D3 N4 D4 _ HN3.out HD3.out HN4.out HD4.out).mono ?_
  rintro e wb ⟨a223, n223, c223, m223, d223, e223, f223, u223, x223, y223, p223, t223, o223, l223, s224, a224, n224, c224, t224, d224, e224, f224, p224, u224, x224, y224, g224, i224, o224, l224, rfl, hz, hn, hb⟩
  rw [H3.out, H4.out] at hz hn
  have hwb := Lib.hid ((((hwa.out.call hb).pv hz).pp hn |>.al wb.heap.size #[.slice a223 n223 c223, .bool m223, .slice d223 e223 f223, .slice u223 x223 y223, .bool p223, .slice t223 o223 l223] 103 rfl rfl).al (wb.heap.size + 1) #[.int .i64 s224, .slice a224 n224 c224, .int .i64 t224, .slice d224 e224 f224, .int .i64 p224, .slice u224 x224 y224, .int .i64 g224, .slice i224 o224 l224] 105 (by simp) rfl)
  clear hz hn hb hwa fa30 fa31 fa40 fa41
  have y0 := hwb.out.cell 4 0 rfl rfl
  have y1 := hwb.out.cell 4 1 rfl rfl
  go_wp2_with fail
  refine (both_any N5 D5 _ HN5.out HD5.out).mono ?_
  rintro e wg ⟨a225, n225, c225, m225, d225, e225, f225, s226, a226, n226, c226, t226, d226, e226, f226, rfl, hz, hn, hb⟩
  rw [H5.out] at hz hn
  have hwg := Lib.hid ((((hwb.out.call hb).pr hz).pq hn |>.al wg.heap.size #[.slice a225 n225 c225, .bool m225, .slice d225 e225 f225] 48 rfl rfl).al (wg.heap.size + 1) #[.int .i64 s226, .slice a226 n226 c226, .int .i64 t226, .slice d226 e226 f226] 54 (by simp) rfl)
  clear hz hn hb hwb y0 y1
  go_upto_region 4 with fail
  refine wp_gen ((hwg.out.pick [0, 2, 4] (rs' := [fun V => Vd V (.slice a221 n221 c221) m221 (.slice d221 e221 f221) (.slice u221 x221 y221) p221 (.slice t221 o221 l221) ((x1, x2)), fun V => Vd V (.slice a223 n223 c223) m223 (.slice d223 e223 f223) (.slice u223 x223 y223) p223 (.slice t223 o223 l223) ((x3, x4)), fun V => Rd V (.slice a225 n225 c225) m225 (.slice d225 e225 f225) (x5)]) rfl).bpick [5, 7, 9] (by decide) (bs' := [(wa.heap.size, #[.slice a221 n221 c221, .bool m221, .slice d221 e221 f221, .slice u221 x221 y221, .bool p221, .slice t221 o221 l221], 103), (wb.heap.size, #[.slice a223 n223 c223, .bool m223, .slice d223 e223 f223, .slice u223 x223 y223, .bool p223, .slice t223 o223 l223], 103), (wg.heap.size, #[.slice a225 n225 c225, .bool m225, .slice d225 e225 f225], 48)]) rfl) ?_
  intro W hc
  clear hwg
  have hC0 := Lib.hid hc
  clear hc
  go_upto_region 4 with fail
  refine wp_gen hC0.out ?_
  intro W232 hc
  clear hC0
  have hD232 := Lib.hid hc
  clear hc
  go_cut [17, 18] (fun s17 s18 wx => ∃ b232_0 b232_1 a230 n230 c230 m230 d230 e230 f230 a231 n231 c231 m231 d231 e231 f231, s17 = .pointer (some ⟨b232_0, 0, none⟩) ∧ s18 = .pointer (some ⟨b232_1, 0, none⟩) ∧ Hid (St w wx [(wa.heap.size, #[.slice a221 n221 c221, .bool m221, .slice d221 e221 f221, .slice u221 x221 y221, .bool p221, .slice t221 o221 l221], 103), (wb.heap.size, #[.slice a223 n223 c223, .bool m223, .slice d223 e223 f223, .slice u223 x223 y223, .bool p223, .slice t223 o223 l223], 103), (wg.heap.size, #[.slice a225 n225 c225, .bool m225, .slice d225 e225 f225], 48), (b232_0, #[.slice a230 n230 c230, .bool m230, .slice d230 e230 f230], 48), (b232_1, #[.slice a231 n231 c231, .bool m231, .slice d231 e231 f231], 48)] [fun V => Vd V (.slice a221 n221 c221) m221 (.slice d221 e221 f221) (.slice u221 x221 y221) p221 (.slice t221 o221 l221) ((x1, x2)), fun V => Vd V (.slice a223 n223 c223) m223 (.slice d223 e223 f223) (.slice u223 x223 y223) p223 (.slice t223 o223 l223) ((x3, x4)), fun V => Rd V (.slice a225 n225 c225) m225 (.slice d225 e225 f225) (x5), fun V => Rd V (.slice a230 n230 c230) m230 (.slice d230 e230 f230) ((((x1, x2)).1 * ((x3, x4)).1 + ((x1, x2)).2 * ((x3, x4)).2)), fun V => Rd V (.slice a231 n231 c231) m231 (.slice d231 e231 f231) ((((x1, x2)).1 * ((x3, x4)).2 - ((x1, x2)).2 * ((x3, x4)).1))]))
  case first =>
    refine wp_region_held_drew (S := (fun w' => w'.cell? ⟨wa.heap.size, 0, none⟩ = some (.slice a221 n221 c221) ∧ w'.cell? ⟨wa.heap.size, 1, none⟩ = some (.bool m221) ∧ w'.cell? ⟨wa.heap.size, 2, none⟩ = some (.slice d221 e221 f221) ∧ w'.cell? ⟨wa.heap.size, 3, none⟩ = some (.slice u221 x221 y221) ∧ w'.cell? ⟨wa.heap.size, 4, none⟩ = some (.bool p221) ∧ w'.cell? ⟨wa.heap.size, 5, none⟩ = some (.slice t221 o221 l221) ∧ w'.cell? ⟨wb.heap.size, 0, none⟩ = some (.slice a223 n223 c223) ∧ w'.cell? ⟨wb.heap.size, 1, none⟩ = some (.bool m223) ∧ w'.cell? ⟨wb.heap.size, 2, none⟩ = some (.slice d223 e223 f223) ∧ w'.cell? ⟨wb.heap.size, 3, none⟩ = some (.slice u223 x223 y223) ∧ w'.cell? ⟨wb.heap.size, 4, none⟩ = some (.bool p223) ∧ w'.cell? ⟨wb.heap.size, 5, none⟩ = some (.slice t223 o223 l223) ∧ True)) (by kernel_rfl) ⟨hD232.out.drew.cell 0 0 rfl rfl, hD232.out.drew.cell 0 1 rfl rfl, hD232.out.drew.cell 0 2 rfl rfl, hD232.out.drew.cell 0 3 rfl rfl, hD232.out.drew.cell 0 4 rfl rfl, hD232.out.drew.cell 0 5 rfl rfl, hD232.out.drew.cell 1 0 rfl rfl, hD232.out.drew.cell 1 1 rfl rfl, hD232.out.drew.cell 1 2 rfl rfl, hD232.out.drew.cell 1 3 rfl rfl, hD232.out.drew.cell 1 4 rfl rfl, hD232.out.drew.cell 1 5 rfl rfl, trivial⟩ (fun hH => ?_)
    refine wpAnyH_gen (show St w _ [(wa.heap.size, #[.slice a221 n221 c221, .bool m221, .slice d221 e221 f221, .slice u221 x221 y221, .bool p221, .slice t221 o221 l221], 103), (wb.heap.size, #[.slice a223 n223 c223, .bool m223, .slice d223 e223 f223, .slice u223 x223 y223, .bool p223, .slice t223 o223 l223], 103), (wg.heap.size, #[.slice a225 n225 c225, .bool m225, .slice d225 e225 f225], 48)] [fun V => Vd V (.slice a221 n221 c221) m221 (.slice d221 e221 f221) (.slice u221 x221 y221) p221 (.slice t221 o221 l221) ((x1, x2)), fun V => Vd V (.slice a223 n223 c223) m223 (.slice d223 e223 f223) (.slice u223 x223 y223) p223 (.slice t223 o223 l223) ((x3, x4)), fun V => Rd V (.slice a225 n225 c225) m225 (.slice d225 e225 f225) (x5)] from hD232.out.drew) hH ?_
    intro V233_0 hc hH233_0
    have hV233_0 := Lib.hid hc
    clear hc hH hD232
    refine wpAnyH_take (i := 0) (oi := ⟨_, _, _, _, _, _⟩) (v := ?_) rfl (by kernel_rfl) (by kernel_rfl) (by kernel_rfl) (fun _ _ _ h => h) (Or.inl ⟨by rfl, ?_⟩) hH233_0 ?_
    rotate_left
    · intro wS hSw; (try dsimp only at hSw); go_simp; try with_reducible rfl
    try simp only [Act.put, List.setIfInBounds_toArray, List.set_cons_zero, List.set_cons_succ]
    refine wpAnyH_take (i := 1) (oi := ⟨_, _, _, _, _, _⟩) (v := ?_) rfl (by kernel_rfl) (by kernel_rfl) (by kernel_rfl) (fun _ _ _ h => h) (Or.inl ⟨by rfl, ?_⟩) hH233_0 ?_
    rotate_left
    · intro wS hSw; (try dsimp only at hSw); go_simp; try with_reducible rfl
    try simp only [Act.put, List.setIfInBounds_toArray, List.set_cons_zero, List.set_cons_succ]
    refine wpAnyH_take (i := 3) (oi := ⟨_, _, _, _, _, _⟩) (v := ?_) rfl (by kernel_rfl) (by kernel_rfl) (by kernel_rfl) (fun _ _ _ h => h) (Or.inl ⟨by rfl, ?_⟩) hH233_0 ?_
    rotate_left
    · intro wS hSw; (try dsimp only at hSw); go_simp; try with_reducible rfl
    try simp only [Act.put, List.setIfInBounds_toArray, List.set_cons_zero, List.set_cons_succ]
    refine wpAnyH_take (i := 4) (oi := ⟨_, _, _, _, _, _⟩) (v := ?_) rfl (by kernel_rfl) (by kernel_rfl) (by kernel_rfl) (fun _ _ _ h => h) (Or.inl ⟨by rfl, ?_⟩) hH233_0 ?_
    rotate_left
    · intro wS hSw; (try dsimp only at hSw); go_simp; try with_reducible rfl
    try simp only [Act.put, List.setIfInBounds_toArray, List.set_cons_zero, List.set_cons_succ]
    refine wpAnyH_ready (rs := [2, 6, 7]) (by kernel_rfl) (by simp) ?_
    refine AllReadyH.cons (o := ⟨_, _, _, _, _, _⟩) rfl (fun Kq hKq => ?_) ?_
    · go_simp
      go_at_call 92
      refine (vdot_b (hV233_0.out.v 0 rfl) (hV233_0.out.v 1 rfl) (Bv.of E1.out E2.out) (Bv.of E3.out E4.out) (by omega) (by omega)).mono ?_
      rintro e w230 ⟨a230, n230, c230, m230, d230, e230, f230, rfl, hz, hb⟩
      (try go_wp2_with fail)
      refine stepH hKq ((hV233_0.out.call hb).pr hz) (fun _ hX => ⟨hX.cell 0 0 rfl rfl, hX.cell 0 1 rfl rfl, hX.cell 0 2 rfl rfl, hX.cell 0 3 rfl rfl, hX.cell 0 4 rfl rfl, hX.cell 0 5 rfl rfl, hX.cell 1 0 rfl rfl, hX.cell 1 1 rfl rfl, hX.cell 1 2 rfl rfl, hX.cell 1 3 rfl rfl, hX.cell 1 4 rfl rfl, hX.cell 1 5 rfl rfl, trivial⟩) ?_
      intro V233_1 hc hH233_1
      have hV233_1 := Lib.hid hc
      clear hc hKq Kq hV233_0 hb hz hH233_0
      try simp only [Act.put, List.setIfInBounds_toArray, List.set_cons_zero, List.set_cons_succ]
      refine wpAnyH_ready (rs := [5, 6, 7]) (by kernel_rfl) (by simp) ?_
      refine AllReadyH.cons (o := ⟨_, _, _, _, _, _⟩) rfl (fun Kq hKq => ?_) ?_
      · go_simp
        go_at_call 94
        refine (vcross_b (hV233_1.out.v 0 rfl) (hV233_1.out.v 1 rfl) (Bv.of E1.out E2.out) (Bv.of E3.out E4.out) (by omega) (by omega)).mono ?_
        rintro e w231 ⟨a231, n231, c231, m231, d231, e231, f231, rfl, hz, hb⟩
        (try go_wp2_with fail)
        refine stepH hKq ((hV233_1.out.call hb).pr hz) (fun _ hX => ⟨hX.cell 0 0 rfl rfl, hX.cell 0 1 rfl rfl, hX.cell 0 2 rfl rfl, hX.cell 0 3 rfl rfl, hX.cell 0 4 rfl rfl, hX.cell 0 5 rfl rfl, hX.cell 1 0 rfl rfl, hX.cell 1 1 rfl rfl, hX.cell 1 2 rfl rfl, hX.cell 1 3 rfl rfl, hX.cell 1 4 rfl rfl, hX.cell 1 5 rfl rfl, trivial⟩) ?_
        intro V233_2 hc hH233_2
        have hV233_2 := Lib.hid hc
        clear hc hKq Kq hV233_1 hb hz hH233_1
        try simp only [Act.put, List.setIfInBounds_toArray, List.set_cons_zero, List.set_cons_succ]
        refine wpAnyH_ready (rs := [6, 7]) (by kernel_rfl) (by simp) ?_
        refine AllReadyH.cons (o := ⟨_, _, _, _, _, _⟩) rfl (fun Kq hKq => ?_) ?_
        · go_simp
          refine stepH hKq (hV233_2.out.al V233_2.heap.size #[.slice none 0 0, .bool false, .slice none 0 0] 48 rfl rfl) (fun _ hX => ⟨hX.cell 0 0 rfl rfl, hX.cell 0 1 rfl rfl, hX.cell 0 2 rfl rfl, hX.cell 0 3 rfl rfl, hX.cell 0 4 rfl rfl, hX.cell 0 5 rfl rfl, hX.cell 1 0 rfl rfl, hX.cell 1 1 rfl rfl, hX.cell 1 2 rfl rfl, hX.cell 1 3 rfl rfl, hX.cell 1 4 rfl rfl, hX.cell 1 5 rfl rfl, trivial⟩) ?_
          intro V233_3 hc hH233_3
          have hV233_3 := Lib.hid hc
          clear hc hKq Kq hV233_2 hH233_2
          try simp only [Act.put, List.setIfInBounds_toArray, List.set_cons_zero, List.set_cons_succ]
          refine wpAnyH_ready (rs := [7]) (by kernel_rfl) (by simp) ?_
          refine AllReadyH.cons (o := ⟨_, _, _, _, _, _⟩) rfl (fun Kq hKq => ?_) AllReadyH.nil
          go_simp
          refine stepH hKq (hV233_3.out.al V233_3.heap.size #[.slice none 0 0, .bool false, .slice none 0 0] 48 rfl rfl) (fun _ hX => ⟨hX.cell 0 0 rfl rfl, hX.cell 0 1 rfl rfl, hX.cell 0 2 rfl rfl, hX.cell 0 3 rfl rfl, hX.cell 0 4 rfl rfl, hX.cell 0 5 rfl rfl, hX.cell 1 0 rfl rfl, hX.cell 1 1 rfl rfl, hX.cell 1 2 rfl rfl, hX.cell 1 3 rfl rfl, hX.cell 1 4 rfl rfl, hX.cell 1 5 rfl rfl, trivial⟩) ?_
          intro V233_4 hc hH233_4
          have hV233_4 := Lib.hid hc
          clear hc hKq Kq hV233_3 hH233_3
          try simp only [Act.put, List.setIfInBounds_toArray, List.set_cons_zero, List.set_cons_succ]
          refine wpAnyH_ready (rs := [8]) (by kernel_rfl) (by simp) ?_
          refine AllReadyH.cons (o := ⟨_, _, _, _, _, _⟩) rfl (fun Kq hKq => ?_) AllReadyH.nil
          have cQ0 := hV233_4.out.cell 3 0 rfl rfl
          have fQ0 := hV233_4.out.free 3 0 rfl
          have cQ1 := hV233_4.out.cell 3 1 rfl rfl
          have fQ1 := hV233_4.out.free 3 1 rfl
          have cQ2 := hV233_4.out.cell 3 2 rfl rfl
          have fQ2 := hV233_4.out.free 3 2 rfl
          go_simp
          refine stepH hKq (hV233_4.out.set3 3 rfl) (fun _ hX => ⟨hX.cell 0 0 rfl rfl, hX.cell 0 1 rfl rfl, hX.cell 0 2 rfl rfl, hX.cell 0 3 rfl rfl, hX.cell 0 4 rfl rfl, hX.cell 0 5 rfl rfl, hX.cell 1 0 rfl rfl, hX.cell 1 1 rfl rfl, hX.cell 1 2 rfl rfl, hX.cell 1 3 rfl rfl, hX.cell 1 4 rfl rfl, hX.cell 1 5 rfl rfl, trivial⟩) ?_
          intro V233_5 hc hH233_5
          have hV233_5 := Lib.hid hc
          clear hc hKq Kq hV233_4 cQ0 fQ0 cQ1 fQ1 cQ2 fQ2 hH233_4
          try simp only [Act.put, List.setIfInBounds_toArray, List.set_cons_zero, List.set_cons_succ]
          refine wpAnyH_ready (rs := [9]) (by kernel_rfl) (by simp) ?_
          refine AllReadyH.cons (o := ⟨_, _, _, _, _, _⟩) rfl (fun Kq hKq => ?_) AllReadyH.nil
          have cQ0 := hV233_5.out.cell 4 0 rfl rfl
          have fQ0 := hV233_5.out.free 4 0 rfl
          have cQ1 := hV233_5.out.cell 4 1 rfl rfl
          have fQ1 := hV233_5.out.free 4 1 rfl
          have cQ2 := hV233_5.out.cell 4 2 rfl rfl
          have fQ2 := hV233_5.out.free 4 2 rfl
          go_simp
          refine stepH hKq (hV233_5.out.set3 4 rfl) (fun _ hX => ⟨hX.cell 0 0 rfl rfl, hX.cell 0 1 rfl rfl, hX.cell 0 2 rfl rfl, hX.cell 0 3 rfl rfl, hX.cell 0 4 rfl rfl, hX.cell 0 5 rfl rfl, hX.cell 1 0 rfl rfl, hX.cell 1 1 rfl rfl, hX.cell 1 2 rfl rfl, hX.cell 1 3 rfl rfl, hX.cell 1 4 rfl rfl, hX.cell 1 5 rfl rfl, trivial⟩) ?_
          intro V233_6 hc hH233_6
          have hV233_6 := Lib.hid hc
          clear hc hKq Kq hV233_5 cQ0 fQ0 cQ1 fQ1 cQ2 fQ2 hH233_5
          try simp only [Act.put, List.setIfInBounds_toArray, List.set_cons_zero, List.set_cons_succ]
          refine wpAnyH_done (by kernel_rfl) ?_ _
          go_wp2_with fail
          go_meet
          refine ⟨_, _, a230, n230, c230, m230, d230, e230, f230, a231, n231, c231, m231, d231, e231, f231, rfl, rfl, ?_⟩
          exact Lib.hid (St.pick (St.bpick hV233_6.out [0, 1, 2, 3, 4] (by decide) rfl) [0, 1, 2, 3, 4] rfl)
        refine AllReadyH.cons (o := ⟨_, _, _, _, _, _⟩) rfl (fun Kq hKq => ?_) ?_
        · go_simp
          refine stepH hKq (hV233_2.out.al V233_2.heap.size #[.slice none 0 0, .bool false, .slice none 0 0] 48 rfl rfl) (fun _ hX => ⟨hX.cell 0 0 rfl rfl, hX.cell 0 1 rfl rfl, hX.cell 0 2 rfl rfl, hX.cell 0 3 rfl rfl, hX.cell 0 4 rfl rfl, hX.cell 0 5 rfl rfl, hX.cell 1 0 rfl rfl, hX.cell 1 1 rfl rfl, hX.cell 1 2 rfl rfl, hX.cell 1 3 rfl rfl, hX.cell 1 4 rfl rfl, hX.cell 1 5 rfl rfl, trivial⟩) ?_
          intro V233_3 hc hH233_3
          have hV233_3 := Lib.hid hc
          clear hc hKq Kq hV233_2 hH233_2
          try simp only [Act.put, List.setIfInBounds_toArray, List.set_cons_zero, List.set_cons_succ]
          refine wpAnyH_ready (rs := [6]) (by kernel_rfl) (by simp) ?_
          refine AllReadyH.cons (o := ⟨_, _, _, _, _, _⟩) rfl (fun Kq hKq => ?_) AllReadyH.nil
          go_simp
          refine stepH hKq (hV233_3.out.al V233_3.heap.size #[.slice none 0 0, .bool false, .slice none 0 0] 48 rfl rfl) (fun _ hX => ⟨hX.cell 0 0 rfl rfl, hX.cell 0 1 rfl rfl, hX.cell 0 2 rfl rfl, hX.cell 0 3 rfl rfl, hX.cell 0 4 rfl rfl, hX.cell 0 5 rfl rfl, hX.cell 1 0 rfl rfl, hX.cell 1 1 rfl rfl, hX.cell 1 2 rfl rfl, hX.cell 1 3 rfl rfl, hX.cell 1 4 rfl rfl, hX.cell 1 5 rfl rfl, trivial⟩) ?_
          intro V233_4 hc hH233_4
          have hV233_4 := Lib.hid hc
          clear hc hKq Kq hV233_3 hH233_3
          try simp only [Act.put, List.setIfInBounds_toArray, List.set_cons_zero, List.set_cons_succ]
          refine wpAnyH_ready (rs := [8]) (by kernel_rfl) (by simp) ?_
          refine AllReadyH.cons (o := ⟨_, _, _, _, _, _⟩) rfl (fun Kq hKq => ?_) AllReadyH.nil
          have cQ0 := hV233_4.out.cell 4 0 rfl rfl
          have fQ0 := hV233_4.out.free 4 0 rfl
          have cQ1 := hV233_4.out.cell 4 1 rfl rfl
          have fQ1 := hV233_4.out.free 4 1 rfl
          have cQ2 := hV233_4.out.cell 4 2 rfl rfl
          have fQ2 := hV233_4.out.free 4 2 rfl
          go_simp
          refine stepH hKq (hV233_4.out.set3 4 rfl) (fun _ hX => ⟨hX.cell 0 0 rfl rfl, hX.cell 0 1 rfl rfl, hX.cell 0 2 rfl rfl, hX.cell 0 3 rfl rfl, hX.cell 0 4 rfl rfl, hX.cell 0 5 rfl rfl, hX.cell 1 0 rfl rfl, hX.cell 1 1 rfl rfl, hX.cell 1 2 rfl rfl, hX.cell 1 3 rfl rfl, hX.cell 1 4 rfl rfl, hX.cell 1 5 rfl rfl, trivial⟩) ?_
          intro V233_5 hc hH233_5
          have hV233_5 := Lib.hid hc
          clear hc hKq Kq hV233_4 cQ0 fQ0 cQ1 fQ1 cQ2 fQ2 hH233_4
          try simp only [Act.put, List.setIfInBounds_toArray, List.set_cons_zero, List.set_cons_succ]
          refine wpAnyH_ready (rs := [9]) (by kernel_rfl) (by simp) ?_
          refine AllReadyH.cons (o := ⟨_, _, _, _, _, _⟩) rfl (fun Kq hKq => ?_) AllReadyH.nil
          have cQ0 := hV233_5.out.cell 3 0 rfl rfl
          have fQ0 := hV233_5.out.free 3 0 rfl
          have cQ1 := hV233_5.out.cell 3 1 rfl rfl
          have fQ1 := hV233_5.out.free 3 1 rfl
          have cQ2 := hV233_5.out.cell 3 2 rfl rfl
          have fQ2 := hV233_5.out.free 3 2 rfl
          go_simp
          refine stepH hKq (hV233_5.out.set3 3 rfl) (fun _ hX => ⟨hX.cell 0 0 rfl rfl, hX.cell 0 1 rfl rfl, hX.cell 0 2 rfl rfl, hX.cell 0 3 rfl rfl, hX.cell 0 4 rfl rfl, hX.cell 0 5 rfl rfl, hX.cell 1 0 rfl rfl, hX.cell 1 1 rfl rfl, hX.cell 1 2 rfl rfl, hX.cell 1 3 rfl rfl, hX.cell 1 4 rfl rfl, hX.cell 1 5 rfl rfl, trivial⟩) ?_
          intro V233_6 hc hH233_6
          have hV233_6 := Lib.hid hc
          clear hc hKq Kq hV233_5 cQ0 fQ0 cQ1 fQ1 cQ2 fQ2 hH233_5
          try simp only [Act.put, List.setIfInBounds_toArray, List.set_cons_zero, List.set_cons_succ]
          refine wpAnyH_done (by kernel_rfl) ?_ _
          go_wp2_with fail
          go_meet
          refine ⟨_, _, a230, n230, c230, m230, d230, e230, f230, a231, n231, c231, m231, d231, e231, f231, rfl, rfl, ?_⟩
          exact Lib.hid (St.pick (St.bpick hV233_6.out [0, 1, 2, 4, 3] (by decide) rfl) [0, 1, 2, 3, 4] rfl)
        exact AllReadyH.nil
      refine AllReadyH.cons (o := ⟨_, _, _, _, _, _⟩) rfl (fun Kq hKq => ?_) ?_
      · go_simp
        refine stepH hKq (hV233_1.out.al V233_1.heap.size #[.slice none 0 0, .bool false, .slice none 0 0] 48 rfl rfl) (fun _ hX => ⟨hX.cell 0 0 rfl rfl, hX.cell 0 1 rfl rfl, hX.cell 0 2 rfl rfl, hX.cell 0 3 rfl rfl, hX.cell 0 4 rfl rfl, hX.cell 0 5 rfl rfl, hX.cell 1 0 rfl rfl, hX.cell 1 1 rfl rfl, hX.cell 1 2 rfl rfl, hX.cell 1 3 rfl rfl, hX.cell 1 4 rfl rfl, hX.cell 1 5 rfl rfl, trivial⟩) ?_
        intro V233_2 hc hH233_2
        have hV233_2 := Lib.hid hc
        clear hc hKq Kq hV233_1 hH233_1
        try simp only [Act.put, List.setIfInBounds_toArray, List.set_cons_zero, List.set_cons_succ]
        refine wpAnyH_ready (rs := [5, 7]) (by kernel_rfl) (by simp) ?_
        refine AllReadyH.cons (o := ⟨_, _, _, _, _, _⟩) rfl (fun Kq hKq => ?_) ?_
        · go_simp
          go_at_call 94
          refine (vcross_b (hV233_2.out.v 0 rfl) (hV233_2.out.v 1 rfl) (Bv.of E1.out E2.out) (Bv.of E3.out E4.out) (by omega) (by omega)).mono ?_
          rintro e w231 ⟨a231, n231, c231, m231, d231, e231, f231, rfl, hz, hb⟩
          (try go_wp2_with fail)
          refine stepH hKq ((hV233_2.out.call hb).pr hz) (fun _ hX => ⟨hX.cell 0 0 rfl rfl, hX.cell 0 1 rfl rfl, hX.cell 0 2 rfl rfl, hX.cell 0 3 rfl rfl, hX.cell 0 4 rfl rfl, hX.cell 0 5 rfl rfl, hX.cell 1 0 rfl rfl, hX.cell 1 1 rfl rfl, hX.cell 1 2 rfl rfl, hX.cell 1 3 rfl rfl, hX.cell 1 4 rfl rfl, hX.cell 1 5 rfl rfl, trivial⟩) ?_
          intro V233_3 hc hH233_3
          have hV233_3 := Lib.hid hc
          clear hc hKq Kq hV233_2 hb hz hH233_2
          try simp only [Act.put, List.setIfInBounds_toArray, List.set_cons_zero, List.set_cons_succ]
          refine wpAnyH_ready (rs := [7]) (by kernel_rfl) (by simp) ?_
          refine AllReadyH.cons (o := ⟨_, _, _, _, _, _⟩) rfl (fun Kq hKq => ?_) AllReadyH.nil
          go_simp
          refine stepH hKq (hV233_3.out.al V233_3.heap.size #[.slice none 0 0, .bool false, .slice none 0 0] 48 rfl rfl) (fun _ hX => ⟨hX.cell 0 0 rfl rfl, hX.cell 0 1 rfl rfl, hX.cell 0 2 rfl rfl, hX.cell 0 3 rfl rfl, hX.cell 0 4 rfl rfl, hX.cell 0 5 rfl rfl, hX.cell 1 0 rfl rfl, hX.cell 1 1 rfl rfl, hX.cell 1 2 rfl rfl, hX.cell 1 3 rfl rfl, hX.cell 1 4 rfl rfl, hX.cell 1 5 rfl rfl, trivial⟩) ?_
          intro V233_4 hc hH233_4
          have hV233_4 := Lib.hid hc
          clear hc hKq Kq hV233_3 hH233_3
          try simp only [Act.put, List.setIfInBounds_toArray, List.set_cons_zero, List.set_cons_succ]
          refine wpAnyH_ready (rs := [8]) (by kernel_rfl) (by simp) ?_
          refine AllReadyH.cons (o := ⟨_, _, _, _, _, _⟩) rfl (fun Kq hKq => ?_) AllReadyH.nil
          have cQ0 := hV233_4.out.cell 3 0 rfl rfl
          have fQ0 := hV233_4.out.free 3 0 rfl
          have cQ1 := hV233_4.out.cell 3 1 rfl rfl
          have fQ1 := hV233_4.out.free 3 1 rfl
          have cQ2 := hV233_4.out.cell 3 2 rfl rfl
          have fQ2 := hV233_4.out.free 3 2 rfl
          go_simp
          refine stepH hKq (hV233_4.out.set3 3 rfl) (fun _ hX => ⟨hX.cell 0 0 rfl rfl, hX.cell 0 1 rfl rfl, hX.cell 0 2 rfl rfl, hX.cell 0 3 rfl rfl, hX.cell 0 4 rfl rfl, hX.cell 0 5 rfl rfl, hX.cell 1 0 rfl rfl, hX.cell 1 1 rfl rfl, hX.cell 1 2 rfl rfl, hX.cell 1 3 rfl rfl, hX.cell 1 4 rfl rfl, hX.cell 1 5 rfl rfl, trivial⟩) ?_
          intro V233_5 hc hH233_5
          have hV233_5 := Lib.hid hc
          clear hc hKq Kq hV233_4 cQ0 fQ0 cQ1 fQ1 cQ2 fQ2 hH233_4
          try simp only [Act.put, List.setIfInBounds_toArray, List.set_cons_zero, List.set_cons_succ]
          refine wpAnyH_ready (rs := [9]) (by kernel_rfl) (by simp) ?_
          refine AllReadyH.cons (o := ⟨_, _, _, _, _, _⟩) rfl (fun Kq hKq => ?_) AllReadyH.nil
          have cQ0 := hV233_5.out.cell 4 0 rfl rfl
          have fQ0 := hV233_5.out.free 4 0 rfl
          have cQ1 := hV233_5.out.cell 4 1 rfl rfl
          have fQ1 := hV233_5.out.free 4 1 rfl
          have cQ2 := hV233_5.out.cell 4 2 rfl rfl
          have fQ2 := hV233_5.out.free 4 2 rfl
          go_simp
          refine stepH hKq (hV233_5.out.set3 4 rfl) (fun _ hX => ⟨hX.cell 0 0 rfl rfl, hX.cell 0 1 rfl rfl, hX.cell 0 2 rfl rfl, hX.cell 0 3 rfl rfl, hX.cell 0 4 rfl rfl, hX.cell 0 5 rfl rfl, hX.cell 1 0 rfl rfl, hX.cell 1 1 rfl rfl, hX.cell 1 2 rfl rfl, hX.cell 1 3 rfl rfl, hX.cell 1 4 rfl rfl, hX.cell 1 5 rfl rfl, trivial⟩) ?_
          intro V233_6 hc hH233_6
          have hV233_6 := Lib.hid hc
          clear hc hKq Kq hV233_5 cQ0 fQ0 cQ1 fQ1 cQ2 fQ2 hH233_5
          try simp only [Act.put, List.setIfInBounds_toArray, List.set_cons_zero, List.set_cons_succ]
          refine wpAnyH_done (by kernel_rfl) ?_ _
          go_wp2_with fail
          go_meet
          refine ⟨_, _, a230, n230, c230, m230, d230, e230, f230, a231, n231, c231, m231, d231, e231, f231, rfl, rfl, ?_⟩
          exact Lib.hid (St.pick (St.bpick hV233_6.out [0, 1, 2, 3, 4] (by decide) rfl) [0, 1, 2, 3, 4] rfl)
        refine AllReadyH.cons (o := ⟨_, _, _, _, _, _⟩) rfl (fun Kq hKq => ?_) ?_
        · go_simp
          refine stepH hKq (hV233_2.out.al V233_2.heap.size #[.slice none 0 0, .bool false, .slice none 0 0] 48 rfl rfl) (fun _ hX => ⟨hX.cell 0 0 rfl rfl, hX.cell 0 1 rfl rfl, hX.cell 0 2 rfl rfl, hX.cell 0 3 rfl rfl, hX.cell 0 4 rfl rfl, hX.cell 0 5 rfl rfl, hX.cell 1 0 rfl rfl, hX.cell 1 1 rfl rfl, hX.cell 1 2 rfl rfl, hX.cell 1 3 rfl rfl, hX.cell 1 4 rfl rfl, hX.cell 1 5 rfl rfl, trivial⟩) ?_
          intro V233_3 hc hH233_3
          have hV233_3 := Lib.hid hc
          clear hc hKq Kq hV233_2 hH233_2
          try simp only [Act.put, List.setIfInBounds_toArray, List.set_cons_zero, List.set_cons_succ]
          refine wpAnyH_ready (rs := [5]) (by kernel_rfl) (by simp) ?_
          refine AllReadyH.cons (o := ⟨_, _, _, _, _, _⟩) rfl (fun Kq hKq => ?_) AllReadyH.nil
          go_simp
          go_at_call 94
          refine (vcross_b (hV233_3.out.v 0 rfl) (hV233_3.out.v 1 rfl) (Bv.of E1.out E2.out) (Bv.of E3.out E4.out) (by omega) (by omega)).mono ?_
          rintro e w231 ⟨a231, n231, c231, m231, d231, e231, f231, rfl, hz, hb⟩
          (try go_wp2_with fail)
          refine stepH hKq ((hV233_3.out.call hb).pr hz) (fun _ hX => ⟨hX.cell 0 0 rfl rfl, hX.cell 0 1 rfl rfl, hX.cell 0 2 rfl rfl, hX.cell 0 3 rfl rfl, hX.cell 0 4 rfl rfl, hX.cell 0 5 rfl rfl, hX.cell 1 0 rfl rfl, hX.cell 1 1 rfl rfl, hX.cell 1 2 rfl rfl, hX.cell 1 3 rfl rfl, hX.cell 1 4 rfl rfl, hX.cell 1 5 rfl rfl, trivial⟩) ?_
          intro V233_4 hc hH233_4
          have hV233_4 := Lib.hid hc
          clear hc hKq Kq hV233_3 hb hz hH233_3
          try simp only [Act.put, List.setIfInBounds_toArray, List.set_cons_zero, List.set_cons_succ]
          refine wpAnyH_ready (rs := [8]) (by kernel_rfl) (by simp) ?_
          refine AllReadyH.cons (o := ⟨_, _, _, _, _, _⟩) rfl (fun Kq hKq => ?_) AllReadyH.nil
          have cQ0 := hV233_4.out.cell 3 0 rfl rfl
          have fQ0 := hV233_4.out.free 3 0 rfl
          have cQ1 := hV233_4.out.cell 3 1 rfl rfl
          have fQ1 := hV233_4.out.free 3 1 rfl
          have cQ2 := hV233_4.out.cell 3 2 rfl rfl
          have fQ2 := hV233_4.out.free 3 2 rfl
          go_simp
          refine stepH hKq (hV233_4.out.set3 3 rfl) (fun _ hX => ⟨hX.cell 0 0 rfl rfl, hX.cell 0 1 rfl rfl, hX.cell 0 2 rfl rfl, hX.cell 0 3 rfl rfl, hX.cell 0 4 rfl rfl, hX.cell 0 5 rfl rfl, hX.cell 1 0 rfl rfl, hX.cell 1 1 rfl rfl, hX.cell 1 2 rfl rfl, hX.cell 1 3 rfl rfl, hX.cell 1 4 rfl rfl, hX.cell 1 5 rfl rfl, trivial⟩) ?_
          intro V233_5 hc hH233_5
          have hV233_5 := Lib.hid hc
          clear hc hKq Kq hV233_4 cQ0 fQ0 cQ1 fQ1 cQ2 fQ2 hH233_4
          try simp only [Act.put, List.setIfInBounds_toArray, List.set_cons_zero, List.set_cons_succ]
          refine wpAnyH_ready (rs := [9]) (by kernel_rfl) (by simp) ?_
          refine AllReadyH.cons (o := ⟨_, _, _, _, _, _⟩) rfl (fun Kq hKq => ?_) AllReadyH.nil
          have cQ0 := hV233_5.out.cell 4 0 rfl rfl
          have fQ0 := hV233_5.out.free 4 0 rfl
          have cQ1 := hV233_5.out.cell 4 1 rfl rfl
          have fQ1 := hV233_5.out.free 4 1 rfl
          have cQ2 := hV233_5.out.cell 4 2 rfl rfl
          have fQ2 := hV233_5.out.free 4 2 rfl
          go_simp
          refine stepH hKq (hV233_5.out.set3 4 rfl) (fun _ hX => ⟨hX.cell 0 0 rfl rfl, hX.cell 0 1 rfl rfl, hX.cell 0 2 rfl rfl, hX.cell 0 3 rfl rfl, hX.cell 0 4 rfl rfl, hX.cell 0 5 rfl rfl, hX.cell 1 0 rfl rfl, hX.cell 1 1 rfl rfl, hX.cell 1 2 rfl rfl, hX.cell 1 3 rfl rfl, hX.cell 1 4 rfl rfl, hX.cell 1 5 rfl rfl, trivial⟩) ?_
          intro V233_6 hc hH233_6
          have hV233_6 := Lib.hid hc
          clear hc hKq Kq hV233_5 cQ0 fQ0 cQ1 fQ1 cQ2 fQ2 hH233_5
          try simp only [Act.put, List.setIfInBounds_toArray, List.set_cons_zero, List.set_cons_succ]
          refine wpAnyH_done (by kernel_rfl) ?_ _
          go_wp2_with fail
          go_meet
          refine ⟨_, _, a230, n230, c230, m230, d230, e230, f230, a231, n231, c231, m231, d231, e231, f231, rfl, rfl, ?_⟩
          exact Lib.hid (St.pick (St.bpick hV233_6.out [0, 1, 2, 3, 4] (by decide) rfl) [0, 1, 2, 3, 4] rfl)
        exact AllReadyH.nil
      refine AllReadyH.cons (o := ⟨_, _, _, _, _, _⟩) rfl (fun Kq hKq => ?_) ?_
      · go_simp
        refine stepH hKq (hV233_1.out.al V233_1.heap.size #[.slice none 0 0, .bool false, .slice none 0 0] 48 rfl rfl) (fun _ hX => ⟨hX.cell 0 0 rfl rfl, hX.cell 0 1 rfl rfl, hX.cell 0 2 rfl rfl, hX.cell 0 3 rfl rfl, hX.cell 0 4 rfl rfl, hX.cell 0 5 rfl rfl, hX.cell 1 0 rfl rfl, hX.cell 1 1 rfl rfl, hX.cell 1 2 rfl rfl, hX.cell 1 3 rfl rfl, hX.cell 1 4 rfl rfl, hX.cell 1 5 rfl rfl, trivial⟩) ?_
        intro V233_2 hc hH233_2
        have hV233_2 := Lib.hid hc
        clear hc hKq Kq hV233_1 hH233_1
        try simp only [Act.put, List.setIfInBounds_toArray, List.set_cons_zero, List.set_cons_succ]
        refine wpAnyH_ready (rs := [5, 6]) (by kernel_rfl) (by simp) ?_
        refine AllReadyH.cons (o := ⟨_, _, _, _, _, _⟩) rfl (fun Kq hKq => ?_) ?_
        · go_simp
          go_at_call 94
          refine (vcross_b (hV233_2.out.v 0 rfl) (hV233_2.out.v 1 rfl) (Bv.of E1.out E2.out) (Bv.of E3.out E4.out) (by omega) (by omega)).mono ?_
          rintro e w231 ⟨a231, n231, c231, m231, d231, e231, f231, rfl, hz, hb⟩
          (try go_wp2_with fail)
          refine stepH hKq ((hV233_2.out.call hb).pr hz) (fun _ hX => ⟨hX.cell 0 0 rfl rfl, hX.cell 0 1 rfl rfl, hX.cell 0 2 rfl rfl, hX.cell 0 3 rfl rfl, hX.cell 0 4 rfl rfl, hX.cell 0 5 rfl rfl, hX.cell 1 0 rfl rfl, hX.cell 1 1 rfl rfl, hX.cell 1 2 rfl rfl, hX.cell 1 3 rfl rfl, hX.cell 1 4 rfl rfl, hX.cell 1 5 rfl rfl, trivial⟩) ?_
          intro V233_3 hc hH233_3
          have hV233_3 := Lib.hid hc
          clear hc hKq Kq hV233_2 hb hz hH233_2
          try simp only [Act.put, List.setIfInBounds_toArray, List.set_cons_zero, List.set_cons_succ]
          refine wpAnyH_ready (rs := [6]) (by kernel_rfl) (by simp) ?_
          refine AllReadyH.cons (o := ⟨_, _, _, _, _, _⟩) rfl (fun Kq hKq => ?_) AllReadyH.nil
          go_simp
          refine stepH hKq (hV233_3.out.al V233_3.heap.size #[.slice none 0 0, .bool false, .slice none 0 0] 48 rfl rfl) (fun _ hX => ⟨hX.cell 0 0 rfl rfl, hX.cell 0 1 rfl rfl, hX.cell 0 2 rfl rfl, hX.cell 0 3 rfl rfl, hX.cell 0 4 rfl rfl, hX.cell 0 5 rfl rfl, hX.cell 1 0 rfl rfl, hX.cell 1 1 rfl rfl, hX.cell 1 2 rfl rfl, hX.cell 1 3 rfl rfl, hX.cell 1 4 rfl rfl, hX.cell 1 5 rfl rfl, trivial⟩) ?_
          intro V233_4 hc hH233_4
          have hV233_4 := Lib.hid hc
          clear hc hKq Kq hV233_3 hH233_3
          try simp only [Act.put, List.setIfInBounds_toArray, List.set_cons_zero, List.set_cons_succ]
          refine wpAnyH_ready (rs := [8]) (by kernel_rfl) (by simp) ?_
          refine AllReadyH.cons (o := ⟨_, _, _, _, _, _⟩) rfl (fun Kq hKq => ?_) AllReadyH.nil
          have cQ0 := hV233_4.out.cell 4 0 rfl rfl
          have fQ0 := hV233_4.out.free 4 0 rfl
          have cQ1 := hV233_4.out.cell 4 1 rfl rfl
          have fQ1 := hV233_4.out.free 4 1 rfl
          have cQ2 := hV233_4.out.cell 4 2 rfl rfl
          have fQ2 := hV233_4.out.free 4 2 rfl
          go_simp
          refine stepH hKq (hV233_4.out.set3 4 rfl) (fun _ hX => ⟨hX.cell 0 0 rfl rfl, hX.cell 0 1 rfl rfl, hX.cell 0 2 rfl rfl, hX.cell 0 3 rfl rfl, hX.cell 0 4 rfl rfl, hX.cell 0 5 rfl rfl, hX.cell 1 0 rfl rfl, hX.cell 1 1 rfl rfl, hX.cell 1 2 rfl rfl, hX.cell 1 3 rfl rfl, hX.cell 1 4 rfl rfl, hX.cell 1 5 rfl rfl, trivial⟩) ?_
          intro V233_5 hc hH233_5
          have hV233_5 := Lib.hid hc
          clear hc hKq Kq hV233_4 cQ0 fQ0 cQ1 fQ1 cQ2 fQ2 hH233_4
          try simp only [Act.put, List.setIfInBounds_toArray, List.set_cons_zero, List.set_cons_succ]
          refine wpAnyH_ready (rs := [9]) (by kernel_rfl) (by simp) ?_
          refine AllReadyH.cons (o := ⟨_, _, _, _, _, _⟩) rfl (fun Kq hKq => ?_) AllReadyH.nil
          have cQ0 := hV233_5.out.cell 3 0 rfl rfl
          have fQ0 := hV233_5.out.free 3 0 rfl
          have cQ1 := hV233_5.out.cell 3 1 rfl rfl
          have fQ1 := hV233_5.out.free 3 1 rfl
          have cQ2 := hV233_5.out.cell 3 2 rfl rfl
          have fQ2 := hV233_5.out.free 3 2 rfl
          go_simp
          refine stepH hKq (hV233_5.out.set3 3 rfl) (fun _ hX => ⟨hX.cell 0 0 rfl rfl, hX.cell 0 1 rfl rfl, hX.cell 0 2 rfl rfl, hX.cell 0 3 rfl rfl, hX.cell 0 4 rfl rfl, hX.cell 0 5 rfl rfl, hX.cell 1 0 rfl rfl, hX.cell 1 1 rfl rfl, hX.cell 1 2 rfl rfl, hX.cell 1 3 rfl rfl, hX.cell 1 4 rfl rfl, hX.cell 1 5 rfl rfl, trivial⟩) ?_
          intro V233_6 hc hH233_6
          have hV233_6 := Lib.hid hc
          clear hc hKq Kq hV233_5 cQ0 fQ0 cQ1 fQ1 cQ2 fQ2 hH233_5
          try simp only [Act.put, List.setIfInBounds_toArray, List.set_cons_zero, List.set_cons_succ]
          refine wpAnyH_done (by kernel_rfl) ?_ _
          go_wp2_with fail
          go_meet
          refine ⟨_, _, a230, n230, c230, m230, d230, e230, f230, a231, n231, c231, m231, d231, e231, f231, rfl, rfl, ?_⟩
          exact Lib.hid (St.pick (St.bpick hV233_6.out [0, 1, 2, 4, 3] (by decide) rfl) [0, 1, 2, 3, 4] rfl)
        refine AllReadyH.cons (o := ⟨_, _, _, _, _, _⟩) rfl (fun Kq hKq => ?_) ?_
        · go_simp
          refine stepH hKq (hV233_2.out.al V233_2.heap.size #[.slice none 0 0, .bool false, .slice none 0 0] 48 rfl rfl) (fun _ hX => ⟨hX.cell 0 0 rfl rfl, hX.cell 0 1 rfl rfl, hX.cell 0 2 rfl rfl, hX.cell 0 3 rfl rfl, hX.cell 0 4 rfl rfl, hX.cell 0 5 rfl rfl, hX.cell 1 0 rfl rfl, hX.cell 1 1 rfl rfl, hX.cell 1 2 rfl rfl, hX.cell 1 3 rfl rfl, hX.cell 1 4 rfl rfl, hX.cell 1 5 rfl rfl, trivial⟩) ?_
          intro V233_3 hc hH233_3
          have hV233_3 := Lib.hid hc
          clear hc hKq Kq hV233_2 hH233_2
          try simp only [Act.put, List.setIfInBounds_toArray, List.set_cons_zero, List.set_cons_succ]
          refine wpAnyH_ready (rs := [5]) (by kernel_rfl) (by simp) ?_
          refine AllReadyH.cons (o := ⟨_, _, _, _, _, _⟩) rfl (fun Kq hKq => ?_) AllReadyH.nil
          go_simp
          go_at_call 94
          refine (vcross_b (hV233_3.out.v 0 rfl) (hV233_3.out.v 1 rfl) (Bv.of E1.out E2.out) (Bv.of E3.out E4.out) (by omega) (by omega)).mono ?_
          rintro e w231 ⟨a231, n231, c231, m231, d231, e231, f231, rfl, hz, hb⟩
          (try go_wp2_with fail)
          refine stepH hKq ((hV233_3.out.call hb).pr hz) (fun _ hX => ⟨hX.cell 0 0 rfl rfl, hX.cell 0 1 rfl rfl, hX.cell 0 2 rfl rfl, hX.cell 0 3 rfl rfl, hX.cell 0 4 rfl rfl, hX.cell 0 5 rfl rfl, hX.cell 1 0 rfl rfl, hX.cell 1 1 rfl rfl, hX.cell 1 2 rfl rfl, hX.cell 1 3 rfl rfl, hX.cell 1 4 rfl rfl, hX.cell 1 5 rfl rfl, trivial⟩) ?_
          intro V233_4 hc hH233_4
          have hV233_4 := Lib.hid hc
          clear hc hKq Kq hV233_3 hb hz hH233_3
          try simp only [Act.put, List.setIfInBounds_toArray, List.set_cons_zero, List.set_cons_succ]
          refine wpAnyH_ready (rs := [8]) (by kernel_rfl) (by simp) ?_
          refine AllReadyH.cons (o := ⟨_, _, _, _, _, _⟩) rfl (fun Kq hKq => ?_) AllReadyH.nil
          have cQ0 := hV233_4.out.cell 4 0 rfl rfl
          have fQ0 := hV233_4.out.free 4 0 rfl
          have cQ1 := hV233_4.out.cell 4 1 rfl rfl
          have fQ1 := hV233_4.out.free 4 1 rfl
          have cQ2 := hV233_4.out.cell 4 2 rfl rfl
          have fQ2 := hV233_4.out.free 4 2 rfl
          go_simp
          refine stepH hKq (hV233_4.out.set3 4 rfl) (fun _ hX => ⟨hX.cell 0 0 rfl rfl, hX.cell 0 1 rfl rfl, hX.cell 0 2 rfl rfl, hX.cell 0 3 rfl rfl, hX.cell 0 4 rfl rfl, hX.cell 0 5 rfl rfl, hX.cell 1 0 rfl rfl, hX.cell 1 1 rfl rfl, hX.cell 1 2 rfl rfl, hX.cell 1 3 rfl rfl, hX.cell 1 4 rfl rfl, hX.cell 1 5 rfl rfl, trivial⟩) ?_
          intro V233_5 hc hH233_5
          have hV233_5 := Lib.hid hc
          clear hc hKq Kq hV233_4 cQ0 fQ0 cQ1 fQ1 cQ2 fQ2 hH233_4
          try simp only [Act.put, List.setIfInBounds_toArray, List.set_cons_zero, List.set_cons_succ]
          refine wpAnyH_ready (rs := [9]) (by kernel_rfl) (by simp) ?_
          refine AllReadyH.cons (o := ⟨_, _, _, _, _, _⟩) rfl (fun Kq hKq => ?_) AllReadyH.nil
          have cQ0 := hV233_5.out.cell 3 0 rfl rfl
          have fQ0 := hV233_5.out.free 3 0 rfl
          have cQ1 := hV233_5.out.cell 3 1 rfl rfl
          have fQ1 := hV233_5.out.free 3 1 rfl
          have cQ2 := hV233_5.out.cell 3 2 rfl rfl
          have fQ2 := hV233_5.out.free 3 2 rfl
          go_simp
          refine stepH hKq (hV233_5.out.set3 3 rfl) (fun _ hX => ⟨hX.cell 0 0 rfl rfl, hX.cell 0 1 rfl rfl, hX.cell 0 2 rfl rfl, hX.cell 0 3 rfl rfl, hX.cell 0 4 rfl rfl, hX.cell 0 5 rfl rfl, hX.cell 1 0 rfl rfl, hX.cell 1 1 rfl rfl, hX.cell 1 2 rfl rfl, hX.cell 1 3 rfl rfl, hX.cell 1 4 rfl rfl, hX.cell 1 5 rfl rfl, trivial⟩) ?_
          intro V233_6 hc hH233_6
          have hV233_6 := Lib.hid hc
          clear hc hKq Kq hV233_5 cQ0 fQ0 cQ1 fQ1 cQ2 fQ2 hH233_5
          try simp only [Act.put, List.setIfInBounds_toArray, List.set_cons_zero, List.set_cons_succ]
          refine wpAnyH_done (by kernel_rfl) ?_ _
          go_wp2_with fail
          go_meet
          refine ⟨_, _, a230, n230, c230, m230, d230, e230, f230, a231, n231, c231, m231, d231, e231, f231, rfl, rfl, ?_⟩
          exact Lib.hid (St.pick (St.bpick hV233_6.out [0, 1, 2, 4, 3] (by decide) rfl) [0, 1, 2, 3, 4] rfl)
        exact AllReadyH.nil
      exact AllReadyH.nil
    refine AllReadyH.cons (o := ⟨_, _, _, _, _, _⟩) rfl (fun Kq hKq => ?_) ?_
    · go_simp
      refine stepH hKq (hV233_0.out.al V233_0.heap.size #[.slice none 0 0, .bool false, .slice none 0 0] 48 rfl rfl) (fun _ hX => ⟨hX.cell 0 0 rfl rfl, hX.cell 0 1 rfl rfl, hX.cell 0 2 rfl rfl, hX.cell 0 3 rfl rfl, hX.cell 0 4 rfl rfl, hX.cell 0 5 rfl rfl, hX.cell 1 0 rfl rfl, hX.cell 1 1 rfl rfl, hX.cell 1 2 rfl rfl, hX.cell 1 3 rfl rfl, hX.cell 1 4 rfl rfl, hX.cell 1 5 rfl rfl, trivial⟩) ?_
      intro V233_1 hc hH233_1
      have hV233_1 := Lib.hid hc
      clear hc hKq Kq hV233_0 hH233_0
      try simp only [Act.put, List.setIfInBounds_toArray, List.set_cons_zero, List.set_cons_succ]
      refine wpAnyH_ready (rs := [2, 7]) (by kernel_rfl) (by simp) ?_
      refine AllReadyH.cons (o := ⟨_, _, _, _, _, _⟩) rfl (fun Kq hKq => ?_) ?_
      · go_simp
        go_at_call 92
        refine (vdot_b (hV233_1.out.v 0 rfl) (hV233_1.out.v 1 rfl) (Bv.of E1.out E2.out) (Bv.of E3.out E4.out) (by omega) (by omega)).mono ?_
        rintro e w230 ⟨a230, n230, c230, m230, d230, e230, f230, rfl, hz, hb⟩
        (try go_wp2_with fail)
        refine stepH hKq ((hV233_1.out.call hb).pr hz) (fun _ hX => ⟨hX.cell 0 0 rfl rfl, hX.cell 0 1 rfl rfl, hX.cell 0 2 rfl rfl, hX.cell 0 3 rfl rfl, hX.cell 0 4 rfl rfl, hX.cell 0 5 rfl rfl, hX.cell 1 0 rfl rfl, hX.cell 1 1 rfl rfl, hX.cell 1 2 rfl rfl, hX.cell 1 3 rfl rfl, hX.cell 1 4 rfl rfl, hX.cell 1 5 rfl rfl, trivial⟩) ?_
        intro V233_2 hc hH233_2
        have hV233_2 := Lib.hid hc
        clear hc hKq Kq hV233_1 hb hz hH233_1
        try simp only [Act.put, List.setIfInBounds_toArray, List.set_cons_zero, List.set_cons_succ]
        refine wpAnyH_ready (rs := [5, 7]) (by kernel_rfl) (by simp) ?_
        refine AllReadyH.cons (o := ⟨_, _, _, _, _, _⟩) rfl (fun Kq hKq => ?_) ?_
        · go_simp
          go_at_call 94
          refine (vcross_b (hV233_2.out.v 0 rfl) (hV233_2.out.v 1 rfl) (Bv.of E1.out E2.out) (Bv.of E3.out E4.out) (by omega) (by omega)).mono ?_
          rintro e w231 ⟨a231, n231, c231, m231, d231, e231, f231, rfl, hz, hb⟩
          (try go_wp2_with fail)
          refine stepH hKq ((hV233_2.out.call hb).pr hz) (fun _ hX => ⟨hX.cell 0 0 rfl rfl, hX.cell 0 1 rfl rfl, hX.cell 0 2 rfl rfl, hX.cell 0 3 rfl rfl, hX.cell 0 4 rfl rfl, hX.cell 0 5 rfl rfl, hX.cell 1 0 rfl rfl, hX.cell 1 1 rfl rfl, hX.cell 1 2 rfl rfl, hX.cell 1 3 rfl rfl, hX.cell 1 4 rfl rfl, hX.cell 1 5 rfl rfl, trivial⟩) ?_
          intro V233_3 hc hH233_3
          have hV233_3 := Lib.hid hc
          clear hc hKq Kq hV233_2 hb hz hH233_2
          try simp only [Act.put, List.setIfInBounds_toArray, List.set_cons_zero, List.set_cons_succ]
          refine wpAnyH_ready (rs := [7]) (by kernel_rfl) (by simp) ?_
          refine AllReadyH.cons (o := ⟨_, _, _, _, _, _⟩) rfl (fun Kq hKq => ?_) AllReadyH.nil
          go_simp
          refine stepH hKq (hV233_3.out.al V233_3.heap.size #[.slice none 0 0, .bool false, .slice none 0 0] 48 rfl rfl) (fun _ hX => ⟨hX.cell 0 0 rfl rfl, hX.cell 0 1 rfl rfl, hX.cell 0 2 rfl rfl, hX.cell 0 3 rfl rfl, hX.cell 0 4 rfl rfl, hX.cell 0 5 rfl rfl, hX.cell 1 0 rfl rfl, hX.cell 1 1 rfl rfl, hX.cell 1 2 rfl rfl, hX.cell 1 3 rfl rfl, hX.cell 1 4 rfl rfl, hX.cell 1 5 rfl rfl, trivial⟩) ?_
          intro V233_4 hc hH233_4
          have hV233_4 := Lib.hid hc
          clear hc hKq Kq hV233_3 hH233_3
          try simp only [Act.put, List.setIfInBounds_toArray, List.set_cons_zero, List.set_cons_succ]
          refine wpAnyH_ready (rs := [8]) (by kernel_rfl) (by simp) ?_
          refine AllReadyH.cons (o := ⟨_, _, _, _, _, _⟩) rfl (fun Kq hKq => ?_) AllReadyH.nil
          have cQ0 := hV233_4.out.cell 3 0 rfl rfl
          have fQ0 := hV233_4.out.free 3 0 rfl
          have cQ1 := hV233_4.out.cell 3 1 rfl rfl
          have fQ1 := hV233_4.out.free 3 1 rfl
          have cQ2 := hV233_4.out.cell 3 2 rfl rfl
          have fQ2 := hV233_4.out.free 3 2 rfl
          go_simp
          refine stepH hKq (hV233_4.out.set3 3 rfl) (fun _ hX => ⟨hX.cell 0 0 rfl rfl, hX.cell 0 1 rfl rfl, hX.cell 0 2 rfl rfl, hX.cell 0 3 rfl rfl, hX.cell 0 4 rfl rfl, hX.cell 0 5 rfl rfl, hX.cell 1 0 rfl rfl, hX.cell 1 1 rfl rfl, hX.cell 1 2 rfl rfl, hX.cell 1 3 rfl rfl, hX.cell 1 4 rfl rfl, hX.cell 1 5 rfl rfl, trivial⟩) ?_
          intro V233_5 hc hH233_5
          have hV233_5 := Lib.hid hc
          clear hc hKq Kq hV233_4 cQ0 fQ0 cQ1 fQ1 cQ2 fQ2 hH233_4
          try simp only [Act.put, List.setIfInBounds_toArray, List.set_cons_zero, List.set_cons_succ]
          refine wpAnyH_ready (rs := [9]) (by kernel_rfl) (by simp) ?_
          refine AllReadyH.cons (o := ⟨_, _, _, _, _, _⟩) rfl (fun Kq hKq => ?_) AllReadyH.nil
          have cQ0 := hV233_5.out.cell 4 0 rfl rfl
          have fQ0 := hV233_5.out.free 4 0 rfl
          have cQ1 := hV233_5.out.cell 4 1 rfl rfl
          have fQ1 := hV233_5.out.free 4 1 rfl
          have cQ2 := hV233_5.out.cell 4 2 rfl rfl
          have fQ2 := hV233_5.out.free 4 2 rfl
          go_simp
          refine stepH hKq (hV233_5.out.set3 4 rfl) (fun _ hX => ⟨hX.cell 0 0 rfl rfl, hX.cell 0 1 rfl rfl, hX.cell 0 2 rfl rfl, hX.cell 0 3 rfl rfl, hX.cell 0 4 rfl rfl, hX.cell 0 5 rfl rfl, hX.cell 1 0 rfl rfl, hX.cell 1 1 rfl rfl, hX.cell 1 2 rfl rfl, hX.cell 1 3 rfl rfl, hX.cell 1 4 rfl rfl, hX.cell 1 5 rfl rfl, trivial⟩) ?_
          intro V233_6 hc hH233_6
          have hV233_6 := Lib.hid hc
          clear hc hKq Kq hV233_5 cQ0 fQ0 cQ1 fQ1 cQ2 fQ2 hH233_5
          try simp only [Act.put, List.setIfInBounds_toArray, List.set_cons_zero, List.set_cons_succ]
          refine wpAnyH_done (by kernel_rfl) ?_ _
          go_wp2_with fail
          go_meet
          refine ⟨_, _, a230, n230, c230, m230, d230, e230, f230, a231, n231, c231, m231, d231, e231, f231, rfl, rfl, ?_⟩
          exact Lib.hid (St.pick (St.bpick hV233_6.out [0, 1, 2, 3, 4] (by decide) rfl) [0, 1, 2, 3, 4] rfl)
        refine AllReadyH.cons (o := ⟨_, _, _, _, _, _⟩) rfl (fun Kq hKq => ?_) ?_
        · go_simp
          refine stepH hKq (hV233_2.out.al V233_2.heap.size #[.slice none 0 0, .bool false, .slice none 0 0] 48 rfl rfl) (fun _ hX => ⟨hX.cell 0 0 rfl rfl, hX.cell 0 1 rfl rfl, hX.cell 0 2 rfl rfl, hX.cell 0 3 rfl rfl, hX.cell 0 4 rfl rfl, hX.cell 0 5 rfl rfl, hX.cell 1 0 rfl rfl, hX.cell 1 1 rfl rfl, hX.cell 1 2 rfl rfl, hX.cell 1 3 rfl rfl, hX.cell 1 4 rfl rfl, hX.cell 1 5 rfl rfl, trivial⟩) ?_
          intro V233_3 hc hH233_3
          have hV233_3 := Lib.hid hc
          clear hc hKq Kq hV233_2 hH233_2
          try simp only [Act.put, List.setIfInBounds_toArray, List.set_cons_zero, List.set_cons_succ]
          refine wpAnyH_ready (rs := [5]) (by kernel_rfl) (by simp) ?_
          refine AllReadyH.cons (o := ⟨_, _, _, _, _, _⟩) rfl (fun Kq hKq => ?_) AllReadyH.nil
          go_simp
          go_at_call 94
          refine (vcross_b (hV233_3.out.v 0 rfl) (hV233_3.out.v 1 rfl) (Bv.of E1.out E2.out) (Bv.of E3.out E4.out) (by omega) (by omega)).mono ?_
          rintro e w231 ⟨a231, n231, c231, m231, d231, e231, f231, rfl, hz, hb⟩
          (try go_wp2_with fail)
          refine stepH hKq ((hV233_3.out.call hb).pr hz) (fun _ hX => ⟨hX.cell 0 0 rfl rfl, hX.cell 0 1 rfl rfl, hX.cell 0 2 rfl rfl, hX.cell 0 3 rfl rfl, hX.cell 0 4 rfl rfl, hX.cell 0 5 rfl rfl, hX.cell 1 0 rfl rfl, hX.cell 1 1 rfl rfl, hX.cell 1 2 rfl rfl, hX.cell 1 3 rfl rfl, hX.cell 1 4 rfl rfl, hX.cell 1 5 rfl rfl, trivial⟩) ?_
          intro V233_4 hc hH233_4
          have hV233_4 := Lib.hid hc
          clear hc hKq Kq hV233_3 hb hz hH233_3
          try simp only [Act.put, List.setIfInBounds_toArray, List.set_cons_zero, List.set_cons_succ]
          refine wpAnyH_ready (rs := [8]) (by kernel_rfl) (by simp) ?_
          refine AllReadyH.cons (o := ⟨_, _, _, _, _, _⟩) rfl (fun Kq hKq => ?_) AllReadyH.nil
          have cQ0 := hV233_4.out.cell 3 0 rfl rfl
          have fQ0 := hV233_4.out.free 3 0 rfl
          have cQ1 := hV233_4.out.cell 3 1 rfl rfl
          have fQ1 := hV233_4.out.free 3 1 rfl
          have cQ2 := hV233_4.out.cell 3 2 rfl rfl
          have fQ2 := hV233_4.out.free 3 2 rfl
          go_simp
          refine stepH hKq (hV233_4.out.set3 3 rfl) (fun _ hX => ⟨hX.cell 0 0 rfl rfl, hX.cell 0 1 rfl rfl, hX.cell 0 2 rfl rfl, hX.cell 0 3 rfl rfl, hX.cell 0 4 rfl rfl, hX.cell 0 5 rfl rfl, hX.cell 1 0 rfl rfl, hX.cell 1 1 rfl rfl, hX.cell 1 2 rfl rfl, hX.cell 1 3 rfl rfl, hX.cell 1 4 rfl rfl, hX.cell 1 5 rfl rfl, trivial⟩) ?_
          intro V233_5 hc hH233_5
          have hV233_5 := Lib.hid hc
          clear hc hKq Kq hV233_4 cQ0 fQ0 cQ1 fQ1 cQ2 fQ2 hH233_4
          try simp only [Act.put, List.setIfInBounds_toArray, List.set_cons_zero, List.set_cons_succ]
          refine wpAnyH_ready (rs := [9]) (by kernel_rfl) (by simp) ?_
          refine AllReadyH.cons (o := ⟨_, _, _, _, _, _⟩) rfl (fun Kq hKq => ?_) AllReadyH.nil
          have cQ0 := hV233_5.out.cell 4 0 rfl rfl
          have fQ0 := hV233_5.out.free 4 0 rfl
          have cQ1 := hV233_5.out.cell 4 1 rfl rfl
          have fQ1 := hV233_5.out.free 4 1 rfl
          have cQ2 := hV233_5.out.cell 4 2 rfl rfl
          have fQ2 := hV233_5.out.free 4 2 rfl
          go_simp
          refine stepH hKq (hV233_5.out.set3 4 rfl) (fun _ hX => ⟨hX.cell 0 0 rfl rfl, hX.cell 0 1 rfl rfl, hX.cell 0 2 rfl rfl, hX.cell 0 3 rfl rfl, hX.cell 0 4 rfl rfl, hX.cell 0 5 rfl rfl, hX.cell 1 0 rfl rfl, hX.cell 1 1 rfl rfl, hX.cell 1 2 rfl rfl, hX.cell 1 3 rfl rfl, hX.cell 1 4 rfl rfl, hX.cell 1 5 rfl rfl, trivial⟩) ?_
          intro V233_6 hc hH233_6
          have hV233_6 := Lib.hid hc
          clear hc hKq Kq hV233_5 cQ0 fQ0 cQ1 fQ1 cQ2 fQ2 hH233_5
          try simp only [Act.put, List.setIfInBounds_toArray, List.set_cons_zero, List.set_cons_succ]
          refine wpAnyH_done (by kernel_rfl) ?_ _
          go_wp2_with fail
          go_meet
          refine ⟨_, _, a230, n230, c230, m230, d230, e230, f230, a231, n231, c231, m231, d231, e231, f231, rfl, rfl, ?_⟩
          exact Lib.hid (St.pick (St.bpick hV233_6.out [0, 1, 2, 3, 4] (by decide) rfl) [0, 1, 2, 3, 4] rfl)
        exact AllReadyH.nil
      refine AllReadyH.cons (o := ⟨_, _, _, _, _, _⟩) rfl (fun Kq hKq => ?_) ?_
      · go_simp
        refine stepH hKq (hV233_1.out.al V233_1.heap.size #[.slice none 0 0, .bool false, .slice none 0 0] 48 rfl rfl) (fun _ hX => ⟨hX.cell 0 0 rfl rfl, hX.cell 0 1 rfl rfl, hX.cell 0 2 rfl rfl, hX.cell 0 3 rfl rfl, hX.cell 0 4 rfl rfl, hX.cell 0 5 rfl rfl, hX.cell 1 0 rfl rfl, hX.cell 1 1 rfl rfl, hX.cell 1 2 rfl rfl, hX.cell 1 3 rfl rfl, hX.cell 1 4 rfl rfl, hX.cell 1 5 rfl rfl, trivial⟩) ?_
        intro V233_2 hc hH233_2
        have hV233_2 := Lib.hid hc
        clear hc hKq Kq hV233_1 hH233_1
        try simp only [Act.put, List.setIfInBounds_toArray, List.set_cons_zero, List.set_cons_succ]
        refine wpAnyH_ready (rs := [2]) (by kernel_rfl) (by simp) ?_
        refine AllReadyH.cons (o := ⟨_, _, _, _, _, _⟩) rfl (fun Kq hKq => ?_) AllReadyH.nil
        go_simp
        go_at_call 92
        refine (vdot_b (hV233_2.out.v 0 rfl) (hV233_2.out.v 1 rfl) (Bv.of E1.out E2.out) (Bv.of E3.out E4.out) (by omega) (by omega)).mono ?_
        rintro e w230 ⟨a230, n230, c230, m230, d230, e230, f230, rfl, hz, hb⟩
        (try go_wp2_with fail)
        refine stepH hKq ((hV233_2.out.call hb).pr hz) (fun _ hX => ⟨hX.cell 0 0 rfl rfl, hX.cell 0 1 rfl rfl, hX.cell 0 2 rfl rfl, hX.cell 0 3 rfl rfl, hX.cell 0 4 rfl rfl, hX.cell 0 5 rfl rfl, hX.cell 1 0 rfl rfl, hX.cell 1 1 rfl rfl, hX.cell 1 2 rfl rfl, hX.cell 1 3 rfl rfl, hX.cell 1 4 rfl rfl, hX.cell 1 5 rfl rfl, trivial⟩) ?_
        intro V233_3 hc hH233_3
        have hV233_3 := Lib.hid hc
        clear hc hKq Kq hV233_2 hb hz hH233_2
        try simp only [Act.put, List.setIfInBounds_toArray, List.set_cons_zero, List.set_cons_succ]
        refine wpAnyH_ready (rs := [5]) (by kernel_rfl) (by simp) ?_
        refine AllReadyH.cons (o := ⟨_, _, _, _, _, _⟩) rfl (fun Kq hKq => ?_) AllReadyH.nil
        go_simp
        go_at_call 94
        refine (vcross_b (hV233_3.out.v 0 rfl) (hV233_3.out.v 1 rfl) (Bv.of E1.out E2.out) (Bv.of E3.out E4.out) (by omega) (by omega)).mono ?_
        rintro e w231 ⟨a231, n231, c231, m231, d231, e231, f231, rfl, hz, hb⟩
        (try go_wp2_with fail)
        refine stepH hKq ((hV233_3.out.call hb).pr hz) (fun _ hX => ⟨hX.cell 0 0 rfl rfl, hX.cell 0 1 rfl rfl, hX.cell 0 2 rfl rfl, hX.cell 0 3 rfl rfl, hX.cell 0 4 rfl rfl, hX.cell 0 5 rfl rfl, hX.cell 1 0 rfl rfl, hX.cell 1 1 rfl rfl, hX.cell 1 2 rfl rfl, hX.cell 1 3 rfl rfl, hX.cell 1 4 rfl rfl, hX.cell 1 5 rfl rfl, trivial⟩) ?_
        intro V233_4 hc hH233_4
        have hV233_4 := Lib.hid hc
        clear hc hKq Kq hV233_3 hb hz hH233_3
        try simp only [Act.put, List.setIfInBounds_toArray, List.set_cons_zero, List.set_cons_succ]
        refine wpAnyH_ready (rs := [8]) (by kernel_rfl) (by simp) ?_
        refine AllReadyH.cons (o := ⟨_, _, _, _, _, _⟩) rfl (fun Kq hKq => ?_) AllReadyH.nil
        have cQ0 := hV233_4.out.cell 3 0 rfl rfl
        have fQ0 := hV233_4.out.free 3 0 rfl
        have cQ1 := hV233_4.out.cell 3 1 rfl rfl
        have fQ1 := hV233_4.out.free 3 1 rfl
        have cQ2 := hV233_4.out.cell 3 2 rfl rfl
        have fQ2 := hV233_4.out.free 3 2 rfl
        go_simp
        refine stepH hKq (hV233_4.out.set3 3 rfl) (fun _ hX => ⟨hX.cell 0 0 rfl rfl, hX.cell 0 1 rfl rfl, hX.cell 0 2 rfl rfl, hX.cell 0 3 rfl rfl, hX.cell 0 4 rfl rfl, hX.cell 0 5 rfl rfl, hX.cell 1 0 rfl rfl, hX.cell 1 1 rfl rfl, hX.cell 1 2 rfl rfl, hX.cell 1 3 rfl rfl, hX.cell 1 4 rfl rfl, hX.cell 1 5 rfl rfl, trivial⟩) ?_
        intro V233_5 hc hH233_5
        have hV233_5 := Lib.hid hc
        clear hc hKq Kq hV233_4 cQ0 fQ0 cQ1 fQ1 cQ2 fQ2 hH233_4
        try simp only [Act.put, List.setIfInBounds_toArray, List.set_cons_zero, List.set_cons_succ]
        refine wpAnyH_ready (rs := [9]) (by kernel_rfl) (by simp) ?_
        refine AllReadyH.cons (o := ⟨_, _, _, _, _, _⟩) rfl (fun Kq hKq => ?_) AllReadyH.nil
        have cQ0 := hV233_5.out.cell 4 0 rfl rfl
        have fQ0 := hV233_5.out.free 4 0 rfl
        have cQ1 := hV233_5.out.cell 4 1 rfl rfl
        have fQ1 := hV233_5.out.free 4 1 rfl
        have cQ2 := hV233_5.out.cell 4 2 rfl rfl
        have fQ2 := hV233_5.out.free 4 2 rfl
        go_simp
        refine stepH hKq (hV233_5.out.set3 4 rfl) (fun _ hX => ⟨hX.cell 0 0 rfl rfl, hX.cell 0 1 rfl rfl, hX.cell 0 2 rfl rfl, hX.cell 0 3 rfl rfl, hX.cell 0 4 rfl rfl, hX.cell 0 5 rfl rfl, hX.cell 1 0 rfl rfl, hX.cell 1 1 rfl rfl, hX.cell 1 2 rfl rfl, hX.cell 1 3 rfl rfl, hX.cell 1 4 rfl rfl, hX.cell 1 5 rfl rfl, trivial⟩) ?_
        intro V233_6 hc hH233_6
        have hV233_6 := Lib.hid hc
        clear hc hKq Kq hV233_5 cQ0 fQ0 cQ1 fQ1 cQ2 fQ2 hH233_5
        try simp only [Act.put, List.setIfInBounds_toArray, List.set_cons_zero, List.set_cons_succ]
        refine wpAnyH_done (by kernel_rfl) ?_ _
        go_wp2_with fail
        go_meet
        refine ⟨_, _, a230, n230, c230, m230, d230, e230, f230, a231, n231, c231, m231, d231, e231, f231, rfl, rfl, ?_⟩
        exact Lib.hid (St.pick (St.bpick hV233_6.out [0, 1, 2, 3, 4] (by decide) rfl) [0, 1, 2, 3, 4] rfl)
      exact AllReadyH.nil
    refine AllReadyH.cons (o := ⟨_, _, _, _, _, _⟩) rfl (fun Kq hKq => ?_) ?_
    · go_simp
      refine stepH hKq (hV233_0.out.al V233_0.heap.size #[.slice none 0 0, .bool false, .slice none 0 0] 48 rfl rfl) (fun _ hX => ⟨hX.cell 0 0 rfl rfl, hX.cell 0 1 rfl rfl, hX.cell 0 2 rfl rfl, hX.cell 0 3 rfl rfl, hX.cell 0 4 rfl rfl, hX.cell 0 5 rfl rfl, hX.cell 1 0 rfl rfl, hX.cell 1 1 rfl rfl, hX.cell 1 2 rfl rfl, hX.cell 1 3 rfl rfl, hX.cell 1 4 rfl rfl, hX.cell 1 5 rfl rfl, trivial⟩) ?_
      intro V233_1 hc hH233_1
      have hV233_1 := Lib.hid hc
      clear hc hKq Kq hV233_0 hH233_0
      try simp only [Act.put, List.setIfInBounds_toArray, List.set_cons_zero, List.set_cons_succ]
      refine wpAnyH_ready (rs := [2, 6]) (by kernel_rfl) (by simp) ?_
      refine AllReadyH.cons (o := ⟨_, _, _, _, _, _⟩) rfl (fun Kq hKq => ?_) ?_
      · go_simp
        go_at_call 92
        refine (vdot_b (hV233_1.out.v 0 rfl) (hV233_1.out.v 1 rfl) (Bv.of E1.out E2.out) (Bv.of E3.out E4.out) (by omega) (by omega)).mono ?_
        rintro e w230 ⟨a230, n230, c230, m230, d230, e230, f230, rfl, hz, hb⟩
        (try go_wp2_with fail)
        refine stepH hKq ((hV233_1.out.call hb).pr hz) (fun _ hX => ⟨hX.cell 0 0 rfl rfl, hX.cell 0 1 rfl rfl, hX.cell 0 2 rfl rfl, hX.cell 0 3 rfl rfl, hX.cell 0 4 rfl rfl, hX.cell 0 5 rfl rfl, hX.cell 1 0 rfl rfl, hX.cell 1 1 rfl rfl, hX.cell 1 2 rfl rfl, hX.cell 1 3 rfl rfl, hX.cell 1 4 rfl rfl, hX.cell 1 5 rfl rfl, trivial⟩) ?_
        intro V233_2 hc hH233_2
        have hV233_2 := Lib.hid hc
        clear hc hKq Kq hV233_1 hb hz hH233_1
        try simp only [Act.put, List.setIfInBounds_toArray, List.set_cons_zero, List.set_cons_succ]
        refine wpAnyH_ready (rs := [5, 6]) (by kernel_rfl) (by simp) ?_
        refine AllReadyH.cons (o := ⟨_, _, _, _, _, _⟩) rfl (fun Kq hKq => ?_) ?_
        · go_simp
          go_at_call 94
          refine (vcross_b (hV233_2.out.v 0 rfl) (hV233_2.out.v 1 rfl) (Bv.of E1.out E2.out) (Bv.of E3.out E4.out) (by omega) (by omega)).mono ?_
          rintro e w231 ⟨a231, n231, c231, m231, d231, e231, f231, rfl, hz, hb⟩
          (try go_wp2_with fail)
          refine stepH hKq ((hV233_2.out.call hb).pr hz) (fun _ hX => ⟨hX.cell 0 0 rfl rfl, hX.cell 0 1 rfl rfl, hX.cell 0 2 rfl rfl, hX.cell 0 3 rfl rfl, hX.cell 0 4 rfl rfl, hX.cell 0 5 rfl rfl, hX.cell 1 0 rfl rfl, hX.cell 1 1 rfl rfl, hX.cell 1 2 rfl rfl, hX.cell 1 3 rfl rfl, hX.cell 1 4 rfl rfl, hX.cell 1 5 rfl rfl, trivial⟩) ?_
          intro V233_3 hc hH233_3
          have hV233_3 := Lib.hid hc
          clear hc hKq Kq hV233_2 hb hz hH233_2
          try simp only [Act.put, List.setIfInBounds_toArray, List.set_cons_zero, List.set_cons_succ]
          refine wpAnyH_ready (rs := [6]) (by kernel_rfl) (by simp) ?_
          refine AllReadyH.cons (o := ⟨_, _, _, _, _, _⟩) rfl (fun Kq hKq => ?_) AllReadyH.nil
          go_simp
          refine stepH hKq (hV233_3.out.al V233_3.heap.size #[.slice none 0 0, .bool false, .slice none 0 0] 48 rfl rfl) (fun _ hX => ⟨hX.cell 0 0 rfl rfl, hX.cell 0 1 rfl rfl, hX.cell 0 2 rfl rfl, hX.cell 0 3 rfl rfl, hX.cell 0 4 rfl rfl, hX.cell 0 5 rfl rfl, hX.cell 1 0 rfl rfl, hX.cell 1 1 rfl rfl, hX.cell 1 2 rfl rfl, hX.cell 1 3 rfl rfl, hX.cell 1 4 rfl rfl, hX.cell 1 5 rfl rfl, trivial⟩) ?_
          intro V233_4 hc hH233_4
          have hV233_4 := Lib.hid hc
          clear hc hKq Kq hV233_3 hH233_3
          try simp only [Act.put, List.setIfInBounds_toArray, List.set_cons_zero, List.set_cons_succ]
          refine wpAnyH_ready (rs := [8]) (by kernel_rfl) (by simp) ?_
          refine AllReadyH.cons (o := ⟨_, _, _, _, _, _⟩) rfl (fun Kq hKq => ?_) AllReadyH.nil
          have cQ0 := hV233_4.out.cell 4 0 rfl rfl
          have fQ0 := hV233_4.out.free 4 0 rfl
          have cQ1 := hV233_4.out.cell 4 1 rfl rfl
          have fQ1 := hV233_4.out.free 4 1 rfl
          have cQ2 := hV233_4.out.cell 4 2 rfl rfl
          have fQ2 := hV233_4.out.free 4 2 rfl
          go_simp
          refine stepH hKq (hV233_4.out.set3 4 rfl) (fun _ hX => ⟨hX.cell 0 0 rfl rfl, hX.cell 0 1 rfl rfl, hX.cell 0 2 rfl rfl, hX.cell 0 3 rfl rfl, hX.cell 0 4 rfl rfl, hX.cell 0 5 rfl rfl, hX.cell 1 0 rfl rfl, hX.cell 1 1 rfl rfl, hX.cell 1 2 rfl rfl, hX.cell 1 3 rfl rfl, hX.cell 1 4 rfl rfl, hX.cell 1 5 rfl rfl, trivial⟩) ?_
          intro V233_5 hc hH233_5
          have hV233_5 := Lib.hid hc
          clear hc hKq Kq hV233_4 cQ0 fQ0 cQ1 fQ1 cQ2 fQ2 hH233_4
          try simp only [Act.put, List.setIfInBounds_toArray, List.set_cons_zero, List.set_cons_succ]
          refine wpAnyH_ready (rs := [9]) (by kernel_rfl) (by simp) ?_
          refine AllReadyH.cons (o := ⟨_, _, _, _, _, _⟩) rfl (fun Kq hKq => ?_) AllReadyH.nil
          have cQ0 := hV233_5.out.cell 3 0 rfl rfl
          have fQ0 := hV233_5.out.free 3 0 rfl
          have cQ1 := hV233_5.out.cell 3 1 rfl rfl
          have fQ1 := hV233_5.out.free 3 1 rfl
          have cQ2 := hV233_5.out.cell 3 2 rfl rfl
          have fQ2 := hV233_5.out.free 3 2 rfl
          go_simp
          refine stepH hKq (hV233_5.out.set3 3 rfl) (fun _ hX => ⟨hX.cell 0 0 rfl rfl, hX.cell 0 1 rfl rfl, hX.cell 0 2 rfl rfl, hX.cell 0 3 rfl rfl, hX.cell 0 4 rfl rfl, hX.cell 0 5 rfl rfl, hX.cell 1 0 rfl rfl, hX.cell 1 1 rfl rfl, hX.cell 1 2 rfl rfl, hX.cell 1 3 rfl rfl, hX.cell 1 4 rfl rfl, hX.cell 1 5 rfl rfl, trivial⟩) ?_
          intro V233_6 hc hH233_6
          have hV233_6 := Lib.hid hc
          clear hc hKq Kq hV233_5 cQ0 fQ0 cQ1 fQ1 cQ2 fQ2 hH233_5
          try simp only [Act.put, List.setIfInBounds_toArray, List.set_cons_zero, List.set_cons_succ]
          refine wpAnyH_done (by kernel_rfl) ?_ _
          go_wp2_with fail
          go_meet
          refine ⟨_, _, a230, n230, c230, m230, d230, e230, f230, a231, n231, c231, m231, d231, e231, f231, rfl, rfl, ?_⟩
          exact Lib.hid (St.pick (St.bpick hV233_6.out [0, 1, 2, 4, 3] (by decide) rfl) [0, 1, 2, 3, 4] rfl)
        refine AllReadyH.cons (o := ⟨_, _, _, _, _, _⟩) rfl (fun Kq hKq => ?_) ?_
        · go_simp
          refine stepH hKq (hV233_2.out.al V233_2.heap.size #[.slice none 0 0, .bool false, .slice none 0 0] 48 rfl rfl) (fun _ hX => ⟨hX.cell 0 0 rfl rfl, hX.cell 0 1 rfl rfl, hX.cell 0 2 rfl rfl, hX.cell 0 3 rfl rfl, hX.cell 0 4 rfl rfl, hX.cell 0 5 rfl rfl, hX.cell 1 0 rfl rfl, hX.cell 1 1 rfl rfl, hX.cell 1 2 rfl rfl, hX.cell 1 3 rfl rfl, hX.cell 1 4 rfl rfl, hX.cell 1 5 rfl rfl, trivial⟩) ?_
          intro V233_3 hc hH233_3
          have hV233_3 := Lib.hid hc
          clear hc hKq Kq hV233_2 hH233_2
          try simp only [Act.put, List.setIfInBounds_toArray, List.set_cons_zero, List.set_cons_succ]
          refine wpAnyH_ready (rs := [5]) (by kernel_rfl) (by simp) ?_
          refine AllReadyH.cons (o := ⟨_, _, _, _, _, _⟩) rfl (fun Kq hKq => ?_) AllReadyH.nil
          go_simp
          go_at_call 94
          refine (vcross_b (hV233_3.out.v 0 rfl) (hV233_3.out.v 1 rfl) (Bv.of E1.out E2.out) (Bv.of E3.out E4.out) (by omega) (by omega)).mono ?_
          rintro e w231 ⟨a231, n231, c231, m231, d231, e231, f231, rfl, hz, hb⟩
          (try go_wp2_with fail)
          refine stepH hKq ((hV233_3.out.call hb).pr hz) (fun _ hX => ⟨hX.cell 0 0 rfl rfl, hX.cell 0 1 rfl rfl, hX.cell 0 2 rfl rfl, hX.cell 0 3 rfl rfl, hX.cell 0 4 rfl rfl, hX.cell 0 5 rfl rfl, hX.cell 1 0 rfl rfl, hX.cell 1 1 rfl rfl, hX.cell 1 2 rfl rfl, hX.cell 1 3 rfl rfl, hX.cell 1 4 rfl rfl, hX.cell 1 5 rfl rfl, trivial⟩) ?_
          intro V233_4 hc hH233_4
          have hV233_4 := Lib.hid hc
          clear hc hKq Kq hV233_3 hb hz hH233_3
          try simp only [Act.put, List.setIfInBounds_toArray, List.set_cons_zero, List.set_cons_succ]
          refine wpAnyH_ready (rs := [8]) (by kernel_rfl) (by simp) ?_
          refine AllReadyH.cons (o := ⟨_, _, _, _, _, _⟩) rfl (fun Kq hKq => ?_) AllReadyH.nil
          have cQ0 := hV233_4.out.cell 4 0 rfl rfl
          have fQ0 := hV233_4.out.free 4 0 rfl
          have cQ1 := hV233_4.out.cell 4 1 rfl rfl
          have fQ1 := hV233_4.out.free 4 1 rfl
          have cQ2 := hV233_4.out.cell 4 2 rfl rfl
          have fQ2 := hV233_4.out.free 4 2 rfl
          go_simp
          refine stepH hKq (hV233_4.out.set3 4 rfl) (fun _ hX => ⟨hX.cell 0 0 rfl rfl, hX.cell 0 1 rfl rfl, hX.cell 0 2 rfl rfl, hX.cell 0 3 rfl rfl, hX.cell 0 4 rfl rfl, hX.cell 0 5 rfl rfl, hX.cell 1 0 rfl rfl, hX.cell 1 1 rfl rfl, hX.cell 1 2 rfl rfl, hX.cell 1 3 rfl rfl, hX.cell 1 4 rfl rfl, hX.cell 1 5 rfl rfl, trivial⟩) ?_
          intro V233_5 hc hH233_5
          have hV233_5 := Lib.hid hc
          clear hc hKq Kq hV233_4 cQ0 fQ0 cQ1 fQ1 cQ2 fQ2 hH233_4
          try simp only [Act.put, List.setIfInBounds_toArray, List.set_cons_zero, List.set_cons_succ]
          refine wpAnyH_ready (rs := [9]) (by kernel_rfl) (by simp) ?_
          refine AllReadyH.cons (o := ⟨_, _, _, _, _, _⟩) rfl (fun Kq hKq => ?_) AllReadyH.nil
          have cQ0 := hV233_5.out.cell 3 0 rfl rfl
          have fQ0 := hV233_5.out.free 3 0 rfl
          have cQ1 := hV233_5.out.cell 3 1 rfl rfl
          have fQ1 := hV233_5.out.free 3 1 rfl
          have cQ2 := hV233_5.out.cell 3 2 rfl rfl
          have fQ2 := hV233_5.out.free 3 2 rfl
          go_simp
          refine stepH hKq (hV233_5.out.set3 3 rfl) (fun _ hX => ⟨hX.cell 0 0 rfl rfl, hX.cell 0 1 rfl rfl, hX.cell 0 2 rfl rfl, hX.cell 0 3 rfl rfl, hX.cell 0 4 rfl rfl, hX.cell 0 5 rfl rfl, hX.cell 1 0 rfl rfl, hX.cell 1 1 rfl rfl, hX.cell 1 2 rfl rfl, hX.cell 1 3 rfl rfl, hX.cell 1 4 rfl rfl, hX.cell 1 5 rfl rfl, trivial⟩) ?_
          intro V233_6 hc hH233_6
          have hV233_6 := Lib.hid hc
          clear hc hKq Kq hV233_5 cQ0 fQ0 cQ1 fQ1 cQ2 fQ2 hH233_5
          try simp only [Act.put, List.setIfInBounds_toArray, List.set_cons_zero, List.set_cons_succ]
          refine wpAnyH_done (by kernel_rfl) ?_ _
          go_wp2_with fail
          go_meet
          refine ⟨_, _, a230, n230, c230, m230, d230, e230, f230, a231, n231, c231, m231, d231, e231, f231, rfl, rfl, ?_⟩
          exact Lib.hid (St.pick (St.bpick hV233_6.out [0, 1, 2, 4, 3] (by decide) rfl) [0, 1, 2, 3, 4] rfl)
        exact AllReadyH.nil
      refine AllReadyH.cons (o := ⟨_, _, _, _, _, _⟩) rfl (fun Kq hKq => ?_) ?_
      · go_simp
        refine stepH hKq (hV233_1.out.al V233_1.heap.size #[.slice none 0 0, .bool false, .slice none 0 0] 48 rfl rfl) (fun _ hX => ⟨hX.cell 0 0 rfl rfl, hX.cell 0 1 rfl rfl, hX.cell 0 2 rfl rfl, hX.cell 0 3 rfl rfl, hX.cell 0 4 rfl rfl, hX.cell 0 5 rfl rfl, hX.cell 1 0 rfl rfl, hX.cell 1 1 rfl rfl, hX.cell 1 2 rfl rfl, hX.cell 1 3 rfl rfl, hX.cell 1 4 rfl rfl, hX.cell 1 5 rfl rfl, trivial⟩) ?_
        intro V233_2 hc hH233_2
        have hV233_2 := Lib.hid hc
        clear hc hKq Kq hV233_1 hH233_1
        try simp only [Act.put, List.setIfInBounds_toArray, List.set_cons_zero, List.set_cons_succ]
        refine wpAnyH_ready (rs := [2]) (by kernel_rfl) (by simp) ?_
        refine AllReadyH.cons (o := ⟨_, _, _, _, _, _⟩) rfl (fun Kq hKq => ?_) AllReadyH.nil
        go_simp
        go_at_call 92
        refine (vdot_b (hV233_2.out.v 0 rfl) (hV233_2.out.v 1 rfl) (Bv.of E1.out E2.out) (Bv.of E3.out E4.out) (by omega) (by omega)).mono ?_
        rintro e w230 ⟨a230, n230, c230, m230, d230, e230, f230, rfl, hz, hb⟩
        (try go_wp2_with fail)
        refine stepH hKq ((hV233_2.out.call hb).pr hz) (fun _ hX => ⟨hX.cell 0 0 rfl rfl, hX.cell 0 1 rfl rfl, hX.cell 0 2 rfl rfl, hX.cell 0 3 rfl rfl, hX.cell 0 4 rfl rfl, hX.cell 0 5 rfl rfl, hX.cell 1 0 rfl rfl, hX.cell 1 1 rfl rfl, hX.cell 1 2 rfl rfl, hX.cell 1 3 rfl rfl, hX.cell 1 4 rfl rfl, hX.cell 1 5 rfl rfl, trivial⟩) ?_
        intro V233_3 hc hH233_3
        have hV233_3 := Lib.hid hc
        clear hc hKq Kq hV233_2 hb hz hH233_2
        try simp only [Act.put, List.setIfInBounds_toArray, List.set_cons_zero, List.set_cons_succ]
        refine wpAnyH_ready (rs := [5]) (by kernel_rfl) (by simp) ?_
        refine AllReadyH.cons (o := ⟨_, _, _, _, _, _⟩) rfl (fun Kq hKq => ?_) AllReadyH.nil
        go_simp
        go_at_call 94
        refine (vcross_b (hV233_3.out.v 0 rfl) (hV233_3.out.v 1 rfl) (Bv.of E1.out E2.out) (Bv.of E3.out E4.out) (by omega) (by omega)).mono ?_
        rintro e w231 ⟨a231, n231, c231, m231, d231, e231, f231, rfl, hz, hb⟩
        (try go_wp2_with fail)
        refine stepH hKq ((hV233_3.out.call hb).pr hz) (fun _ hX => ⟨hX.cell 0 0 rfl rfl, hX.cell 0 1 rfl rfl, hX.cell 0 2 rfl rfl, hX.cell 0 3 rfl rfl, hX.cell 0 4 rfl rfl, hX.cell 0 5 rfl rfl, hX.cell 1 0 rfl rfl, hX.cell 1 1 rfl rfl, hX.cell 1 2 rfl rfl, hX.cell 1 3 rfl rfl, hX.cell 1 4 rfl rfl, hX.cell 1 5 rfl rfl, trivial⟩) ?_
        intro V233_4 hc hH233_4
        have hV233_4 := Lib.hid hc
        clear hc hKq Kq hV233_3 hb hz hH233_3
        try simp only [Act.put, List.setIfInBounds_toArray, List.set_cons_zero, List.set_cons_succ]
        refine wpAnyH_ready (rs := [8]) (by kernel_rfl) (by simp) ?_
        refine AllReadyH.cons (o := ⟨_, _, _, _, _, _⟩) rfl (fun Kq hKq => ?_) AllReadyH.nil
        have cQ0 := hV233_4.out.cell 4 0 rfl rfl
        have fQ0 := hV233_4.out.free 4 0 rfl
        have cQ1 := hV233_4.out.cell 4 1 rfl rfl
        have fQ1 := hV233_4.out.free 4 1 rfl
        have cQ2 := hV233_4.out.cell 4 2 rfl rfl
        have fQ2 := hV233_4.out.free 4 2 rfl
        go_simp
        refine stepH hKq (hV233_4.out.set3 4 rfl) (fun _ hX => ⟨hX.cell 0 0 rfl rfl, hX.cell 0 1 rfl rfl, hX.cell 0 2 rfl rfl, hX.cell 0 3 rfl rfl, hX.cell 0 4 rfl rfl, hX.cell 0 5 rfl rfl, hX.cell 1 0 rfl rfl, hX.cell 1 1 rfl rfl, hX.cell 1 2 rfl rfl, hX.cell 1 3 rfl rfl, hX.cell 1 4 rfl rfl, hX.cell 1 5 rfl rfl, trivial⟩) ?_
        intro V233_5 hc hH233_5
        have hV233_5 := Lib.hid hc
        clear hc hKq Kq hV233_4 cQ0 fQ0 cQ1 fQ1 cQ2 fQ2 hH233_4
        try simp only [Act.put, List.setIfInBounds_toArray, List.set_cons_zero, List.set_cons_succ]
        refine wpAnyH_ready (rs := [9]) (by kernel_rfl) (by simp) ?_
        refine AllReadyH.cons (o := ⟨_, _, _, _, _, _⟩) rfl (fun Kq hKq => ?_) AllReadyH.nil
        have cQ0 := hV233_5.out.cell 3 0 rfl rfl
        have fQ0 := hV233_5.out.free 3 0 rfl
        have cQ1 := hV233_5.out.cell 3 1 rfl rfl
        have fQ1 := hV233_5.out.free 3 1 rfl
        have cQ2 := hV233_5.out.cell 3 2 rfl rfl
        have fQ2 := hV233_5.out.free 3 2 rfl
        go_simp
        refine stepH hKq (hV233_5.out.set3 3 rfl) (fun _ hX => ⟨hX.cell 0 0 rfl rfl, hX.cell 0 1 rfl rfl, hX.cell 0 2 rfl rfl, hX.cell 0 3 rfl rfl, hX.cell 0 4 rfl rfl, hX.cell 0 5 rfl rfl, hX.cell 1 0 rfl rfl, hX.cell 1 1 rfl rfl, hX.cell 1 2 rfl rfl, hX.cell 1 3 rfl rfl, hX.cell 1 4 rfl rfl, hX.cell 1 5 rfl rfl, trivial⟩) ?_
        intro V233_6 hc hH233_6
        have hV233_6 := Lib.hid hc
        clear hc hKq Kq hV233_5 cQ0 fQ0 cQ1 fQ1 cQ2 fQ2 hH233_5
        try simp only [Act.put, List.setIfInBounds_toArray, List.set_cons_zero, List.set_cons_succ]
        refine wpAnyH_done (by kernel_rfl) ?_ _
        go_wp2_with fail
        go_meet
        refine ⟨_, _, a230, n230, c230, m230, d230, e230, f230, a231, n231, c231, m231, d231, e231, f231, rfl, rfl, ?_⟩
        exact Lib.hid (St.pick (St.bpick hV233_6.out [0, 1, 2, 4, 3] (by decide) rfl) [0, 1, 2, 3, 4] rfl)
      exact AllReadyH.nil
    exact AllReadyH.nil
  case rest =>
    obtain ⟨b232_0, b232_1, a230, n230, c230, m230, d230, e230, f230, a231, n231, c231, m231, d231, e231, f231, rfl, rfl, hE232⟩ := hcut
    clear hD232
    go_wp2_with fail
    refine wp_gen hE232.out ?_
    intro WE hc
    clear hE232
    have hE := Lib.hid hc
    clear hc
    refine wp_region_held_drew (S := (fun w' => w'.cell? ⟨wa.heap.size, 0, none⟩ = some (.slice a221 n221 c221) ∧ w'.cell? ⟨wa.heap.size, 1, none⟩ = some (.bool m221) ∧ w'.cell? ⟨wa.heap.size, 2, none⟩ = some (.slice d221 e221 f221) ∧ w'.cell? ⟨wa.heap.size, 3, none⟩ = some (.slice u221 x221 y221) ∧ w'.cell? ⟨wa.heap.size, 4, none⟩ = some (.bool p221) ∧ w'.cell? ⟨wa.heap.size, 5, none⟩ = some (.slice t221 o221 l221) ∧ w'.cell? ⟨wb.heap.size, 0, none⟩ = some (.slice a223 n223 c223) ∧ w'.cell? ⟨wb.heap.size, 1, none⟩ = some (.bool m223) ∧ w'.cell? ⟨wb.heap.size, 2, none⟩ = some (.slice d223 e223 f223) ∧ w'.cell? ⟨wb.heap.size, 3, none⟩ = some (.slice u223 x223 y223) ∧ w'.cell? ⟨wb.heap.size, 4, none⟩ = some (.bool p223) ∧ w'.cell? ⟨wb.heap.size, 5, none⟩ = some (.slice t223 o223 l223) ∧ w'.cell? ⟨wg.heap.size, 0, none⟩ = some (.slice a225 n225 c225) ∧ w'.cell? ⟨wg.heap.size, 1, none⟩ = some (.bool m225) ∧ w'.cell? ⟨wg.heap.size, 2, none⟩ = some (.slice d225 e225 f225) ∧ w'.cell? ⟨b232_0, 0, none⟩ = some (.slice a230 n230 c230) ∧ w'.cell? ⟨b232_0, 1, none⟩ = some (.bool m230) ∧ w'.cell? ⟨b232_0, 2, none⟩ = some (.slice d230 e230 f230) ∧ w'.cell? ⟨b232_1, 0, none⟩ = some (.slice a231 n231 c231) ∧ w'.cell? ⟨b232_1, 1, none⟩ = some (.bool m231) ∧ w'.cell? ⟨b232_1, 2, none⟩ = some (.slice d231 e231 f231) ∧ True)) (by kernel_rfl) ?_ (fun hH0 => ?_)
    · (try dsimp only)
      all_goals (with_reducible refine And.intro (?_ : World.cell? (World.drew WE) _ = _) ?_; exact hE.out.drew.cell 0 0 rfl rfl; exact ⟨hE.out.drew.cell 0 1 rfl rfl, hE.out.drew.cell 0 2 rfl rfl, hE.out.drew.cell 0 3 rfl rfl, hE.out.drew.cell 0 4 rfl rfl, hE.out.drew.cell 0 5 rfl rfl, hE.out.drew.cell 1 0 rfl rfl, hE.out.drew.cell 1 1 rfl rfl, hE.out.drew.cell 1 2 rfl rfl, hE.out.drew.cell 1 3 rfl rfl, hE.out.drew.cell 1 4 rfl rfl, hE.out.drew.cell 1 5 rfl rfl, hE.out.drew.cell 2 0 rfl rfl, hE.out.drew.cell 2 1 rfl rfl, hE.out.drew.cell 2 2 rfl rfl, hE.out.drew.cell 3 0 rfl rfl, hE.out.drew.cell 3 1 rfl rfl, hE.out.drew.cell 3 2 rfl rfl, hE.out.drew.cell 4 0 rfl rfl, hE.out.drew.cell 4 1 rfl rfl, hE.out.drew.cell 4 2 rfl rfl, trivial⟩)
    refine wpAnyH_take (i := 0) (oi := ⟨_, _, _, _, _, _⟩) (v := ?_) rfl (by kernel_rfl) (by kernel_rfl) (by kernel_rfl) (fun _ _ _ h => h) (Or.inl ⟨by rfl, ?_⟩) hH0 ?_
    rotate_left
    · intro wS hSw; (try dsimp only at hSw); go_simp; try with_reducible rfl
    try simp only [Act.put, List.setIfInBounds_toArray, List.set_cons_zero, List.set_cons_succ]
    refine wpAnyH_take (i := 1) (oi := ⟨_, _, _, _, _, _⟩) (v := ?_) rfl (by kernel_rfl) (by kernel_rfl) (by kernel_rfl) (fun _ _ _ h => h) (Or.inl ⟨by rfl, ?_⟩) hH0 ?_
    rotate_left
    · intro wS hSw; (try dsimp only at hSw); go_simp; try with_reducible rfl
    try simp only [Act.put, List.setIfInBounds_toArray, List.set_cons_zero, List.set_cons_succ]
    refine wpAnyH_take (i := 3) (oi := ⟨_, _, _, _, _, _⟩) (v := ?_) rfl (by kernel_rfl) (by kernel_rfl) (by kernel_rfl) (fun _ _ _ h => h) (Or.inl ⟨by rfl, ?_⟩) hH0 ?_
    rotate_left
    · intro wS hSw; (try dsimp only at hSw); go_simp; try with_reducible rfl
    try simp only [Act.put, List.setIfInBounds_toArray, List.set_cons_zero, List.set_cons_succ]
    refine wpAnyH_take (i := 4) (oi := ⟨_, _, _, _, _, _⟩) (v := ?_) rfl (by kernel_rfl) (by kernel_rfl) (by kernel_rfl) (fun _ _ _ h => h) (Or.inl ⟨by rfl, ?_⟩) hH0 ?_
    rotate_left
    · intro wS hSw; (try dsimp only at hSw); go_simp; try with_reducible rfl
    try simp only [Act.put, List.setIfInBounds_toArray, List.set_cons_zero, List.set_cons_succ]
    refine wpAnyH_take (i := 7) (oi := ⟨_, _, _, _, _, _⟩) (v := ?_) rfl (by kernel_rfl) (by kernel_rfl) (by kernel_rfl) (fun _ _ _ h => h) (Or.inl ⟨by rfl, ?_⟩) hH0 ?_
    rotate_left
    · intro wS hSw; (try dsimp only at hSw); go_simp; try with_reducible rfl
    try simp only [Act.put, List.setIfInBounds_toArray, List.set_cons_zero, List.set_cons_succ]
    refine wpAnyH_take (i := 8) (oi := ⟨_, _, _, _, _, _⟩) (v := ?_) rfl (by kernel_rfl) (by kernel_rfl) (by kernel_rfl) (fun _ _ _ h => h) (Or.inl ⟨by rfl, ?_⟩) hH0 ?_
    rotate_left
    · intro wS hSw; (try dsimp only at hSw); go_simp; try with_reducible rfl
    try simp only [Act.put, List.setIfInBounds_toArray, List.set_cons_zero, List.set_cons_succ]
    refine wpAnyH_take (i := 10) (oi := ⟨_, _, _, _, _, _⟩) (v := ?_) rfl (by kernel_rfl) (by kernel_rfl) (by kernel_rfl) (fun _ _ _ h => h) (Or.inl ⟨by rfl, ?_⟩) hH0 ?_
    rotate_left
    · intro wS hSw; (try dsimp only at hSw); go_simp; try with_reducible rfl
    try simp only [Act.put, List.setIfInBounds_toArray, List.set_cons_zero, List.set_cons_succ]
    refine wpAnyH_take (i := 11) (oi := ⟨_, _, _, _, _, _⟩) (v := ?_) rfl (by kernel_rfl) (by kernel_rfl) (by kernel_rfl) (fun _ _ _ h => h) (Or.inl ⟨by rfl, ?_⟩) hH0 ?_
    rotate_left
    · intro wS hSw; (try dsimp only at hSw); go_simp; try with_reducible rfl
    try simp only [Act.put, List.setIfInBounds_toArray, List.set_cons_zero, List.set_cons_succ]
    refine wpAnyH_ready (rs := [2]) (by kernel_rfl) (by simp) ?_
    refine AllReadyH.cons (o := ⟨_, _, _, _, _, _⟩) rfl (fun Kq hKq => ?_) AllReadyH.nil
    go_simp
    (have _t := hE; go_at_call 71; refine (rmul_b (hE.out.drew.r 3 rfl) (hE.out.drew.r 3 rfl) (Bv.dot ((Bv.of E1.out E2.out)) ((Bv.of E3.out E4.out))) (Bv.dot ((Bv.of E1.out E2.out)) ((Bv.of E3.out E4.out))) (by omega) (by omega)).mono ?_; rintro e w234 ⟨a234, n234, c234, m234, d234, e234, f234, rfl, hz, hb⟩; have hC234 : Hid (St w w234 [(wa.heap.size, #[.slice a221 n221 c221, .bool m221, .slice d221 e221 f221, .slice u221 x221 y221, .bool p221, .slice t221 o221 l221], 103), (wb.heap.size, #[.slice a223 n223 c223, .bool m223, .slice d223 e223 f223, .slice u223 x223 y223, .bool p223, .slice t223 o223 l223], 103), (wg.heap.size, #[.slice a225 n225 c225, .bool m225, .slice d225 e225 f225], 48), (b232_0, #[.slice a230 n230 c230, .bool m230, .slice d230 e230 f230], 48), (b232_1, #[.slice a231 n231 c231, .bool m231, .slice d231 e231 f231], 48)] [fun V => Vd V (.slice a221 n221 c221) m221 (.slice d221 e221 f221) (.slice u221 x221 y221) p221 (.slice t221 o221 l221) ((x1, x2)), fun V => Vd V (.slice a223 n223 c223) m223 (.slice d223 e223 f223) (.slice u223 x223 y223) p223 (.slice t223 o223 l223) ((x3, x4)), fun V => Rd V (.slice a225 n225 c225) m225 (.slice d225 e225 f225) (x5), fun V => Rd V (.slice a230 n230 c230) m230 (.slice d230 e230 f230) ((((x1, x2)).1 * ((x3, x4)).1 + ((x1, x2)).2 * ((x3, x4)).2)), fun V => Rd V (.slice a231 n231 c231) m231 (.slice d231 e231 f231) ((((x1, x2)).1 * ((x3, x4)).2 - ((x1, x2)).2 * ((x3, x4)).1)), fun V => Rd V (.slice a234 n234 c234) m234 (.slice d234 e234 f234) (((((x1, x2)).1 * ((x3, x4)).1 + ((x1, x2)).2 * ((x3, x4)).2) * (((x1, x2)).1 * ((x3, x4)).1 + ((x1, x2)).2 * ((x3, x4)).2)))]) := Lib.hid (St.pick ((hE.out.drew.call hb).pr hz) [0, 1, 2, 3, 4, 5] rfl); clear hb hz; clear _t hE)
    (try go_wp2_with fail)
    refine hKq.out _ _ ?_ (fun hH1 => ?_)
    · (try dsimp only)
      all_goals (with_reducible refine And.intro (?_ : World.cell? w234 _ = _) ?_; exact hC234.out.cell 0 0 rfl rfl; exact ⟨hC234.out.cell 0 1 rfl rfl, hC234.out.cell 0 2 rfl rfl, hC234.out.cell 0 3 rfl rfl, hC234.out.cell 0 4 rfl rfl, hC234.out.cell 0 5 rfl rfl, hC234.out.cell 1 0 rfl rfl, hC234.out.cell 1 1 rfl rfl, hC234.out.cell 1 2 rfl rfl, hC234.out.cell 1 3 rfl rfl, hC234.out.cell 1 4 rfl rfl, hC234.out.cell 1 5 rfl rfl, hC234.out.cell 2 0 rfl rfl, hC234.out.cell 2 1 rfl rfl, hC234.out.cell 2 2 rfl rfl, hC234.out.cell 3 0 rfl rfl, hC234.out.cell 3 1 rfl rfl, hC234.out.cell 3 2 rfl rfl, hC234.out.cell 4 0 rfl rfl, hC234.out.cell 4 1 rfl rfl, hC234.out.cell 4 2 rfl rfl, trivial⟩)
    clear hKq Kq hH0
    try simp only [Act.put, List.setIfInBounds_toArray, List.set_cons_zero, List.set_cons_succ]
    refine wpAnyH_ready (rs := [5]) (by kernel_rfl) (by simp) ?_
    refine AllReadyH.cons (o := ⟨_, _, _, _, _, _⟩) rfl (fun Kq hKq => ?_) AllReadyH.nil
    go_simp
    (have _t := hC234; go_at_call 71; refine (rmul_b (hC234.out.r 4 rfl) (hC234.out.r 4 rfl) (Bv.cross ((Bv.of E1.out E2.out)) ((Bv.of E3.out E4.out))) (Bv.cross ((Bv.of E1.out E2.out)) ((Bv.of E3.out E4.out))) (by omega) (by omega)).mono ?_; rintro e w235 ⟨a235, n235, c235, m235, d235, e235, f235, rfl, hz, hb⟩; have hC235 : Hid (St w w235 [(wa.heap.size, #[.slice a221 n221 c221, .bool m221, .slice d221 e221 f221, .slice u221 x221 y221, .bool p221, .slice t221 o221 l221], 103), (wb.heap.size, #[.slice a223 n223 c223, .bool m223, .slice d223 e223 f223, .slice u223 x223 y223, .bool p223, .slice t223 o223 l223], 103), (wg.heap.size, #[.slice a225 n225 c225, .bool m225, .slice d225 e225 f225], 48), (b232_0, #[.slice a230 n230 c230, .bool m230, .slice d230 e230 f230], 48), (b232_1, #[.slice a231 n231 c231, .bool m231, .slice d231 e231 f231], 48)] [fun V => Vd V (.slice a221 n221 c221) m221 (.slice d221 e221 f221) (.slice u221 x221 y221) p221 (.slice t221 o221 l221) ((x1, x2)), fun V => Vd V (.slice a223 n223 c223) m223 (.slice d223 e223 f223) (.slice u223 x223 y223) p223 (.slice t223 o223 l223) ((x3, x4)), fun V => Rd V (.slice a225 n225 c225) m225 (.slice d225 e225 f225) (x5), fun V => Rd V (.slice a230 n230 c230) m230 (.slice d230 e230 f230) ((((x1, x2)).1 * ((x3, x4)).1 + ((x1, x2)).2 * ((x3, x4)).2)), fun V => Rd V (.slice a231 n231 c231) m231 (.slice d231 e231 f231) ((((x1, x2)).1 * ((x3, x4)).2 - ((x1, x2)).2 * ((x3, x4)).1)), fun V => Rd V (.slice a234 n234 c234) m234 (.slice d234 e234 f234) (((((x1, x2)).1 * ((x3, x4)).1 + ((x1, x2)).2 * ((x3, x4)).2) * (((x1, x2)).1 * ((x3, x4)).1 + ((x1, x2)).2 * ((x3, x4)).2))), fun V => Rd V (.slice a235 n235 c235) m235 (.slice d235 e235 f235) (((((x1, x2)).1 * ((x3, x4)).2 - ((x1, x2)).2 * ((x3, x4)).1) * (((x1, x2)).1 * ((x3, x4)).2 - ((x1, x2)).2 * ((x3, x4)).1)))]) := Lib.hid (St.pick ((hC234.out.call hb).pr hz) [0, 1, 2, 3, 4, 5, 6] rfl); clear hb hz; clear _t hC234)
    (try go_wp2_with fail)
    refine hKq.out _ _ ?_ (fun hH2 => ?_)
    · (try dsimp only)
      all_goals (with_reducible refine And.intro (?_ : World.cell? w235 _ = _) ?_; exact hC235.out.cell 0 0 rfl rfl; exact ⟨hC235.out.cell 0 1 rfl rfl, hC235.out.cell 0 2 rfl rfl, hC235.out.cell 0 3 rfl rfl, hC235.out.cell 0 4 rfl rfl, hC235.out.cell 0 5 rfl rfl, hC235.out.cell 1 0 rfl rfl, hC235.out.cell 1 1 rfl rfl, hC235.out.cell 1 2 rfl rfl, hC235.out.cell 1 3 rfl rfl, hC235.out.cell 1 4 rfl rfl, hC235.out.cell 1 5 rfl rfl, hC235.out.cell 2 0 rfl rfl, hC235.out.cell 2 1 rfl rfl, hC235.out.cell 2 2 rfl rfl, hC235.out.cell 3 0 rfl rfl, hC235.out.cell 3 1 rfl rfl, hC235.out.cell 3 2 rfl rfl, hC235.out.cell 4 0 rfl rfl, hC235.out.cell 4 1 rfl rfl, hC235.out.cell 4 2 rfl rfl, trivial⟩)
    clear hKq Kq hH1
    try simp only [Act.put, List.setIfInBounds_toArray, List.set_cons_zero, List.set_cons_succ]
    refine wpAnyH_ready (rs := [6]) (by kernel_rfl) (by simp) ?_
    refine AllReadyH.cons (o := ⟨_, _, _, _, _, _⟩) rfl (fun Kq hKq => ?_) AllReadyH.nil
    go_simp
    (have _t := hC235; go_at_call 67; refine (radd_b (hC235.out.r 5 rfl) (hC235.out.r 6 rfl) (((Bv.dot ((Bv.of E1.out E2.out)) ((Bv.of E3.out E4.out)))).mul ((Bv.dot ((Bv.of E1.out E2.out)) ((Bv.of E3.out E4.out))))) (((Bv.cross ((Bv.of E1.out E2.out)) ((Bv.of E3.out E4.out)))).mul ((Bv.cross ((Bv.of E1.out E2.out)) ((Bv.of E3.out E4.out))))) (by omega) (by omega)).mono ?_; rintro e w236 ⟨a236, n236, c236, m236, d236, e236, f236, rfl, hz, hb⟩; have hC236 : Hid (St w w236 [(wa.heap.size, #[.slice a221 n221 c221, .bool m221, .slice d221 e221 f221, .slice u221 x221 y221, .bool p221, .slice t221 o221 l221], 103), (wb.heap.size, #[.slice a223 n223 c223, .bool m223, .slice d223 e223 f223, .slice u223 x223 y223, .bool p223, .slice t223 o223 l223], 103), (wg.heap.size, #[.slice a225 n225 c225, .bool m225, .slice d225 e225 f225], 48), (b232_0, #[.slice a230 n230 c230, .bool m230, .slice d230 e230 f230], 48), (b232_1, #[.slice a231 n231 c231, .bool m231, .slice d231 e231 f231], 48)] [fun V => Vd V (.slice a221 n221 c221) m221 (.slice d221 e221 f221) (.slice u221 x221 y221) p221 (.slice t221 o221 l221) ((x1, x2)), fun V => Vd V (.slice a223 n223 c223) m223 (.slice d223 e223 f223) (.slice u223 x223 y223) p223 (.slice t223 o223 l223) ((x3, x4)), fun V => Rd V (.slice a225 n225 c225) m225 (.slice d225 e225 f225) (x5), fun V => Rd V (.slice a230 n230 c230) m230 (.slice d230 e230 f230) ((((x1, x2)).1 * ((x3, x4)).1 + ((x1, x2)).2 * ((x3, x4)).2)), fun V => Rd V (.slice a231 n231 c231) m231 (.slice d231 e231 f231) ((((x1, x2)).1 * ((x3, x4)).2 - ((x1, x2)).2 * ((x3, x4)).1)), fun V => Rd V (.slice a236 n236 c236) m236 (.slice d236 e236 f236) ((((((x1, x2)).1 * ((x3, x4)).1 + ((x1, x2)).2 * ((x3, x4)).2) * (((x1, x2)).1 * ((x3, x4)).1 + ((x1, x2)).2 * ((x3, x4)).2)) + ((((x1, x2)).1 * ((x3, x4)).2 - ((x1, x2)).2 * ((x3, x4)).1) * (((x1, x2)).1 * ((x3, x4)).2 - ((x1, x2)).2 * ((x3, x4)).1))))]) := Lib.hid (St.pick ((hC235.out.call hb).pr hz) [0, 1, 2, 3, 4, 7] rfl); clear hb hz; clear _t hC235)
    (try go_wp2_with fail)
    refine hKq.out _ _ ?_ (fun hH3 => ?_)
    · (try dsimp only)
      all_goals (with_reducible refine And.intro (?_ : World.cell? w236 _ = _) ?_; exact hC236.out.cell 0 0 rfl rfl; exact ⟨hC236.out.cell 0 1 rfl rfl, hC236.out.cell 0 2 rfl rfl, hC236.out.cell 0 3 rfl rfl, hC236.out.cell 0 4 rfl rfl, hC236.out.cell 0 5 rfl rfl, hC236.out.cell 1 0 rfl rfl, hC236.out.cell 1 1 rfl rfl, hC236.out.cell 1 2 rfl rfl, hC236.out.cell 1 3 rfl rfl, hC236.out.cell 1 4 rfl rfl, hC236.out.cell 1 5 rfl rfl, hC236.out.cell 2 0 rfl rfl, hC236.out.cell 2 1 rfl rfl, hC236.out.cell 2 2 rfl rfl, hC236.out.cell 3 0 rfl rfl, hC236.out.cell 3 1 rfl rfl, hC236.out.cell 3 2 rfl rfl, hC236.out.cell 4 0 rfl rfl, hC236.out.cell 4 1 rfl rfl, hC236.out.cell 4 2 rfl rfl, trivial⟩)
    clear hKq Kq hH2
    try simp only [Act.put, List.setIfInBounds_toArray, List.set_cons_zero, List.set_cons_succ]
    refine wpAnyH_ready (rs := [9]) (by kernel_rfl) (by simp) ?_
    refine AllReadyH.cons (o := ⟨_, _, _, _, _, _⟩) rfl (fun Kq hKq => ?_) AllReadyH.nil
    go_simp
    (have _t := hC236; go_at_call 92; refine (vdot_b (hC236.out.v 0 rfl) (hC236.out.v 0 rfl) (Bv.of E1.out E2.out) (Bv.of E1.out E2.out) (by omega) (by omega)).mono ?_; rintro e w237 ⟨a237, n237, c237, m237, d237, e237, f237, rfl, hz, hb⟩; have hC237 : Hid (St w w237 [(wa.heap.size, #[.slice a221 n221 c221, .bool m221, .slice d221 e221 f221, .slice u221 x221 y221, .bool p221, .slice t221 o221 l221], 103), (wb.heap.size, #[.slice a223 n223 c223, .bool m223, .slice d223 e223 f223, .slice u223 x223 y223, .bool p223, .slice t223 o223 l223], 103), (wg.heap.size, #[.slice a225 n225 c225, .bool m225, .slice d225 e225 f225], 48), (b232_0, #[.slice a230 n230 c230, .bool m230, .slice d230 e230 f230], 48), (b232_1, #[.slice a231 n231 c231, .bool m231, .slice d231 e231 f231], 48)] [fun V => Vd V (.slice a221 n221 c221) m221 (.slice d221 e221 f221) (.slice u221 x221 y221) p221 (.slice t221 o221 l221) ((x1, x2)), fun V => Vd V (.slice a223 n223 c223) m223 (.slice d223 e223 f223) (.slice u223 x223 y223) p223 (.slice t223 o223 l223) ((x3, x4)), fun V => Rd V (.slice a225 n225 c225) m225 (.slice d225 e225 f225) (x5), fun V => Rd V (.slice a230 n230 c230) m230 (.slice d230 e230 f230) ((((x1, x2)).1 * ((x3, x4)).1 + ((x1, x2)).2 * ((x3, x4)).2)), fun V => Rd V (.slice a231 n231 c231) m231 (.slice d231 e231 f231) ((((x1, x2)).1 * ((x3, x4)).2 - ((x1, x2)).2 * ((x3, x4)).1)), fun V => Rd V (.slice a236 n236 c236) m236 (.slice d236 e236 f236) ((((((x1, x2)).1 * ((x3, x4)).1 + ((x1, x2)).2 * ((x3, x4)).2) * (((x1, x2)).1 * ((x3, x4)).1 + ((x1, x2)).2 * ((x3, x4)).2)) + ((((x1, x2)).1 * ((x3, x4)).2 - ((x1, x2)).2 * ((x3, x4)).1) * (((x1, x2)).1 * ((x3, x4)).2 - ((x1, x2)).2 * ((x3, x4)).1)))), fun V => Rd V (.slice a237 n237 c237) m237 (.slice d237 e237 f237) ((((x1, x2)).1 * ((x1, x2)).1 + ((x1, x2)).2 * ((x1, x2)).2))]) := Lib.hid (St.pick ((hC236.out.call hb).pr hz) [0, 1, 2, 3, 4, 5, 6] rfl); clear hb hz; clear _t hC236)
    (try go_wp2_with fail)
    refine hKq.out _ _ ?_ (fun hH4 => ?_)
    · (try dsimp only)
      all_goals (with_reducible refine And.intro (?_ : World.cell? w237 _ = _) ?_; exact hC237.out.cell 0 0 rfl rfl; exact ⟨hC237.out.cell 0 1 rfl rfl, hC237.out.cell 0 2 rfl rfl, hC237.out.cell 0 3 rfl rfl, hC237.out.cell 0 4 rfl rfl, hC237.out.cell 0 5 rfl rfl, hC237.out.cell 1 0 rfl rfl, hC237.out.cell 1 1 rfl rfl, hC237.out.cell 1 2 rfl rfl, hC237.out.cell 1 3 rfl rfl, hC237.out.cell 1 4 rfl rfl, hC237.out.cell 1 5 rfl rfl, hC237.out.cell 2 0 rfl rfl, hC237.out.cell 2 1 rfl rfl, hC237.out.cell 2 2 rfl rfl, hC237.out.cell 3 0 rfl rfl, hC237.out.cell 3 1 rfl rfl, hC237.out.cell 3 2 rfl rfl, hC237.out.cell 4 0 rfl rfl, hC237.out.cell 4 1 rfl rfl, hC237.out.cell 4 2 rfl rfl, trivial⟩)
    clear hKq Kq hH3
    try simp only [Act.put, List.setIfInBounds_toArray, List.set_cons_zero, List.set_cons_succ]
    refine wpAnyH_ready (rs := [12]) (by kernel_rfl) (by simp) ?_
    refine AllReadyH.cons (o := ⟨_, _, _, _, _, _⟩) rfl (fun Kq hKq => ?_) AllReadyH.nil
    go_simp
    (have _t := hC237; go_at_call 92; refine (vdot_b (hC237.out.v 1 rfl) (hC237.out.v 1 rfl) (Bv.of E3.out E4.out) (Bv.of E3.out E4.out) (by omega) (by omega)).mono ?_; rintro e w238 ⟨a238, n238, c238, m238, d238, e238, f238, rfl, hz, hb⟩; have hC238 : Hid (St w w238 [(wa.heap.size, #[.slice a221 n221 c221, .bool m221, .slice d221 e221 f221, .slice u221 x221 y221, .bool p221, .slice t221 o221 l221], 103), (wb.heap.size, #[.slice a223 n223 c223, .bool m223, .slice d223 e223 f223, .slice u223 x223 y223, .bool p223, .slice t223 o223 l223], 103), (wg.heap.size, #[.slice a225 n225 c225, .bool m225, .slice d225 e225 f225], 48), (b232_0, #[.slice a230 n230 c230, .bool m230, .slice d230 e230 f230], 48), (b232_1, #[.slice a231 n231 c231, .bool m231, .slice d231 e231 f231], 48)] [fun V => Vd V (.slice a221 n221 c221) m221 (.slice d221 e221 f221) (.slice u221 x221 y221) p221 (.slice t221 o221 l221) ((x1, x2)), fun V => Vd V (.slice a223 n223 c223) m223 (.slice d223 e223 f223) (.slice u223 x223 y223) p223 (.slice t223 o223 l223) ((x3, x4)), fun V => Rd V (.slice a225 n225 c225) m225 (.slice d225 e225 f225) (x5), fun V => Rd V (.slice a230 n230 c230) m230 (.slice d230 e230 f230) ((((x1, x2)).1 * ((x3, x4)).1 + ((x1, x2)).2 * ((x3, x4)).2)), fun V => Rd V (.slice a231 n231 c231) m231 (.slice d231 e231 f231) ((((x1, x2)).1 * ((x3, x4)).2 - ((x1, x2)).2 * ((x3, x4)).1)), fun V => Rd V (.slice a236 n236 c236) m236 (.slice d236 e236 f236) ((((((x1, x2)).1 * ((x3, x4)).1 + ((x1, x2)).2 * ((x3, x4)).2) * (((x1, x2)).1 * ((x3, x4)).1 + ((x1, x2)).2 * ((x3, x4)).2)) + ((((x1, x2)).1 * ((x3, x4)).2 - ((x1, x2)).2 * ((x3, x4)).1) * (((x1, x2)).1 * ((x3, x4)).2 - ((x1, x2)).2 * ((x3, x4)).1)))), fun V => Rd V (.slice a237 n237 c237) m237 (.slice d237 e237 f237) ((((x1, x2)).1 * ((x1, x2)).1 + ((x1, x2)).2 * ((x1, x2)).2)), fun V => Rd V (.slice a238 n238 c238) m238 (.slice d238 e238 f238) ((((x3, x4)).1 * ((x3, x4)).1 + ((x3, x4)).2 * ((x3, x4)).2))]) := Lib.hid (St.pick ((hC237.out.call hb).pr hz) [0, 1, 2, 3, 4, 5, 6, 7] rfl); clear hb hz; clear _t hC237)
    (try go_wp2_with fail)
    refine hKq.out _ _ ?_ (fun hH5 => ?_)
    · (try dsimp only)
      all_goals (with_reducible refine And.intro (?_ : World.cell? w238 _ = _) ?_; exact hC238.out.cell 0 0 rfl rfl; exact ⟨hC238.out.cell 0 1 rfl rfl, hC238.out.cell 0 2 rfl rfl, hC238.out.cell 0 3 rfl rfl, hC238.out.cell 0 4 rfl rfl, hC238.out.cell 0 5 rfl rfl, hC238.out.cell 1 0 rfl rfl, hC238.out.cell 1 1 rfl rfl, hC238.out.cell 1 2 rfl rfl, hC238.out.cell 1 3 rfl rfl, hC238.out.cell 1 4 rfl rfl, hC238.out.cell 1 5 rfl rfl, hC238.out.cell 2 0 rfl rfl, hC238.out.cell 2 1 rfl rfl, hC238.out.cell 2 2 rfl rfl, hC238.out.cell 3 0 rfl rfl, hC238.out.cell 3 1 rfl rfl, hC238.out.cell 3 2 rfl rfl, hC238.out.cell 4 0 rfl rfl, hC238.out.cell 4 1 rfl rfl, hC238.out.cell 4 2 rfl rfl, trivial⟩)
    clear hKq Kq hH4
    try simp only [Act.put, List.setIfInBounds_toArray, List.set_cons_zero, List.set_cons_succ]
    refine wpAnyH_ready (rs := [13]) (by kernel_rfl) (by simp) ?_
    refine AllReadyH.cons (o := ⟨_, _, _, _, _, _⟩) rfl (fun Kq hKq => ?_) AllReadyH.nil
    go_simp
    (have _t := hC238; go_at_call 71; refine (rmul_b (hC238.out.r 6 rfl) (hC238.out.r 7 rfl) (Bv.dot ((Bv.of E1.out E2.out)) ((Bv.of E1.out E2.out))) (Bv.dot ((Bv.of E3.out E4.out)) ((Bv.of E3.out E4.out))) (by omega) (by omega)).mono ?_; rintro e w239 ⟨a239, n239, c239, m239, d239, e239, f239, rfl, hz, hb⟩; have hC239 : Hid (St w w239 [(wa.heap.size, #[.slice a221 n221 c221, .bool m221, .slice d221 e221 f221, .slice u221 x221 y221, .bool p221, .slice t221 o221 l221], 103), (wb.heap.size, #[.slice a223 n223 c223, .bool m223, .slice d223 e223 f223, .slice u223 x223 y223, .bool p223, .slice t223 o223 l223], 103), (wg.heap.size, #[.slice a225 n225 c225, .bool m225, .slice d225 e225 f225], 48), (b232_0, #[.slice a230 n230 c230, .bool m230, .slice d230 e230 f230], 48), (b232_1, #[.slice a231 n231 c231, .bool m231, .slice d231 e231 f231], 48)] [fun V => Vd V (.slice a221 n221 c221) m221 (.slice d221 e221 f221) (.slice u221 x221 y221) p221 (.slice t221 o221 l221) ((x1, x2)), fun V => Vd V (.slice a223 n223 c223) m223 (.slice d223 e223 f223) (.slice u223 x223 y223) p223 (.slice t223 o223 l223) ((x3, x4)), fun V => Rd V (.slice a225 n225 c225) m225 (.slice d225 e225 f225) (x5), fun V => Rd V (.slice a230 n230 c230) m230 (.slice d230 e230 f230) ((((x1, x2)).1 * ((x3, x4)).1 + ((x1, x2)).2 * ((x3, x4)).2)), fun V => Rd V (.slice a231 n231 c231) m231 (.slice d231 e231 f231) ((((x1, x2)).1 * ((x3, x4)).2 - ((x1, x2)).2 * ((x3, x4)).1)), fun V => Rd V (.slice a236 n236 c236) m236 (.slice d236 e236 f236) ((((((x1, x2)).1 * ((x3, x4)).1 + ((x1, x2)).2 * ((x3, x4)).2) * (((x1, x2)).1 * ((x3, x4)).1 + ((x1, x2)).2 * ((x3, x4)).2)) + ((((x1, x2)).1 * ((x3, x4)).2 - ((x1, x2)).2 * ((x3, x4)).1) * (((x1, x2)).1 * ((x3, x4)).2 - ((x1, x2)).2 * ((x3, x4)).1)))), fun V => Rd V (.slice a239 n239 c239) m239 (.slice d239 e239 f239) (((((x1, x2)).1 * ((x1, x2)).1 + ((x1, x2)).2 * ((x1, x2)).2) * (((x3, x4)).1 * ((x3, x4)).1 + ((x3, x4)).2 * ((x3, x4)).2)))]) := Lib.hid (St.pick ((hC238.out.call hb).pr hz) [0, 1, 2, 3, 4, 5, 8] rfl); clear hb hz; clear _t hC238)
    (try go_wp2_with fail)
    refine hKq.out _ _ ?_ (fun hH6 => ?_)
    · (try dsimp only)
      all_goals (with_reducible refine And.intro (?_ : World.cell? w239 _ = _) ?_; exact hC239.out.cell 0 0 rfl rfl; exact ⟨hC239.out.cell 0 1 rfl rfl, hC239.out.cell 0 2 rfl rfl, hC239.out.cell 0 3 rfl rfl, hC239.out.cell 0 4 rfl rfl, hC239.out.cell 0 5 rfl rfl, hC239.out.cell 1 0 rfl rfl, hC239.out.cell 1 1 rfl rfl, hC239.out.cell 1 2 rfl rfl, hC239.out.cell 1 3 rfl rfl, hC239.out.cell 1 4 rfl rfl, hC239.out.cell 1 5 rfl rfl, hC239.out.cell 2 0 rfl rfl, hC239.out.cell 2 1 rfl rfl, hC239.out.cell 2 2 rfl rfl, hC239.out.cell 3 0 rfl rfl, hC239.out.cell 3 1 rfl rfl, hC239.out.cell 3 2 rfl rfl, hC239.out.cell 4 0 rfl rfl, hC239.out.cell 4 1 rfl rfl, hC239.out.cell 4 2 rfl rfl, trivial⟩)
    clear hKq Kq hH5
    try simp only [Act.put, List.setIfInBounds_toArray, List.set_cons_zero, List.set_cons_succ]
    refine wpAnyH_ready (rs := [14]) (by kernel_rfl) (by simp) ?_
    refine AllReadyH.cons (o := ⟨_, _, _, _, _, _⟩) rfl (fun Kq hKq => ?_) AllReadyH.nil
    go_simp
    (have _t := hC239; go_at_call 32; refine (rcmp_is (hC239.out.r 5 rfl) (hC239.out.r 6 rfl) (((((Bv.dot ((Bv.of E1.out E2.out)) ((Bv.of E3.out E4.out)))).mul ((Bv.dot ((Bv.of E1.out E2.out)) ((Bv.of E3.out E4.out)))))).add ((((Bv.cross ((Bv.of E1.out E2.out)) ((Bv.of E3.out E4.out)))).mul ((Bv.cross ((Bv.of E1.out E2.out)) ((Bv.of E3.out E4.out))))))) (((Bv.dot ((Bv.of E1.out E2.out)) ((Bv.of E1.out E2.out)))).mul ((Bv.dot ((Bv.of E3.out E4.out)) ((Bv.of E3.out E4.out))))) (by omega) (by omega) (cmpQ_eq (turn_sq _ _ _ _))).mono ?_; rintro e w240 ⟨rfl, hb⟩; have hC240 : Hid (St w w240 [(wa.heap.size, #[.slice a221 n221 c221, .bool m221, .slice d221 e221 f221, .slice u221 x221 y221, .bool p221, .slice t221 o221 l221], 103), (wb.heap.size, #[.slice a223 n223 c223, .bool m223, .slice d223 e223 f223, .slice u223 x223 y223, .bool p223, .slice t223 o223 l223], 103), (wg.heap.size, #[.slice a225 n225 c225, .bool m225, .slice d225 e225 f225], 48), (b232_0, #[.slice a230 n230 c230, .bool m230, .slice d230 e230 f230], 48), (b232_1, #[.slice a231 n231 c231, .bool m231, .slice d231 e231 f231], 48)] [fun V => Vd V (.slice a221 n221 c221) m221 (.slice d221 e221 f221) (.slice u221 x221 y221) p221 (.slice t221 o221 l221) ((x1, x2)), fun V => Vd V (.slice a223 n223 c223) m223 (.slice d223 e223 f223) (.slice u223 x223 y223) p223 (.slice t223 o223 l223) ((x3, x4)), fun V => Rd V (.slice a225 n225 c225) m225 (.slice d225 e225 f225) (x5), fun V => Rd V (.slice a230 n230 c230) m230 (.slice d230 e230 f230) ((((x1, x2)).1 * ((x3, x4)).1 + ((x1, x2)).2 * ((x3, x4)).2)), fun V => Rd V (.slice a231 n231 c231) m231 (.slice d231 e231 f231) ((((x1, x2)).1 * ((x3, x4)).2 - ((x1, x2)).2 * ((x3, x4)).1))]) := Lib.hid (St.pick ((hC239.out.call hb)) [0, 1, 2, 3, 4] rfl); clear hb; clear _t hC239)
    (try go_wp2_with fail)
    refine hKq.out _ _ ?_ (fun hH7 => ?_)
    · (try dsimp only)
      all_goals (with_reducible refine And.intro (?_ : World.cell? w240 _ = _) ?_; exact hC240.out.cell 0 0 rfl rfl; exact ⟨hC240.out.cell 0 1 rfl rfl, hC240.out.cell 0 2 rfl rfl, hC240.out.cell 0 3 rfl rfl, hC240.out.cell 0 4 rfl rfl, hC240.out.cell 0 5 rfl rfl, hC240.out.cell 1 0 rfl rfl, hC240.out.cell 1 1 rfl rfl, hC240.out.cell 1 2 rfl rfl, hC240.out.cell 1 3 rfl rfl, hC240.out.cell 1 4 rfl rfl, hC240.out.cell 1 5 rfl rfl, hC240.out.cell 2 0 rfl rfl, hC240.out.cell 2 1 rfl rfl, hC240.out.cell 2 2 rfl rfl, hC240.out.cell 3 0 rfl rfl, hC240.out.cell 3 1 rfl rfl, hC240.out.cell 3 2 rfl rfl, hC240.out.cell 4 0 rfl rfl, hC240.out.cell 4 1 rfl rfl, hC240.out.cell 4 2 rfl rfl, trivial⟩)
    clear hKq Kq hH6
    try simp only [Act.put, List.setIfInBounds_toArray, List.set_cons_zero, List.set_cons_succ]
    refine wpAnyH_take (i := 15) (oi := ⟨_, _, _, _, _, _⟩) (v := ?_) rfl (by kernel_rfl) (by kernel_rfl) (by kernel_rfl) (fun _ _ _ h => h) (Or.inl ⟨by rfl, ?_⟩) hH7 ?_
    rotate_left
    · intro wS hSw; (try dsimp only at hSw); go_simp; try with_reducible rfl
    try simp only [Act.put, List.setIfInBounds_toArray, List.set_cons_zero, List.set_cons_succ]
    refine wpAnyH_take (i := 16) (oi := ⟨_, _, _, _, _, _⟩) (v := ?_) rfl (by kernel_rfl) (by kernel_rfl) (by kernel_rfl) (fun _ _ _ h => h) (Or.inl ⟨by rfl, ?_⟩) hH7 ?_
    rotate_left
    · intro wS hSw; (try dsimp only at hSw); go_simp; try with_reducible rfl
    try simp only [Act.put, List.setIfInBounds_toArray, List.set_cons_zero, List.set_cons_succ]
    refine wpAnyH_take (i := 17) (oi := ⟨_, _, _, _, _, _⟩) (v := ?_) rfl (by kernel_rfl) (by kernel_rfl) (by kernel_rfl) (fun _ _ _ h => h) (Or.inl ⟨by rfl, ?_⟩) hH7 ?_
    rotate_left
    · intro wS hSw; (try dsimp only at hSw); go_simp; try with_reducible rfl
    try simp only [Act.put, List.setIfInBounds_toArray, List.set_cons_zero, List.set_cons_succ]
    refine wpAnyH_take (i := 18) (oi := ⟨_, _, _, _, _, _⟩) (v := ?_) rfl (by kernel_rfl) (by kernel_rfl) (by kernel_rfl) (fun _ _ _ h => h) (Or.inl ⟨by rfl, ?_⟩) hH7 ?_
    rotate_left
    · intro wS hSw; (try dsimp only at hSw); go_simp; try with_reducible rfl
    try simp only [Act.put, List.setIfInBounds_toArray, List.set_cons_zero, List.set_cons_succ]
    refine wpAnyH_take (i := 19) (oi := ⟨_, _, _, _, _, _⟩) (v := ?_) rfl (by kernel_rfl) (by kernel_rfl) (by kernel_rfl) (fun _ _ _ h => h) (Or.inl ⟨by rfl, ?_⟩) hH7 ?_
    rotate_left
    · intro wS hSw; (try dsimp only at hSw); go_simp; try with_reducible rfl
    try simp only [Act.put, List.setIfInBounds_toArray, List.set_cons_zero, List.set_cons_succ]
    refine wpAnyH_ready (rs := [20]) (by kernel_rfl) (by simp) ?_
    refine AllReadyH.cons (o := ⟨_, _, _, _, _, _⟩) rfl (fun Kq hKq => ?_) AllReadyH.nil
    go_simp
    (have _t := hC240; go_at_call 90; refine (vscale_b (hC240.out.v 0 rfl) (hC240.out.r 2 rfl) (Bv.of E1.out E2.out) E5.out (by omega) (by omega)).mono ?_; rintro e w241 ⟨a241, n241, c241, m241, d241, e241, f241, u241, x241, y241, p241, t241, o241, l241, rfl, hz, hb⟩; have hC241 : Hid (St w w241 [(wa.heap.size, #[.slice a221 n221 c221, .bool m221, .slice d221 e221 f221, .slice u221 x221 y221, .bool p221, .slice t221 o221 l221], 103), (wb.heap.size, #[.slice a223 n223 c223, .bool m223, .slice d223 e223 f223, .slice u223 x223 y223, .bool p223, .slice t223 o223 l223], 103), (wg.heap.size, #[.slice a225 n225 c225, .bool m225, .slice d225 e225 f225], 48), (b232_0, #[.slice a230 n230 c230, .bool m230, .slice d230 e230 f230], 48), (b232_1, #[.slice a231 n231 c231, .bool m231, .slice d231 e231 f231], 48)] [fun V => Vd V (.slice a221 n221 c221) m221 (.slice d221 e221 f221) (.slice u221 x221 y221) p221 (.slice t221 o221 l221) ((x1, x2)), fun V => Vd V (.slice a223 n223 c223) m223 (.slice d223 e223 f223) (.slice u223 x223 y223) p223 (.slice t223 o223 l223) ((x3, x4)), fun V => Rd V (.slice a225 n225 c225) m225 (.slice d225 e225 f225) (x5), fun V => Rd V (.slice a230 n230 c230) m230 (.slice d230 e230 f230) ((((x1, x2)).1 * ((x3, x4)).1 + ((x1, x2)).2 * ((x3, x4)).2)), fun V => Rd V (.slice a231 n231 c231) m231 (.slice d231 e231 f231) ((((x1, x2)).1 * ((x3, x4)).2 - ((x1, x2)).2 * ((x3, x4)).1)), fun V => Vd V (.slice a241 n241 c241) m241 (.slice d241 e241 f241) (.slice u241 x241 y241) p241 (.slice t241 o241 l241) ((((x1, x2)).1 * x5, ((x1, x2)).2 * x5))]) := Lib.hid (St.pick ((hC240.out.call hb).pv hz) [0, 1, 2, 3, 4, 5] rfl); clear hb hz; clear _t hC240)
    (try go_wp2_with fail)
    refine hKq.out _ _ ?_ (fun hH8 => ?_)
    · (try dsimp only)
      all_goals (with_reducible refine And.intro (?_ : World.cell? w241 _ = _) ?_; exact hC241.out.cell 0 0 rfl rfl; exact ⟨hC241.out.cell 0 1 rfl rfl, hC241.out.cell 0 2 rfl rfl, hC241.out.cell 0 3 rfl rfl, hC241.out.cell 0 4 rfl rfl, hC241.out.cell 0 5 rfl rfl, hC241.out.cell 1 0 rfl rfl, hC241.out.cell 1 1 rfl rfl, hC241.out.cell 1 2 rfl rfl, hC241.out.cell 1 3 rfl rfl, hC241.out.cell 1 4 rfl rfl, hC241.out.cell 1 5 rfl rfl, hC241.out.cell 2 0 rfl rfl, hC241.out.cell 2 1 rfl rfl, hC241.out.cell 2 2 rfl rfl, hC241.out.cell 3 0 rfl rfl, hC241.out.cell 3 1 rfl rfl, hC241.out.cell 3 2 rfl rfl, hC241.out.cell 4 0 rfl rfl, hC241.out.cell 4 1 rfl rfl, hC241.out.cell 4 2 rfl rfl, trivial⟩)
    clear hKq Kq hH7
    try simp only [Act.put, List.setIfInBounds_toArray, List.set_cons_zero, List.set_cons_succ]
    refine wpAnyH_ready (rs := [21]) (by kernel_rfl) (by simp) ?_
    refine AllReadyH.cons (o := ⟨_, _, _, _, _, _⟩) rfl (fun Kq hKq => ?_) AllReadyH.nil
    go_simp
    (have _t := hC241; go_at_call 94; refine (vcross_b (hC241.out.v 0 rfl) (hC241.out.v 5 rfl) (Bv.of E1.out E2.out) (Bv.scale ((Bv.of E1.out E2.out)) (E5.out)) (by omega) (by omega)).mono ?_; rintro e w242 ⟨a242, n242, c242, m242, d242, e242, f242, rfl, hz, hb⟩; have hC242 : Hid (St w w242 [(wa.heap.size, #[.slice a221 n221 c221, .bool m221, .slice d221 e221 f221, .slice u221 x221 y221, .bool p221, .slice t221 o221 l221], 103), (wb.heap.size, #[.slice a223 n223 c223, .bool m223, .slice d223 e223 f223, .slice u223 x223 y223, .bool p223, .slice t223 o223 l223], 103), (wg.heap.size, #[.slice a225 n225 c225, .bool m225, .slice d225 e225 f225], 48), (b232_0, #[.slice a230 n230 c230, .bool m230, .slice d230 e230 f230], 48), (b232_1, #[.slice a231 n231 c231, .bool m231, .slice d231 e231 f231], 48)] [fun V => Vd V (.slice a221 n221 c221) m221 (.slice d221 e221 f221) (.slice u221 x221 y221) p221 (.slice t221 o221 l221) ((x1, x2)), fun V => Vd V (.slice a223 n223 c223) m223 (.slice d223 e223 f223) (.slice u223 x223 y223) p223 (.slice t223 o223 l223) ((x3, x4)), fun V => Rd V (.slice a225 n225 c225) m225 (.slice d225 e225 f225) (x5), fun V => Rd V (.slice a230 n230 c230) m230 (.slice d230 e230 f230) ((((x1, x2)).1 * ((x3, x4)).1 + ((x1, x2)).2 * ((x3, x4)).2)), fun V => Rd V (.slice a231 n231 c231) m231 (.slice d231 e231 f231) ((((x1, x2)).1 * ((x3, x4)).2 - ((x1, x2)).2 * ((x3, x4)).1)), fun V => Rd V (.slice a242 n242 c242) m242 (.slice d242 e242 f242) ((((x1, x2)).1 * ((((x1, x2)).1 * x5, ((x1, x2)).2 * x5)).2 - ((x1, x2)).2 * ((((x1, x2)).1 * x5, ((x1, x2)).2 * x5)).1))]) := Lib.hid (St.pick ((hC241.out.call hb).pr hz) [0, 1, 2, 3, 4, 6] rfl); clear hb hz; clear _t hC241)
    (try go_wp2_with fail)
    refine hKq.out _ _ ?_ (fun hH9 => ?_)
    · (try dsimp only)
      all_goals (with_reducible refine And.intro (?_ : World.cell? w242 _ = _) ?_; exact hC242.out.cell 0 0 rfl rfl; exact ⟨hC242.out.cell 0 1 rfl rfl, hC242.out.cell 0 2 rfl rfl, hC242.out.cell 0 3 rfl rfl, hC242.out.cell 0 4 rfl rfl, hC242.out.cell 0 5 rfl rfl, hC242.out.cell 1 0 rfl rfl, hC242.out.cell 1 1 rfl rfl, hC242.out.cell 1 2 rfl rfl, hC242.out.cell 1 3 rfl rfl, hC242.out.cell 1 4 rfl rfl, hC242.out.cell 1 5 rfl rfl, hC242.out.cell 2 0 rfl rfl, hC242.out.cell 2 1 rfl rfl, hC242.out.cell 2 2 rfl rfl, hC242.out.cell 3 0 rfl rfl, hC242.out.cell 3 1 rfl rfl, hC242.out.cell 3 2 rfl rfl, hC242.out.cell 4 0 rfl rfl, hC242.out.cell 4 1 rfl rfl, hC242.out.cell 4 2 rfl rfl, trivial⟩)
    clear hKq Kq hH8
    try simp only [Act.put, List.setIfInBounds_toArray, List.set_cons_zero, List.set_cons_succ]
    refine wpAnyH_ready (rs := [22]) (by kernel_rfl) (by simp) ?_
    refine AllReadyH.cons (o := ⟨_, _, _, _, _, _⟩) rfl (fun Kq hKq => ?_) AllReadyH.nil
    go_simp
    (have _t := hC242; go_at_call 23; refine (rsign_is (hC242.out.r 5 rfl) (turn_mul _ _ _)).mono ?_; rintro e w243 ⟨rfl, hb⟩; have hC243 : Hid (St w w243 [(wa.heap.size, #[.slice a221 n221 c221, .bool m221, .slice d221 e221 f221, .slice u221 x221 y221, .bool p221, .slice t221 o221 l221], 103), (wb.heap.size, #[.slice a223 n223 c223, .bool m223, .slice d223 e223 f223, .slice u223 x223 y223, .bool p223, .slice t223 o223 l223], 103), (wg.heap.size, #[.slice a225 n225 c225, .bool m225, .slice d225 e225 f225], 48), (b232_0, #[.slice a230 n230 c230, .bool m230, .slice d230 e230 f230], 48), (b232_1, #[.slice a231 n231 c231, .bool m231, .slice d231 e231 f231], 48)] [fun V => Vd V (.slice a221 n221 c221) m221 (.slice d221 e221 f221) (.slice u221 x221 y221) p221 (.slice t221 o221 l221) ((x1, x2)), fun V => Vd V (.slice a223 n223 c223) m223 (.slice d223 e223 f223) (.slice u223 x223 y223) p223 (.slice t223 o223 l223) ((x3, x4)), fun V => Rd V (.slice a225 n225 c225) m225 (.slice d225 e225 f225) (x5), fun V => Rd V (.slice a230 n230 c230) m230 (.slice d230 e230 f230) ((((x1, x2)).1 * ((x3, x4)).1 + ((x1, x2)).2 * ((x3, x4)).2)), fun V => Rd V (.slice a231 n231 c231) m231 (.slice d231 e231 f231) ((((x1, x2)).1 * ((x3, x4)).2 - ((x1, x2)).2 * ((x3, x4)).1))]) := Lib.hid (St.pick ((hC242.out.call hb)) [0, 1, 2, 3, 4] rfl); clear hb; clear _t hC242)
    (try go_wp2_with fail)
    refine hKq.out _ _ ?_ (fun hH10 => ?_)
    · (try dsimp only)
      all_goals (with_reducible refine And.intro (?_ : World.cell? w243 _ = _) ?_; exact hC243.out.cell 0 0 rfl rfl; exact ⟨hC243.out.cell 0 1 rfl rfl, hC243.out.cell 0 2 rfl rfl, hC243.out.cell 0 3 rfl rfl, hC243.out.cell 0 4 rfl rfl, hC243.out.cell 0 5 rfl rfl, hC243.out.cell 1 0 rfl rfl, hC243.out.cell 1 1 rfl rfl, hC243.out.cell 1 2 rfl rfl, hC243.out.cell 1 3 rfl rfl, hC243.out.cell 1 4 rfl rfl, hC243.out.cell 1 5 rfl rfl, hC243.out.cell 2 0 rfl rfl, hC243.out.cell 2 1 rfl rfl, hC243.out.cell 2 2 rfl rfl, hC243.out.cell 3 0 rfl rfl, hC243.out.cell 3 1 rfl rfl, hC243.out.cell 3 2 rfl rfl, hC243.out.cell 4 0 rfl rfl, hC243.out.cell 4 1 rfl rfl, hC243.out.cell 4 2 rfl rfl, trivial⟩)
    clear hKq Kq hH9
    try simp only [Act.put, List.setIfInBounds_toArray, List.set_cons_zero, List.set_cons_succ]
    refine wpAnyH_take (i := 23) (oi := ⟨_, _, _, _, _, _⟩) (v := ?_) rfl (by kernel_rfl) (by kernel_rfl) (by kernel_rfl) (fun _ _ _ h => h) (Or.inl ⟨by rfl, ?_⟩) hH10 ?_
    rotate_left
    · intro wS hSw; (try dsimp only at hSw); go_simp; try with_reducible rfl
    try simp only [Act.put, List.setIfInBounds_toArray, List.set_cons_zero, List.set_cons_succ]
    refine wpAnyH_take (i := 24) (oi := ⟨_, _, _, _, _, _⟩) (v := ?_) rfl (by kernel_rfl) (by kernel_rfl) (by kernel_rfl) (fun _ _ _ h => h) (Or.inl ⟨by rfl, ?_⟩) hH10 ?_
    rotate_left
    · intro wS hSw; (try dsimp only at hSw); go_simp; try with_reducible rfl
    try simp only [Act.put, List.setIfInBounds_toArray, List.set_cons_zero, List.set_cons_succ]
    refine wpAnyH_take (i := 25) (oi := ⟨_, _, _, _, _, _⟩) (v := ?_) rfl (by kernel_rfl) (by kernel_rfl) (by kernel_rfl) (fun _ _ _ h => h) (Or.inl ⟨by rfl, ?_⟩) hH10 ?_
    rotate_left
    · intro wS hSw; (try dsimp only at hSw); go_simp; try with_reducible rfl
    try simp only [Act.put, List.setIfInBounds_toArray, List.set_cons_zero, List.set_cons_succ]
    refine wpAnyH_take (i := 26) (oi := ⟨_, _, _, _, _, _⟩) (v := ?_) rfl (by kernel_rfl) (by kernel_rfl) (by kernel_rfl) (fun _ _ _ h => h) (Or.inl ⟨by rfl, ?_⟩) hH10 ?_
    rotate_left
    · intro wS hSw; (try dsimp only at hSw); go_simp; try with_reducible rfl
    try simp only [Act.put, List.setIfInBounds_toArray, List.set_cons_zero, List.set_cons_succ]
    refine wpAnyH_take (i := 27) (oi := ⟨_, _, _, _, _, _⟩) (v := ?_) rfl (by kernel_rfl) (by kernel_rfl) (by kernel_rfl) (fun _ _ _ h => h) (Or.inl ⟨by rfl, ?_⟩) hH10 ?_
    rotate_left
    · intro wS hSw; (try dsimp only at hSw); go_simp; try with_reducible rfl
    try simp only [Act.put, List.setIfInBounds_toArray, List.set_cons_zero, List.set_cons_succ]
    refine wpAnyH_take (i := 28) (oi := ⟨_, _, _, _, _, _⟩) (v := ?_) rfl (by kernel_rfl) (by kernel_rfl) (by kernel_rfl) (fun _ _ _ h => h) (Or.inl ⟨by rfl, ?_⟩) hH10 ?_
    rotate_left
    · intro wS hSw; (try dsimp only at hSw); go_simp; try with_reducible rfl
    try simp only [Act.put, List.setIfInBounds_toArray, List.set_cons_zero, List.set_cons_succ]
    refine wpAnyH_ready (rs := [29]) (by kernel_rfl) (by simp) ?_
    refine AllReadyH.cons (o := ⟨_, _, _, _, _, _⟩) rfl (fun Kq hKq => ?_) AllReadyH.nil
    go_simp
    (have _t := hC243; go_at_call 94; refine (vcross_b (hC243.out.v 1 rfl) (hC243.out.v 0 rfl) (Bv.of E3.out E4.out) (Bv.of E1.out E2.out) (by omega) (by omega)).mono ?_; rintro e w244 ⟨a244, n244, c244, m244, d244, e244, f244, rfl, hz, hb⟩; have hC244 : Hid (St w w244 [(wa.heap.size, #[.slice a221 n221 c221, .bool m221, .slice d221 e221 f221, .slice u221 x221 y221, .bool p221, .slice t221 o221 l221], 103), (wb.heap.size, #[.slice a223 n223 c223, .bool m223, .slice d223 e223 f223, .slice u223 x223 y223, .bool p223, .slice t223 o223 l223], 103), (wg.heap.size, #[.slice a225 n225 c225, .bool m225, .slice d225 e225 f225], 48), (b232_0, #[.slice a230 n230 c230, .bool m230, .slice d230 e230 f230], 48), (b232_1, #[.slice a231 n231 c231, .bool m231, .slice d231 e231 f231], 48)] [fun V => Vd V (.slice a221 n221 c221) m221 (.slice d221 e221 f221) (.slice u221 x221 y221) p221 (.slice t221 o221 l221) ((x1, x2)), fun V => Vd V (.slice a223 n223 c223) m223 (.slice d223 e223 f223) (.slice u223 x223 y223) p223 (.slice t223 o223 l223) ((x3, x4)), fun V => Rd V (.slice a225 n225 c225) m225 (.slice d225 e225 f225) (x5), fun V => Rd V (.slice a230 n230 c230) m230 (.slice d230 e230 f230) ((((x1, x2)).1 * ((x3, x4)).1 + ((x1, x2)).2 * ((x3, x4)).2)), fun V => Rd V (.slice a231 n231 c231) m231 (.slice d231 e231 f231) ((((x1, x2)).1 * ((x3, x4)).2 - ((x1, x2)).2 * ((x3, x4)).1)), fun V => Rd V (.slice a244 n244 c244) m244 (.slice d244 e244 f244) ((((x3, x4)).1 * ((x1, x2)).2 - ((x3, x4)).2 * ((x1, x2)).1))]) := Lib.hid (St.pick ((hC243.out.call hb).pr hz) [0, 1, 2, 3, 4, 5] rfl); clear hb hz; clear _t hC243)
    (try go_wp2_with fail)
    refine hKq.out _ _ ?_ (fun hH11 => ?_)
    · (try dsimp only)
      all_goals (with_reducible refine And.intro (?_ : World.cell? w244 _ = _) ?_; exact hC244.out.cell 0 0 rfl rfl; exact ⟨hC244.out.cell 0 1 rfl rfl, hC244.out.cell 0 2 rfl rfl, hC244.out.cell 0 3 rfl rfl, hC244.out.cell 0 4 rfl rfl, hC244.out.cell 0 5 rfl rfl, hC244.out.cell 1 0 rfl rfl, hC244.out.cell 1 1 rfl rfl, hC244.out.cell 1 2 rfl rfl, hC244.out.cell 1 3 rfl rfl, hC244.out.cell 1 4 rfl rfl, hC244.out.cell 1 5 rfl rfl, hC244.out.cell 2 0 rfl rfl, hC244.out.cell 2 1 rfl rfl, hC244.out.cell 2 2 rfl rfl, hC244.out.cell 3 0 rfl rfl, hC244.out.cell 3 1 rfl rfl, hC244.out.cell 3 2 rfl rfl, hC244.out.cell 4 0 rfl rfl, hC244.out.cell 4 1 rfl rfl, hC244.out.cell 4 2 rfl rfl, trivial⟩)
    clear hKq Kq hH10
    try simp only [Act.put, List.setIfInBounds_toArray, List.set_cons_zero, List.set_cons_succ]
    refine wpAnyH_ready (rs := [30]) (by kernel_rfl) (by simp) ?_
    refine AllReadyH.cons (o := ⟨_, _, _, _, _, _⟩) rfl (fun Kq hKq => ?_) AllReadyH.nil
    go_simp
    (have _t := hC244; go_at_call 73; refine (rneg_b (hC244.out.r 5 rfl)).mono ?_; rintro e w245 ⟨a245, n245, c245, m245, d245, e245, f245, rfl, hz, hb⟩; have hC245 : Hid (St w w245 [(wa.heap.size, #[.slice a221 n221 c221, .bool m221, .slice d221 e221 f221, .slice u221 x221 y221, .bool p221, .slice t221 o221 l221], 103), (wb.heap.size, #[.slice a223 n223 c223, .bool m223, .slice d223 e223 f223, .slice u223 x223 y223, .bool p223, .slice t223 o223 l223], 103), (wg.heap.size, #[.slice a225 n225 c225, .bool m225, .slice d225 e225 f225], 48), (b232_0, #[.slice a230 n230 c230, .bool m230, .slice d230 e230 f230], 48), (b232_1, #[.slice a231 n231 c231, .bool m231, .slice d231 e231 f231], 48)] [fun V => Vd V (.slice a221 n221 c221) m221 (.slice d221 e221 f221) (.slice u221 x221 y221) p221 (.slice t221 o221 l221) ((x1, x2)), fun V => Vd V (.slice a223 n223 c223) m223 (.slice d223 e223 f223) (.slice u223 x223 y223) p223 (.slice t223 o223 l223) ((x3, x4)), fun V => Rd V (.slice a225 n225 c225) m225 (.slice d225 e225 f225) (x5), fun V => Rd V (.slice a230 n230 c230) m230 (.slice d230 e230 f230) ((((x1, x2)).1 * ((x3, x4)).1 + ((x1, x2)).2 * ((x3, x4)).2)), fun V => Rd V (.slice a231 n231 c231) m231 (.slice d231 e231 f231) ((((x1, x2)).1 * ((x3, x4)).2 - ((x1, x2)).2 * ((x3, x4)).1)), fun V => Rd V (.slice a245 n245 c245) m245 (.slice d245 e245 f245) ((-(((x3, x4)).1 * ((x1, x2)).2 - ((x3, x4)).2 * ((x1, x2)).1)))]) := Lib.hid (St.pick ((hC244.out.call hb).pr hz) [0, 1, 2, 3, 4, 6] rfl); clear hb hz; clear _t hC244)
    (try go_wp2_with fail)
    refine hKq.out _ _ ?_ (fun hH12 => ?_)
    · (try dsimp only)
      all_goals (with_reducible refine And.intro (?_ : World.cell? w245 _ = _) ?_; exact hC245.out.cell 0 0 rfl rfl; exact ⟨hC245.out.cell 0 1 rfl rfl, hC245.out.cell 0 2 rfl rfl, hC245.out.cell 0 3 rfl rfl, hC245.out.cell 0 4 rfl rfl, hC245.out.cell 0 5 rfl rfl, hC245.out.cell 1 0 rfl rfl, hC245.out.cell 1 1 rfl rfl, hC245.out.cell 1 2 rfl rfl, hC245.out.cell 1 3 rfl rfl, hC245.out.cell 1 4 rfl rfl, hC245.out.cell 1 5 rfl rfl, hC245.out.cell 2 0 rfl rfl, hC245.out.cell 2 1 rfl rfl, hC245.out.cell 2 2 rfl rfl, hC245.out.cell 3 0 rfl rfl, hC245.out.cell 3 1 rfl rfl, hC245.out.cell 3 2 rfl rfl, hC245.out.cell 4 0 rfl rfl, hC245.out.cell 4 1 rfl rfl, hC245.out.cell 4 2 rfl rfl, trivial⟩)
    clear hKq Kq hH11
    try simp only [Act.put, List.setIfInBounds_toArray, List.set_cons_zero, List.set_cons_succ]
    refine wpAnyH_ready (rs := [31]) (by kernel_rfl) (by simp) ?_
    refine AllReadyH.cons (o := ⟨_, _, _, _, _, _⟩) rfl (fun Kq hKq => ?_) AllReadyH.nil
    go_simp
    (have _t := hC245; go_at_call 32; refine (rcmp_is (hC245.out.r 4 rfl) (hC245.out.r 5 rfl) (Bv.cross ((Bv.of E1.out E2.out)) ((Bv.of E3.out E4.out))) ((Bv.cross ((Bv.of E3.out E4.out)) ((Bv.of E1.out E2.out)))).neg (by omega) (by omega) (cmpQ_eq (turn_neg _ _ _ _))).mono ?_; rintro e w246 ⟨rfl, hb⟩; have hC246 : Hid (St w w246 [(wa.heap.size, #[.slice a221 n221 c221, .bool m221, .slice d221 e221 f221, .slice u221 x221 y221, .bool p221, .slice t221 o221 l221], 103), (wb.heap.size, #[.slice a223 n223 c223, .bool m223, .slice d223 e223 f223, .slice u223 x223 y223, .bool p223, .slice t223 o223 l223], 103), (wg.heap.size, #[.slice a225 n225 c225, .bool m225, .slice d225 e225 f225], 48), (b232_0, #[.slice a230 n230 c230, .bool m230, .slice d230 e230 f230], 48), (b232_1, #[.slice a231 n231 c231, .bool m231, .slice d231 e231 f231], 48)] [fun V => Vd V (.slice a221 n221 c221) m221 (.slice d221 e221 f221) (.slice u221 x221 y221) p221 (.slice t221 o221 l221) ((x1, x2)), fun V => Vd V (.slice a223 n223 c223) m223 (.slice d223 e223 f223) (.slice u223 x223 y223) p223 (.slice t223 o223 l223) ((x3, x4)), fun V => Rd V (.slice a225 n225 c225) m225 (.slice d225 e225 f225) (x5), fun V => Rd V (.slice a230 n230 c230) m230 (.slice d230 e230 f230) ((((x1, x2)).1 * ((x3, x4)).1 + ((x1, x2)).2 * ((x3, x4)).2)), fun V => Rd V (.slice a231 n231 c231) m231 (.slice d231 e231 f231) ((((x1, x2)).1 * ((x3, x4)).2 - ((x1, x2)).2 * ((x3, x4)).1))]) := Lib.hid (St.pick ((hC245.out.call hb)) [0, 1, 2, 3, 4] rfl); clear hb; clear _t hC245)
    (try go_wp2_with fail)
    refine hKq.out _ _ ?_ (fun hH13 => ?_)
    · (try dsimp only)
      all_goals (with_reducible refine And.intro (?_ : World.cell? w246 _ = _) ?_; exact hC246.out.cell 0 0 rfl rfl; exact ⟨hC246.out.cell 0 1 rfl rfl, hC246.out.cell 0 2 rfl rfl, hC246.out.cell 0 3 rfl rfl, hC246.out.cell 0 4 rfl rfl, hC246.out.cell 0 5 rfl rfl, hC246.out.cell 1 0 rfl rfl, hC246.out.cell 1 1 rfl rfl, hC246.out.cell 1 2 rfl rfl, hC246.out.cell 1 3 rfl rfl, hC246.out.cell 1 4 rfl rfl, hC246.out.cell 1 5 rfl rfl, hC246.out.cell 2 0 rfl rfl, hC246.out.cell 2 1 rfl rfl, hC246.out.cell 2 2 rfl rfl, hC246.out.cell 3 0 rfl rfl, hC246.out.cell 3 1 rfl rfl, hC246.out.cell 3 2 rfl rfl, hC246.out.cell 4 0 rfl rfl, hC246.out.cell 4 1 rfl rfl, hC246.out.cell 4 2 rfl rfl, trivial⟩)
    clear hKq Kq hH12
    try simp only [Act.put, List.setIfInBounds_toArray, List.set_cons_zero, List.set_cons_succ]
    refine wpAnyH_take (i := 32) (oi := ⟨_, _, _, _, _, _⟩) (v := ?_) rfl (by kernel_rfl) (by kernel_rfl) (by kernel_rfl) (fun _ _ _ h => h) (Or.inl ⟨by rfl, ?_⟩) hH13 ?_
    rotate_left
    · intro wS hSw; (try dsimp only at hSw); go_simp; try with_reducible rfl
    try simp only [Act.put, List.setIfInBounds_toArray, List.set_cons_zero, List.set_cons_succ]
    refine wpAnyH_take (i := 33) (oi := ⟨_, _, _, _, _, _⟩) (v := ?_) rfl (by kernel_rfl) (by kernel_rfl) (by kernel_rfl) (fun _ _ _ h => h) (Or.inl ⟨by rfl, ?_⟩) hH13 ?_
    rotate_left
    · intro wS hSw; (try dsimp only at hSw); go_simp; try with_reducible rfl
    try simp only [Act.put, List.setIfInBounds_toArray, List.set_cons_zero, List.set_cons_succ]
    refine wpAnyH_done (by kernel_rfl) ?_ _
    go_wp2_with fail
    have y20 := hC246.out.cell 2 0 rfl rfl
    have y21 := hC246.out.cell 2 1 rfl rfl
    have y22 := hC246.out.cell 2 2 rfl rfl
    go_wp2_with fail
    refine (rfloor_b (hC246.out.r 2 rfl) E5.out (by omega)).mono ?_
    rintro e w247 ⟨a247, n247, c247, m247, rfl, hz, hb⟩
    have hC247 : Hid (St w w247 [(wa.heap.size, #[.slice a221 n221 c221, .bool m221, .slice d221 e221 f221, .slice u221 x221 y221, .bool p221, .slice t221 o221 l221], 103), (wb.heap.size, #[.slice a223 n223 c223, .bool m223, .slice d223 e223 f223, .slice u223 x223 y223, .bool p223, .slice t223 o223 l223], 103), (wg.heap.size, #[.slice a225 n225 c225, .bool m225, .slice d225 e225 f225], 48), (b232_0, #[.slice a230 n230 c230, .bool m230, .slice d230 e230 f230], 48), (b232_1, #[.slice a231 n231 c231, .bool m231, .slice d231 e231 f231], 48)] [fun V => Vd V (.slice a221 n221 c221) m221 (.slice d221 e221 f221) (.slice u221 x221 y221) p221 (.slice t221 o221 l221) ((x1, x2)), fun V => Vd V (.slice a223 n223 c223) m223 (.slice d223 e223 f223) (.slice u223 x223 y223) p223 (.slice t223 o223 l223) ((x3, x4)), fun V => Rd V (.slice a225 n225 c225) m225 (.slice d225 e225 f225) (x5), fun V => Rd V (.slice a230 n230 c230) m230 (.slice d230 e230 f230) ((((x1, x2)).1 * ((x3, x4)).1 + ((x1, x2)).2 * ((x3, x4)).2)), fun V => Rd V (.slice a231 n231 c231) m231 (.slice d231 e231 f231) ((((x1, x2)).1 * ((x3, x4)).2 - ((x1, x2)).2 * ((x3, x4)).1)), fun V => Zd V (.slice a247 n247 c247) m247 ((x5).floor)]) := Lib.hid ((hC246.out.call hb).pz hz)
    clear hb hz hC246
    clear y20 y21 y22
    go_wp2_with fail
    refine (whole_any _ _ _ _ _ _ (hC247.out.z 5 rfl)).mono ?_
    rintro e w248 ⟨a248, n248, c248, m248, d248, e248, f248, rfl, hz, hb⟩
    have hC248 : Hid (St w _ [(wa.heap.size, #[.slice a221 n221 c221, .bool m221, .slice d221 e221 f221, .slice u221 x221 y221, .bool p221, .slice t221 o221 l221], 103), (wb.heap.size, #[.slice a223 n223 c223, .bool m223, .slice d223 e223 f223, .slice u223 x223 y223, .bool p223, .slice t223 o223 l223], 103), (wg.heap.size, #[.slice a225 n225 c225, .bool m225, .slice d225 e225 f225], 48), (b232_0, #[.slice a230 n230 c230, .bool m230, .slice d230 e230 f230], 48), (b232_1, #[.slice a231 n231 c231, .bool m231, .slice d231 e231 f231], 48), (w248.heap.size, #[.slice a248 n248 c248, .bool m248, .slice d248 e248 f248], 48)] [fun V => Vd V (.slice a221 n221 c221) m221 (.slice d221 e221 f221) (.slice u221 x221 y221) p221 (.slice t221 o221 l221) ((x1, x2)), fun V => Vd V (.slice a223 n223 c223) m223 (.slice d223 e223 f223) (.slice u223 x223 y223) p223 (.slice t223 o223 l223) ((x3, x4)), fun V => Rd V (.slice a225 n225 c225) m225 (.slice d225 e225 f225) (x5), fun V => Rd V (.slice a230 n230 c230) m230 (.slice d230 e230 f230) ((((x1, x2)).1 * ((x3, x4)).1 + ((x1, x2)).2 * ((x3, x4)).2)), fun V => Rd V (.slice a231 n231 c231) m231 (.slice d231 e231 f231) ((((x1, x2)).1 * ((x3, x4)).2 - ((x1, x2)).2 * ((x3, x4)).1)), fun V => Zd V (.slice a247 n247 c247) m247 ((x5).floor), fun V => Rd V (.slice a248 n248 c248) m248 (.slice d248 e248 f248) ((((x5).floor : Int) : Rat))]) := Lib.hid (((hC247.out.call hb).pr hz).al w248.heap.size #[.slice a248 n248 c248, .bool m248, .slice d248 e248 f248] 48 rfl rfl)
    clear hb hz hC247
    go_upto_region 8 with fail
    refine wp_gen hC248.out ?_
    intro WF hc
    clear hC248
    have hF := Lib.hid hc
    clear hc
    refine wp_region_held_drew (S := (fun w' => w'.cell? ⟨wg.heap.size, 0, none⟩ = some (.slice a225 n225 c225) ∧ w'.cell? ⟨wg.heap.size, 1, none⟩ = some (.bool m225) ∧ w'.cell? ⟨wg.heap.size, 2, none⟩ = some (.slice d225 e225 f225) ∧ w'.cell? ⟨w248.heap.size, 0, none⟩ = some (.slice a248 n248 c248) ∧ w'.cell? ⟨w248.heap.size, 1, none⟩ = some (.bool m248) ∧ w'.cell? ⟨w248.heap.size, 2, none⟩ = some (.slice d248 e248 f248) ∧ True)) (by kernel_rfl) ?_ (fun hH0 => ?_)
    · (try dsimp only)
      all_goals (with_reducible refine And.intro (?_ : World.cell? (World.drew WF) _ = _) ?_; exact hF.out.drew.cell 2 0 rfl rfl; exact ⟨hF.out.drew.cell 2 1 rfl rfl, hF.out.drew.cell 2 2 rfl rfl, hF.out.drew.cell 5 0 rfl rfl, hF.out.drew.cell 5 1 rfl rfl, hF.out.drew.cell 5 2 rfl rfl, trivial⟩)
    refine wpAnyH_take (i := 0) (oi := ⟨_, _, _, _, _, _⟩) (v := ?_) rfl (by kernel_rfl) (by kernel_rfl) (by kernel_rfl) (fun _ _ _ h => h) (Or.inl ⟨by rfl, ?_⟩) hH0 ?_
    rotate_left
    · intro wS hSw; (try dsimp only at hSw); go_simp; try with_reducible rfl
    try simp only [Act.put, List.setIfInBounds_toArray, List.set_cons_zero, List.set_cons_succ]
    refine wpAnyH_take (i := 1) (oi := ⟨_, _, _, _, _, _⟩) (v := ?_) rfl (by kernel_rfl) (by kernel_rfl) (by kernel_rfl) (fun _ _ _ h => h) (Or.inl ⟨by rfl, ?_⟩) hH0 ?_
    rotate_left
    · intro wS hSw; (try dsimp only at hSw); go_simp; try with_reducible rfl
    try simp only [Act.put, List.setIfInBounds_toArray, List.set_cons_zero, List.set_cons_succ]
    refine wpAnyH_ready (rs := [2]) (by kernel_rfl) (by simp) ?_
    refine AllReadyH.cons (o := ⟨_, _, _, _, _, _⟩) rfl (fun Kq hKq => ?_) AllReadyH.nil
    go_simp
    (have _t := hF; go_at_call 32; refine (rcmp_is (hF.out.drew.r 6 rfl) (hF.out.drew.r 2 rfl) (Bq.int ((Bd.floor (E5.out)))) E5.out (by omega) (by omega) HU.out).mono ?_; rintro e w249 ⟨rfl, hb⟩; have hC249 : Hid (St w w249 [(wa.heap.size, #[.slice a221 n221 c221, .bool m221, .slice d221 e221 f221, .slice u221 x221 y221, .bool p221, .slice t221 o221 l221], 103), (wb.heap.size, #[.slice a223 n223 c223, .bool m223, .slice d223 e223 f223, .slice u223 x223 y223, .bool p223, .slice t223 o223 l223], 103), (wg.heap.size, #[.slice a225 n225 c225, .bool m225, .slice d225 e225 f225], 48), (b232_0, #[.slice a230 n230 c230, .bool m230, .slice d230 e230 f230], 48), (b232_1, #[.slice a231 n231 c231, .bool m231, .slice d231 e231 f231], 48), (w248.heap.size, #[.slice a248 n248 c248, .bool m248, .slice d248 e248 f248], 48)] [fun V => Vd V (.slice a221 n221 c221) m221 (.slice d221 e221 f221) (.slice u221 x221 y221) p221 (.slice t221 o221 l221) ((x1, x2)), fun V => Vd V (.slice a223 n223 c223) m223 (.slice d223 e223 f223) (.slice u223 x223 y223) p223 (.slice t223 o223 l223) ((x3, x4)), fun V => Rd V (.slice a225 n225 c225) m225 (.slice d225 e225 f225) (x5), fun V => Rd V (.slice a230 n230 c230) m230 (.slice d230 e230 f230) ((((x1, x2)).1 * ((x3, x4)).1 + ((x1, x2)).2 * ((x3, x4)).2)), fun V => Rd V (.slice a231 n231 c231) m231 (.slice d231 e231 f231) ((((x1, x2)).1 * ((x3, x4)).2 - ((x1, x2)).2 * ((x3, x4)).1)), fun V => Zd V (.slice a247 n247 c247) m247 ((x5).floor), fun V => Rd V (.slice a248 n248 c248) m248 (.slice d248 e248 f248) ((((x5).floor : Int) : Rat))]) := Lib.hid (St.pick ((hF.out.drew.call hb)) [0, 1, 2, 3, 4, 5, 6] rfl); clear hb; clear _t hF)
    (try go_wp2_with fail)
    refine hKq.out _ _ ?_ (fun hH1 => ?_)
    · (try dsimp only)
      all_goals (with_reducible refine And.intro (?_ : World.cell? w249 _ = _) ?_; exact hC249.out.cell 2 0 rfl rfl; exact ⟨hC249.out.cell 2 1 rfl rfl, hC249.out.cell 2 2 rfl rfl, hC249.out.cell 5 0 rfl rfl, hC249.out.cell 5 1 rfl rfl, hC249.out.cell 5 2 rfl rfl, trivial⟩)
    clear hKq Kq hH0
    try simp only [Act.put, List.setIfInBounds_toArray, List.set_cons_zero, List.set_cons_succ]
    refine wpAnyH_take (i := 3) (oi := ⟨_, _, _, _, _, _⟩) (v := ?_) rfl (by kernel_rfl) (by kernel_rfl) (by kernel_rfl) (fun _ _ _ h => h) (Or.inl ⟨by rfl, ?_⟩) hH1 ?_
    rotate_left
    · intro wS hSw; (try dsimp only at hSw); go_simp; try with_reducible rfl
    try simp only [Act.put, List.setIfInBounds_toArray, List.set_cons_zero, List.set_cons_succ]
    refine wpAnyH_take (i := 4) (oi := ⟨_, _, _, _, _, _⟩) (v := ?_) rfl (by kernel_rfl) (by kernel_rfl) (by kernel_rfl) (fun _ _ _ h => h) (Or.inl ⟨by rfl, ?_⟩) hH1 ?_
    rotate_left
    · intro wS hSw; (try dsimp only at hSw); go_simp; try with_reducible rfl
    try simp only [Act.put, List.setIfInBounds_toArray, List.set_cons_zero, List.set_cons_succ]
    refine wpAnyH_take (i := 5) (oi := ⟨_, _, _, _, _, _⟩) (v := ?_) rfl (by kernel_rfl) (by kernel_rfl) (by kernel_rfl) (fun _ _ _ h => h) (Or.inl ⟨by rfl, ?_⟩) hH1 ?_
    rotate_left
    · intro wS hSw; (try dsimp only at hSw); go_simp; try with_reducible rfl
    try simp only [Act.put, List.setIfInBounds_toArray, List.set_cons_zero, List.set_cons_succ]
    refine wpAnyH_take (i := 6) (oi := ⟨_, _, _, _, _, _⟩) (v := ?_) rfl (by kernel_rfl) (by kernel_rfl) (by kernel_rfl) (fun _ _ _ h => h) (Or.inl ⟨by rfl, ?_⟩) hH1 ?_
    rotate_left
    · intro wS hSw; (try dsimp only at hSw); go_simp; try with_reducible rfl
    try simp only [Act.put, List.setIfInBounds_toArray, List.set_cons_zero, List.set_cons_succ]
    refine wpAnyH_ready (rs := [7]) (by kernel_rfl) (by simp) ?_
    refine AllReadyH.cons (o := ⟨_, _, _, _, _, _⟩) rfl (fun Kq hKq => ?_) AllReadyH.nil
    go_simp
    (have _t := hC249; go_at_call 48; refine (of_any 1 (by omega) _).mono ?_; rintro e w250 ⟨a250, n250, c250, m250, d250, e250, f250, rfl, hz, hb⟩; have hC250 : Hid (St w w250 [(wa.heap.size, #[.slice a221 n221 c221, .bool m221, .slice d221 e221 f221, .slice u221 x221 y221, .bool p221, .slice t221 o221 l221], 103), (wb.heap.size, #[.slice a223 n223 c223, .bool m223, .slice d223 e223 f223, .slice u223 x223 y223, .bool p223, .slice t223 o223 l223], 103), (wg.heap.size, #[.slice a225 n225 c225, .bool m225, .slice d225 e225 f225], 48), (b232_0, #[.slice a230 n230 c230, .bool m230, .slice d230 e230 f230], 48), (b232_1, #[.slice a231 n231 c231, .bool m231, .slice d231 e231 f231], 48), (w248.heap.size, #[.slice a248 n248 c248, .bool m248, .slice d248 e248 f248], 48)] [fun V => Vd V (.slice a221 n221 c221) m221 (.slice d221 e221 f221) (.slice u221 x221 y221) p221 (.slice t221 o221 l221) ((x1, x2)), fun V => Vd V (.slice a223 n223 c223) m223 (.slice d223 e223 f223) (.slice u223 x223 y223) p223 (.slice t223 o223 l223) ((x3, x4)), fun V => Rd V (.slice a225 n225 c225) m225 (.slice d225 e225 f225) (x5), fun V => Rd V (.slice a230 n230 c230) m230 (.slice d230 e230 f230) ((((x1, x2)).1 * ((x3, x4)).1 + ((x1, x2)).2 * ((x3, x4)).2)), fun V => Rd V (.slice a231 n231 c231) m231 (.slice d231 e231 f231) ((((x1, x2)).1 * ((x3, x4)).2 - ((x1, x2)).2 * ((x3, x4)).1)), fun V => Zd V (.slice a247 n247 c247) m247 ((x5).floor), fun V => Rd V (.slice a248 n248 c248) m248 (.slice d248 e248 f248) ((((x5).floor : Int) : Rat)), fun V => Rd V (.slice a250 n250 c250) m250 (.slice d250 e250 f250) (((1 : Int) : Rat))]) := Lib.hid (St.pick ((hC249.out.call hb).pr hz) [0, 1, 2, 3, 4, 5, 6, 7] rfl); clear hb hz; clear _t hC249)
    (try go_wp2_with fail)
    refine hKq.out _ _ ?_ (fun hH2 => ?_)
    · (try dsimp only)
      all_goals (with_reducible refine And.intro (?_ : World.cell? w250 _ = _) ?_; exact hC250.out.cell 2 0 rfl rfl; exact ⟨hC250.out.cell 2 1 rfl rfl, hC250.out.cell 2 2 rfl rfl, hC250.out.cell 5 0 rfl rfl, hC250.out.cell 5 1 rfl rfl, hC250.out.cell 5 2 rfl rfl, trivial⟩)
    clear hKq Kq hH1
    try simp only [Act.put, List.setIfInBounds_toArray, List.set_cons_zero, List.set_cons_succ]
    refine wpAnyH_ready (rs := [8]) (by kernel_rfl) (by simp) ?_
    refine AllReadyH.cons (o := ⟨_, _, _, _, _, _⟩) rfl (fun Kq hKq => ?_) AllReadyH.nil
    go_simp
    (have _t := hC250; go_at_call 67; refine (radd_b (hC250.out.r 6 rfl) (hC250.out.r 7 rfl) (Bq.int ((Bd.floor (E5.out)))) (Bq.int (Bd.i64 (k := 1) (by omega))) (by omega) (by omega)).mono ?_; rintro e w251 ⟨a251, n251, c251, m251, d251, e251, f251, rfl, hz, hb⟩; have hC251 : Hid (St w w251 [(wa.heap.size, #[.slice a221 n221 c221, .bool m221, .slice d221 e221 f221, .slice u221 x221 y221, .bool p221, .slice t221 o221 l221], 103), (wb.heap.size, #[.slice a223 n223 c223, .bool m223, .slice d223 e223 f223, .slice u223 x223 y223, .bool p223, .slice t223 o223 l223], 103), (wg.heap.size, #[.slice a225 n225 c225, .bool m225, .slice d225 e225 f225], 48), (b232_0, #[.slice a230 n230 c230, .bool m230, .slice d230 e230 f230], 48), (b232_1, #[.slice a231 n231 c231, .bool m231, .slice d231 e231 f231], 48), (w248.heap.size, #[.slice a248 n248 c248, .bool m248, .slice d248 e248 f248], 48)] [fun V => Vd V (.slice a221 n221 c221) m221 (.slice d221 e221 f221) (.slice u221 x221 y221) p221 (.slice t221 o221 l221) ((x1, x2)), fun V => Vd V (.slice a223 n223 c223) m223 (.slice d223 e223 f223) (.slice u223 x223 y223) p223 (.slice t223 o223 l223) ((x3, x4)), fun V => Rd V (.slice a225 n225 c225) m225 (.slice d225 e225 f225) (x5), fun V => Rd V (.slice a230 n230 c230) m230 (.slice d230 e230 f230) ((((x1, x2)).1 * ((x3, x4)).1 + ((x1, x2)).2 * ((x3, x4)).2)), fun V => Rd V (.slice a231 n231 c231) m231 (.slice d231 e231 f231) ((((x1, x2)).1 * ((x3, x4)).2 - ((x1, x2)).2 * ((x3, x4)).1)), fun V => Zd V (.slice a247 n247 c247) m247 ((x5).floor), fun V => Rd V (.slice a248 n248 c248) m248 (.slice d248 e248 f248) ((((x5).floor : Int) : Rat)), fun V => Rd V (.slice a251 n251 c251) m251 (.slice d251 e251 f251) (((((x5).floor : Int) : Rat) + ((1 : Int) : Rat)))]) := Lib.hid (St.pick ((hC250.out.call hb).pr hz) [0, 1, 2, 3, 4, 5, 6, 8] rfl); clear hb hz; clear _t hC250)
    (try go_wp2_with fail)
    refine hKq.out _ _ ?_ (fun hH3 => ?_)
    · (try dsimp only)
      all_goals (with_reducible refine And.intro (?_ : World.cell? w251 _ = _) ?_; exact hC251.out.cell 2 0 rfl rfl; exact ⟨hC251.out.cell 2 1 rfl rfl, hC251.out.cell 2 2 rfl rfl, hC251.out.cell 5 0 rfl rfl, hC251.out.cell 5 1 rfl rfl, hC251.out.cell 5 2 rfl rfl, trivial⟩)
    clear hKq Kq hH2
    try simp only [Act.put, List.setIfInBounds_toArray, List.set_cons_zero, List.set_cons_succ]
    refine wpAnyH_ready (rs := [9]) (by kernel_rfl) (by simp) ?_
    refine AllReadyH.cons (o := ⟨_, _, _, _, _, _⟩) rfl (fun Kq hKq => ?_) AllReadyH.nil
    go_simp
    (have _t := hC251; go_at_call 32; refine (rcmp_is (hC251.out.r 2 rfl) (hC251.out.r 7 rfl) E5.out (((Bq.int ((Bd.floor (E5.out))))).add ((Bq.int (Bd.i64 (k := 1) (by omega))))) (by omega) (by omega) (cmpQ_lt (floor_cast1 _))).mono ?_; rintro e w252 ⟨rfl, hb⟩; have hC252 : Hid (St w w252 [(wa.heap.size, #[.slice a221 n221 c221, .bool m221, .slice d221 e221 f221, .slice u221 x221 y221, .bool p221, .slice t221 o221 l221], 103), (wb.heap.size, #[.slice a223 n223 c223, .bool m223, .slice d223 e223 f223, .slice u223 x223 y223, .bool p223, .slice t223 o223 l223], 103), (wg.heap.size, #[.slice a225 n225 c225, .bool m225, .slice d225 e225 f225], 48), (b232_0, #[.slice a230 n230 c230, .bool m230, .slice d230 e230 f230], 48), (b232_1, #[.slice a231 n231 c231, .bool m231, .slice d231 e231 f231], 48), (w248.heap.size, #[.slice a248 n248 c248, .bool m248, .slice d248 e248 f248], 48)] [fun V => Vd V (.slice a221 n221 c221) m221 (.slice d221 e221 f221) (.slice u221 x221 y221) p221 (.slice t221 o221 l221) ((x1, x2)), fun V => Vd V (.slice a223 n223 c223) m223 (.slice d223 e223 f223) (.slice u223 x223 y223) p223 (.slice t223 o223 l223) ((x3, x4)), fun V => Rd V (.slice a225 n225 c225) m225 (.slice d225 e225 f225) (x5), fun V => Rd V (.slice a230 n230 c230) m230 (.slice d230 e230 f230) ((((x1, x2)).1 * ((x3, x4)).1 + ((x1, x2)).2 * ((x3, x4)).2)), fun V => Rd V (.slice a231 n231 c231) m231 (.slice d231 e231 f231) ((((x1, x2)).1 * ((x3, x4)).2 - ((x1, x2)).2 * ((x3, x4)).1)), fun V => Zd V (.slice a247 n247 c247) m247 ((x5).floor), fun V => Rd V (.slice a248 n248 c248) m248 (.slice d248 e248 f248) ((((x5).floor : Int) : Rat))]) := Lib.hid (St.pick ((hC251.out.call hb)) [0, 1, 2, 3, 4, 5, 6] rfl); clear hb; clear _t hC251)
    (try go_wp2_with fail)
    refine hKq.out _ _ ?_ (fun hH4 => ?_)
    · (try dsimp only)
      all_goals (with_reducible refine And.intro (?_ : World.cell? w252 _ = _) ?_; exact hC252.out.cell 2 0 rfl rfl; exact ⟨hC252.out.cell 2 1 rfl rfl, hC252.out.cell 2 2 rfl rfl, hC252.out.cell 5 0 rfl rfl, hC252.out.cell 5 1 rfl rfl, hC252.out.cell 5 2 rfl rfl, trivial⟩)
    clear hKq Kq hH3
    try simp only [Act.put, List.setIfInBounds_toArray, List.set_cons_zero, List.set_cons_succ]
    refine wpAnyH_take (i := 10) (oi := ⟨_, _, _, _, _, _⟩) (v := ?_) rfl (by kernel_rfl) (by kernel_rfl) (by kernel_rfl) (fun _ _ _ h => h) (Or.inl ⟨by rfl, ?_⟩) hH4 ?_
    rotate_left
    · intro wS hSw; (try dsimp only at hSw); go_simp; try with_reducible rfl
    try simp only [Act.put, List.setIfInBounds_toArray, List.set_cons_zero, List.set_cons_succ]
    refine wpAnyH_take (i := 11) (oi := ⟨_, _, _, _, _, _⟩) (v := ?_) rfl (by kernel_rfl) (by kernel_rfl) (by kernel_rfl) (fun _ _ _ h => h) (Or.inl ⟨by rfl, ?_⟩) hH4 ?_
    rotate_left
    · intro wS hSw; (try dsimp only at hSw); go_simp; try with_reducible rfl
    try simp only [Act.put, List.setIfInBounds_toArray, List.set_cons_zero, List.set_cons_succ]
    refine wpAnyH_take (i := 12) (oi := ⟨_, _, _, _, _, _⟩) (v := ?_) rfl (by kernel_rfl) (by kernel_rfl) (by kernel_rfl) (fun _ _ _ h => h) (Or.inl ⟨by rfl, ?_⟩) hH4 ?_
    rotate_left
    · intro wS hSw; (try dsimp only at hSw); go_simp; try with_reducible rfl
    try simp only [Act.put, List.setIfInBounds_toArray, List.set_cons_zero, List.set_cons_succ]
    refine wpAnyH_take (i := 13) (oi := ⟨_, _, _, _, _, _⟩) (v := ?_) rfl (by kernel_rfl) (by kernel_rfl) (by kernel_rfl) (fun _ _ _ h => h) (Or.inl ⟨by rfl, ?_⟩) hH4 ?_
    rotate_left
    · intro wS hSw; (try dsimp only at hSw); go_simp; try with_reducible rfl
    try simp only [Act.put, List.setIfInBounds_toArray, List.set_cons_zero, List.set_cons_succ]
    refine wpAnyH_take (i := 15) (oi := ⟨_, _, _, _, _, _⟩) (v := ?_) rfl (by kernel_rfl) (by kernel_rfl) (by kernel_rfl) (fun _ _ _ h => h) (Or.inl ⟨by rfl, ?_⟩) hH4 ?_
    rotate_left
    · intro wS hSw; (try dsimp only at hSw); go_simp; try with_reducible rfl
    try simp only [Act.put, List.setIfInBounds_toArray, List.set_cons_zero, List.set_cons_succ]
    refine wpAnyH_ready (rs := [14]) (by kernel_rfl) (by simp) ?_
    refine AllReadyH.cons (o := ⟨_, _, _, _, _, _⟩) rfl (fun Kq hKq => ?_) AllReadyH.nil
    go_simp
    (have _t := hC252; go_at_call 62; refine (rceil_any _ _ _ _ _ _ _ _ _ (hC252.out.r 2 rfl) _ E5.out (by omega)).mono ?_; rintro e w253 ⟨a253, n253, c253, m253, rfl, hz, hb⟩; have hC253 : Hid (St w w253 [(wa.heap.size, #[.slice a221 n221 c221, .bool m221, .slice d221 e221 f221, .slice u221 x221 y221, .bool p221, .slice t221 o221 l221], 103), (wb.heap.size, #[.slice a223 n223 c223, .bool m223, .slice d223 e223 f223, .slice u223 x223 y223, .bool p223, .slice t223 o223 l223], 103), (wg.heap.size, #[.slice a225 n225 c225, .bool m225, .slice d225 e225 f225], 48), (b232_0, #[.slice a230 n230 c230, .bool m230, .slice d230 e230 f230], 48), (b232_1, #[.slice a231 n231 c231, .bool m231, .slice d231 e231 f231], 48), (w248.heap.size, #[.slice a248 n248 c248, .bool m248, .slice d248 e248 f248], 48)] [fun V => Vd V (.slice a221 n221 c221) m221 (.slice d221 e221 f221) (.slice u221 x221 y221) p221 (.slice t221 o221 l221) ((x1, x2)), fun V => Vd V (.slice a223 n223 c223) m223 (.slice d223 e223 f223) (.slice u223 x223 y223) p223 (.slice t223 o223 l223) ((x3, x4)), fun V => Rd V (.slice a225 n225 c225) m225 (.slice d225 e225 f225) (x5), fun V => Rd V (.slice a230 n230 c230) m230 (.slice d230 e230 f230) ((((x1, x2)).1 * ((x3, x4)).1 + ((x1, x2)).2 * ((x3, x4)).2)), fun V => Rd V (.slice a231 n231 c231) m231 (.slice d231 e231 f231) ((((x1, x2)).1 * ((x3, x4)).2 - ((x1, x2)).2 * ((x3, x4)).1)), fun V => Zd V (.slice a247 n247 c247) m247 ((x5).floor), fun V => Rd V (.slice a248 n248 c248) m248 (.slice d248 e248 f248) ((((x5).floor : Int) : Rat)), fun V => Zd V (.slice a253 n253 c253) m253 ((-((-x5).floor)))]) := Lib.hid (St.pick ((hC252.out.call hb).pz hz) [0, 1, 2, 3, 4, 5, 6, 7] rfl); clear hb hz; clear _t hC252)
    (try go_wp2_with fail)
    refine hKq.out _ _ ?_ (fun hH5 => ?_)
    · (try dsimp only)
      all_goals (with_reducible refine And.intro (?_ : World.cell? w253 _ = _) ?_; exact hC253.out.cell 2 0 rfl rfl; exact ⟨hC253.out.cell 2 1 rfl rfl, hC253.out.cell 2 2 rfl rfl, hC253.out.cell 5 0 rfl rfl, hC253.out.cell 5 1 rfl rfl, hC253.out.cell 5 2 rfl rfl, trivial⟩)
    clear hKq Kq hH4
    try simp only [Act.put, List.setIfInBounds_toArray, List.set_cons_zero, List.set_cons_succ]
    refine wpAnyH_ready (rs := [16]) (by kernel_rfl) (by simp) ?_
    refine AllReadyH.cons (o := ⟨_, _, _, _, _, _⟩) rfl (fun Kq hKq => ?_) AllReadyH.nil
    go_simp
    (have _t := hC253; go_at_call 73; refine (rneg_b (hC253.out.r 2 rfl)).mono ?_; rintro e w254 ⟨a254, n254, c254, m254, d254, e254, f254, rfl, hz, hb⟩; have hC254 : Hid (St w w254 [(wa.heap.size, #[.slice a221 n221 c221, .bool m221, .slice d221 e221 f221, .slice u221 x221 y221, .bool p221, .slice t221 o221 l221], 103), (wb.heap.size, #[.slice a223 n223 c223, .bool m223, .slice d223 e223 f223, .slice u223 x223 y223, .bool p223, .slice t223 o223 l223], 103), (wg.heap.size, #[.slice a225 n225 c225, .bool m225, .slice d225 e225 f225], 48), (b232_0, #[.slice a230 n230 c230, .bool m230, .slice d230 e230 f230], 48), (b232_1, #[.slice a231 n231 c231, .bool m231, .slice d231 e231 f231], 48), (w248.heap.size, #[.slice a248 n248 c248, .bool m248, .slice d248 e248 f248], 48)] [fun V => Vd V (.slice a221 n221 c221) m221 (.slice d221 e221 f221) (.slice u221 x221 y221) p221 (.slice t221 o221 l221) ((x1, x2)), fun V => Vd V (.slice a223 n223 c223) m223 (.slice d223 e223 f223) (.slice u223 x223 y223) p223 (.slice t223 o223 l223) ((x3, x4)), fun V => Rd V (.slice a225 n225 c225) m225 (.slice d225 e225 f225) (x5), fun V => Rd V (.slice a230 n230 c230) m230 (.slice d230 e230 f230) ((((x1, x2)).1 * ((x3, x4)).1 + ((x1, x2)).2 * ((x3, x4)).2)), fun V => Rd V (.slice a231 n231 c231) m231 (.slice d231 e231 f231) ((((x1, x2)).1 * ((x3, x4)).2 - ((x1, x2)).2 * ((x3, x4)).1)), fun V => Zd V (.slice a247 n247 c247) m247 ((x5).floor), fun V => Rd V (.slice a248 n248 c248) m248 (.slice d248 e248 f248) ((((x5).floor : Int) : Rat)), fun V => Zd V (.slice a253 n253 c253) m253 ((-((-x5).floor))), fun V => Rd V (.slice a254 n254 c254) m254 (.slice d254 e254 f254) ((-x5))]) := Lib.hid (St.pick ((hC253.out.call hb).pr hz) [0, 1, 2, 3, 4, 5, 6, 7, 8] rfl); clear hb hz; clear _t hC253)
    (try go_wp2_with fail)
    refine hKq.out _ _ ?_ (fun hH6 => ?_)
    · (try dsimp only)
      all_goals (with_reducible refine And.intro (?_ : World.cell? w254 _ = _) ?_; exact hC254.out.cell 2 0 rfl rfl; exact ⟨hC254.out.cell 2 1 rfl rfl, hC254.out.cell 2 2 rfl rfl, hC254.out.cell 5 0 rfl rfl, hC254.out.cell 5 1 rfl rfl, hC254.out.cell 5 2 rfl rfl, trivial⟩)
    clear hKq Kq hH5
    try simp only [Act.put, List.setIfInBounds_toArray, List.set_cons_zero, List.set_cons_succ]
    refine wpAnyH_ready (rs := [17]) (by kernel_rfl) (by simp) ?_
    refine AllReadyH.cons (o := ⟨_, _, _, _, _, _⟩) rfl (fun Kq hKq => ?_) AllReadyH.nil
    go_simp
    (have _t := hC254; go_at_call 60; refine (rfloor_b (hC254.out.r 8 rfl) (E5.out).neg (by omega)).mono ?_; rintro e w255 ⟨a255, n255, c255, m255, rfl, hz, hb⟩; have hC255 : Hid (St w w255 [(wa.heap.size, #[.slice a221 n221 c221, .bool m221, .slice d221 e221 f221, .slice u221 x221 y221, .bool p221, .slice t221 o221 l221], 103), (wb.heap.size, #[.slice a223 n223 c223, .bool m223, .slice d223 e223 f223, .slice u223 x223 y223, .bool p223, .slice t223 o223 l223], 103), (wg.heap.size, #[.slice a225 n225 c225, .bool m225, .slice d225 e225 f225], 48), (b232_0, #[.slice a230 n230 c230, .bool m230, .slice d230 e230 f230], 48), (b232_1, #[.slice a231 n231 c231, .bool m231, .slice d231 e231 f231], 48), (w248.heap.size, #[.slice a248 n248 c248, .bool m248, .slice d248 e248 f248], 48)] [fun V => Vd V (.slice a221 n221 c221) m221 (.slice d221 e221 f221) (.slice u221 x221 y221) p221 (.slice t221 o221 l221) ((x1, x2)), fun V => Vd V (.slice a223 n223 c223) m223 (.slice d223 e223 f223) (.slice u223 x223 y223) p223 (.slice t223 o223 l223) ((x3, x4)), fun V => Rd V (.slice a225 n225 c225) m225 (.slice d225 e225 f225) (x5), fun V => Rd V (.slice a230 n230 c230) m230 (.slice d230 e230 f230) ((((x1, x2)).1 * ((x3, x4)).1 + ((x1, x2)).2 * ((x3, x4)).2)), fun V => Rd V (.slice a231 n231 c231) m231 (.slice d231 e231 f231) ((((x1, x2)).1 * ((x3, x4)).2 - ((x1, x2)).2 * ((x3, x4)).1)), fun V => Zd V (.slice a247 n247 c247) m247 ((x5).floor), fun V => Rd V (.slice a248 n248 c248) m248 (.slice d248 e248 f248) ((((x5).floor : Int) : Rat)), fun V => Zd V (.slice a253 n253 c253) m253 ((-((-x5).floor))), fun V => Zd V (.slice a255 n255 c255) m255 (((-x5)).floor)]) := Lib.hid (St.pick ((hC254.out.call hb).pz hz) [0, 1, 2, 3, 4, 5, 6, 7, 9] rfl); clear hb hz; clear _t hC254)
    (try go_wp2_with fail)
    refine hKq.out _ _ ?_ (fun hH7 => ?_)
    · (try dsimp only)
      all_goals (with_reducible refine And.intro (?_ : World.cell? w255 _ = _) ?_; exact hC255.out.cell 2 0 rfl rfl; exact ⟨hC255.out.cell 2 1 rfl rfl, hC255.out.cell 2 2 rfl rfl, hC255.out.cell 5 0 rfl rfl, hC255.out.cell 5 1 rfl rfl, hC255.out.cell 5 2 rfl rfl, trivial⟩)
    clear hKq Kq hH6
    try simp only [Act.put, List.setIfInBounds_toArray, List.set_cons_zero, List.set_cons_succ]
    refine wpAnyH_ready (rs := [18]) (by kernel_rfl) (by simp) ?_
    refine AllReadyH.cons (o := ⟨_, _, _, _, _, _⟩) rfl (fun Kq hKq => ?_) AllReadyH.nil
    go_simp
    (have _t := hC255; go_at_call 43; refine (neg_b (hC255.out.z 8 rfl)).mono ?_; rintro e w256 ⟨a256, n256, c256, m256, rfl, hz, hb⟩; have hC256 : Hid (St w w256 [(wa.heap.size, #[.slice a221 n221 c221, .bool m221, .slice d221 e221 f221, .slice u221 x221 y221, .bool p221, .slice t221 o221 l221], 103), (wb.heap.size, #[.slice a223 n223 c223, .bool m223, .slice d223 e223 f223, .slice u223 x223 y223, .bool p223, .slice t223 o223 l223], 103), (wg.heap.size, #[.slice a225 n225 c225, .bool m225, .slice d225 e225 f225], 48), (b232_0, #[.slice a230 n230 c230, .bool m230, .slice d230 e230 f230], 48), (b232_1, #[.slice a231 n231 c231, .bool m231, .slice d231 e231 f231], 48), (w248.heap.size, #[.slice a248 n248 c248, .bool m248, .slice d248 e248 f248], 48)] [fun V => Vd V (.slice a221 n221 c221) m221 (.slice d221 e221 f221) (.slice u221 x221 y221) p221 (.slice t221 o221 l221) ((x1, x2)), fun V => Vd V (.slice a223 n223 c223) m223 (.slice d223 e223 f223) (.slice u223 x223 y223) p223 (.slice t223 o223 l223) ((x3, x4)), fun V => Rd V (.slice a225 n225 c225) m225 (.slice d225 e225 f225) (x5), fun V => Rd V (.slice a230 n230 c230) m230 (.slice d230 e230 f230) ((((x1, x2)).1 * ((x3, x4)).1 + ((x1, x2)).2 * ((x3, x4)).2)), fun V => Rd V (.slice a231 n231 c231) m231 (.slice d231 e231 f231) ((((x1, x2)).1 * ((x3, x4)).2 - ((x1, x2)).2 * ((x3, x4)).1)), fun V => Zd V (.slice a247 n247 c247) m247 ((x5).floor), fun V => Rd V (.slice a248 n248 c248) m248 (.slice d248 e248 f248) ((((x5).floor : Int) : Rat)), fun V => Zd V (.slice a253 n253 c253) m253 ((-((-x5).floor))), fun V => Zd V (.slice a256 n256 c256) m256 ((-((-x5)).floor))]) := Lib.hid (St.pick ((hC255.out.call hb).pz hz) [0, 1, 2, 3, 4, 5, 6, 7, 9] rfl); clear hb hz; clear _t hC255)
    (try go_wp2_with fail)
    refine hKq.out _ _ ?_ (fun hH8 => ?_)
    · (try dsimp only)
      all_goals (with_reducible refine And.intro (?_ : World.cell? w256 _ = _) ?_; exact hC256.out.cell 2 0 rfl rfl; exact ⟨hC256.out.cell 2 1 rfl rfl, hC256.out.cell 2 2 rfl rfl, hC256.out.cell 5 0 rfl rfl, hC256.out.cell 5 1 rfl rfl, hC256.out.cell 5 2 rfl rfl, trivial⟩)
    clear hKq Kq hH7
    try simp only [Act.put, List.setIfInBounds_toArray, List.set_cons_zero, List.set_cons_succ]
    refine wpAnyH_ready (rs := [19]) (by kernel_rfl) (by simp) ?_
    refine AllReadyH.cons (o := ⟨_, _, _, _, _, _⟩) rfl (fun Kq hKq => ?_) AllReadyH.nil
    go_simp
    (have _t := hC256; go_at_call 31; refine (cmp_is (hC256.out.z 7 rfl) (hC256.out.z 8 rfl) (Bd.floor (E5.out).neg).neg ((Bd.floor ((E5.out).neg))).neg (by omega) (by omega) (sgn_eq rfl)).mono ?_; rintro e w257 ⟨rfl, hb⟩; have hC257 : Hid (St w w257 [(wa.heap.size, #[.slice a221 n221 c221, .bool m221, .slice d221 e221 f221, .slice u221 x221 y221, .bool p221, .slice t221 o221 l221], 103), (wb.heap.size, #[.slice a223 n223 c223, .bool m223, .slice d223 e223 f223, .slice u223 x223 y223, .bool p223, .slice t223 o223 l223], 103), (wg.heap.size, #[.slice a225 n225 c225, .bool m225, .slice d225 e225 f225], 48), (b232_0, #[.slice a230 n230 c230, .bool m230, .slice d230 e230 f230], 48), (b232_1, #[.slice a231 n231 c231, .bool m231, .slice d231 e231 f231], 48), (w248.heap.size, #[.slice a248 n248 c248, .bool m248, .slice d248 e248 f248], 48)] [fun V => Vd V (.slice a221 n221 c221) m221 (.slice d221 e221 f221) (.slice u221 x221 y221) p221 (.slice t221 o221 l221) ((x1, x2)), fun V => Vd V (.slice a223 n223 c223) m223 (.slice d223 e223 f223) (.slice u223 x223 y223) p223 (.slice t223 o223 l223) ((x3, x4)), fun V => Rd V (.slice a225 n225 c225) m225 (.slice d225 e225 f225) (x5), fun V => Rd V (.slice a230 n230 c230) m230 (.slice d230 e230 f230) ((((x1, x2)).1 * ((x3, x4)).1 + ((x1, x2)).2 * ((x3, x4)).2)), fun V => Rd V (.slice a231 n231 c231) m231 (.slice d231 e231 f231) ((((x1, x2)).1 * ((x3, x4)).2 - ((x1, x2)).2 * ((x3, x4)).1)), fun V => Zd V (.slice a247 n247 c247) m247 ((x5).floor), fun V => Rd V (.slice a248 n248 c248) m248 (.slice d248 e248 f248) ((((x5).floor : Int) : Rat))]) := Lib.hid (St.pick ((hC256.out.call hb)) [0, 1, 2, 3, 4, 5, 6] rfl); clear hb; clear _t hC256)
    (try go_wp2_with fail)
    refine hKq.out _ _ ?_ (fun hH9 => ?_)
    · (try dsimp only)
      all_goals (with_reducible refine And.intro (?_ : World.cell? w257 _ = _) ?_; exact hC257.out.cell 2 0 rfl rfl; exact ⟨hC257.out.cell 2 1 rfl rfl, hC257.out.cell 2 2 rfl rfl, hC257.out.cell 5 0 rfl rfl, hC257.out.cell 5 1 rfl rfl, hC257.out.cell 5 2 rfl rfl, trivial⟩)
    clear hKq Kq hH8
    try simp only [Act.put, List.setIfInBounds_toArray, List.set_cons_zero, List.set_cons_succ]
    refine wpAnyH_take (i := 20) (oi := ⟨_, _, _, _, _, _⟩) (v := ?_) rfl (by kernel_rfl) (by kernel_rfl) (by kernel_rfl) (fun _ _ _ h => h) (Or.inl ⟨by rfl, ?_⟩) hH9 ?_
    rotate_left
    · intro wS hSw; (try dsimp only at hSw); go_simp; try with_reducible rfl
    try simp only [Act.put, List.setIfInBounds_toArray, List.set_cons_zero, List.set_cons_succ]
    refine wpAnyH_take (i := 21) (oi := ⟨_, _, _, _, _, _⟩) (v := ?_) rfl (by kernel_rfl) (by kernel_rfl) (by kernel_rfl) (fun _ _ _ h => h) (Or.inl ⟨by rfl, ?_⟩) hH9 ?_
    rotate_left
    · intro wS hSw; (try dsimp only at hSw); go_simp; try with_reducible rfl
    try simp only [Act.put, List.setIfInBounds_toArray, List.set_cons_zero, List.set_cons_succ]
    refine wpAnyH_take (i := 22) (oi := ⟨_, _, _, _, _, _⟩) (v := ?_) rfl (by kernel_rfl) (by kernel_rfl) (by kernel_rfl) (fun _ _ _ h => h) (Or.inl ⟨by rfl, ?_⟩) hH9 ?_
    rotate_left
    · intro wS hSw; (try dsimp only at hSw); go_simp; try with_reducible rfl
    try simp only [Act.put, List.setIfInBounds_toArray, List.set_cons_zero, List.set_cons_succ]
    refine wpAnyH_ready (rs := [23]) (by kernel_rfl) (by simp) ?_
    refine AllReadyH.cons (o := ⟨_, _, _, _, _, _⟩) rfl (fun Kq hKq => ?_) AllReadyH.nil
    go_simp
    (have _t := hC257; go_at_call 19; refine (awake_any _).mono ?_; rintro e w258 ⟨rfl, hb⟩; have hC258 : Hid (St w w258 [(wa.heap.size, #[.slice a221 n221 c221, .bool m221, .slice d221 e221 f221, .slice u221 x221 y221, .bool p221, .slice t221 o221 l221], 103), (wb.heap.size, #[.slice a223 n223 c223, .bool m223, .slice d223 e223 f223, .slice u223 x223 y223, .bool p223, .slice t223 o223 l223], 103), (wg.heap.size, #[.slice a225 n225 c225, .bool m225, .slice d225 e225 f225], 48), (b232_0, #[.slice a230 n230 c230, .bool m230, .slice d230 e230 f230], 48), (b232_1, #[.slice a231 n231 c231, .bool m231, .slice d231 e231 f231], 48), (w248.heap.size, #[.slice a248 n248 c248, .bool m248, .slice d248 e248 f248], 48)] [fun V => Vd V (.slice a221 n221 c221) m221 (.slice d221 e221 f221) (.slice u221 x221 y221) p221 (.slice t221 o221 l221) ((x1, x2)), fun V => Vd V (.slice a223 n223 c223) m223 (.slice d223 e223 f223) (.slice u223 x223 y223) p223 (.slice t223 o223 l223) ((x3, x4)), fun V => Rd V (.slice a225 n225 c225) m225 (.slice d225 e225 f225) (x5), fun V => Rd V (.slice a230 n230 c230) m230 (.slice d230 e230 f230) ((((x1, x2)).1 * ((x3, x4)).1 + ((x1, x2)).2 * ((x3, x4)).2)), fun V => Rd V (.slice a231 n231 c231) m231 (.slice d231 e231 f231) ((((x1, x2)).1 * ((x3, x4)).2 - ((x1, x2)).2 * ((x3, x4)).1)), fun V => Zd V (.slice a247 n247 c247) m247 ((x5).floor), fun V => Rd V (.slice a248 n248 c248) m248 (.slice d248 e248 f248) ((((x5).floor : Int) : Rat))]) := Lib.hid (St.pick ((hC257.out.call hb)) [0, 1, 2, 3, 4, 5, 6] rfl); clear hb; clear _t hC257)
    (try go_wp2_with fail)
    refine hKq.out _ _ ?_ (fun hH10 => ?_)
    · (try dsimp only)
      all_goals (with_reducible refine And.intro (?_ : World.cell? w258 _ = _) ?_; exact hC258.out.cell 2 0 rfl rfl; exact ⟨hC258.out.cell 2 1 rfl rfl, hC258.out.cell 2 2 rfl rfl, hC258.out.cell 5 0 rfl rfl, hC258.out.cell 5 1 rfl rfl, hC258.out.cell 5 2 rfl rfl, trivial⟩)
    clear hKq Kq hH9
    try simp only [Act.put, List.setIfInBounds_toArray, List.set_cons_zero, List.set_cons_succ]
    refine wpAnyH_take (i := 24) (oi := ⟨_, _, _, _, _, _⟩) (v := ?_) rfl (by kernel_rfl) (by kernel_rfl) (by kernel_rfl) (fun _ _ _ h => h) (Or.inl ⟨by rfl, ?_⟩) hH10 ?_
    rotate_left
    · intro wS hSw; (try dsimp only at hSw); go_simp; try with_reducible rfl
    try simp only [Act.put, List.setIfInBounds_toArray, List.set_cons_zero, List.set_cons_succ]
    refine wpAnyH_ready (rs := [25]) (by kernel_rfl) (by simp) ?_
    refine AllReadyH.cons (o := ⟨_, _, _, _, _, _⟩) rfl (fun Kq hKq => ?_) AllReadyH.nil
    go_simp
    refine hKq.out _ _ ?_ (fun hH11 => ?_)
    · (try dsimp only)
      all_goals (with_reducible refine And.intro (?_ : World.cell? w258 _ = _) ?_; exact hC258.out.cell 2 0 rfl rfl; exact ⟨hC258.out.cell 2 1 rfl rfl, hC258.out.cell 2 2 rfl rfl, hC258.out.cell 5 0 rfl rfl, hC258.out.cell 5 1 rfl rfl, hC258.out.cell 5 2 rfl rfl, trivial⟩)
    clear hKq Kq hH10
    try simp only [Act.put, List.setIfInBounds_toArray, List.set_cons_zero, List.set_cons_succ]
    refine wpAnyH_done (by kernel_rfl) ?_ _
    go_wp2_with fail
    go_wp2
    go_ret
    exact ⟨rfl, hC258.out.be⟩

end Go.Proofs.YtmfplelodnoicaaGreatDoor

/- the law GangPays, walked -/
import Derived.Test.YtchignmnnbepnaaGreatJ46
namespace Go.Proofs.YtchignmnnbepnaaGreat
open Go.RowKit
section
variable (w : World)
set_option maxRecDepth 100000 in
set_option maxHeartbeats 32000000 in
theorem gangPays_walk (sa wa : Option Addr) (S : List Sht) (L : List Wal) (sc wk : Nat) (nm : ByteArray) (a1 a2 : Option Addr) (n1 c1 n2 c2 : Nat) (l : List WL) (st : List I3) (p0 p1 p2 p3 : Int) (hS : Shts w sa S.length sc S) (hL : Wals w wa L.length wk L) (hl : Sx 3 w a1 n1 c1 (LW l)) (hst : Sx 3 w a2 n2 c2 (L3 st)) (hn : ∀ x ∈ l, x.1.size ≤ maxLen) :
    Calls Tryz.prog 3 #[.agg #[.slice sa S.length sc, .slice wa L.length wk], .string nm, .slice a1 n1 c1, .slice a2 n2 c2, .agg #[.int .i64 p0, .int .i64 p1, .int .i64 p2, .int .i64 p3]] w (Gives (.bool true) w) := by
  have cap1 := hl.cap
  have cap2 := hst.cap
  have capS := hS.row.cap
  have capL := hL.row.cap
  unfold maxLen at cap1 cap2 capS capL
  obtain rfl := hl.nW
  obtain rfl := hst.n3
  have HW := Lib.hid wakes_any
  have HS := Lib.hid hS
  have HL := Lib.hid hL
  have H1 := Lib.hid hl
  have H2 := Lib.hid hst
  have HN := Lib.hid hn
  have HSM := Lib.hid (fun W (h : Below w.heap.size w W) => small_any W sa wa S.length sc L.length wk S L (HS.out.row.below h) (HL.out.row.below h))
  clear hS hL hl hst hn
  have HSB := Lib.hid (show ∀ b, smallB S L = b → smallB S L = b from fun _ h => h)
  obtain ⟨sm, hsm⟩ : ∃ sm, smallB S L = sm := ⟨_, rfl⟩
  have HSE := Lib.hid hsm
  rw [hsm] at HSM
  clear hsm HSB
  go_enter Tryz.func3, Tryz.ntmps3
  go_upto_region 1 with (first | (refine wpList_bx (o := ⟨some 5, _, _, _, _, _⟩) rfl (Sy.enter w) _ _ rfl #[.slice sa S.length sc, .slice wa L.length wk] rfl ?_; intro b5 V1 h1; have hA := Lib.hid h1; clear h1) | (refine wpList_bx (o := ⟨some 9, _, _, _, _, _⟩) rfl hA.out _ _ rfl #[.int .i64 p0, .int .i64 p1, .int .i64 p2, .int .i64 p3] rfl ?_; intro b9 V2 h2; have hC := Lib.hid h2; clear h2 hA) | fail)
  have x0 : V2.cell? ⟨b5, 0, none⟩ = some (.slice sa S.length sc) := hC.out.cell 0 0 rfl rfl
  have x1 : V2.cell? ⟨b5, 1, none⟩ = some (.slice wa L.length wk) := hC.out.cell 0 1 rfl rfl
  go_wp2_with fail
  refine (HSM.out _ hC.out.be).mono ?_
  rintro e W3 ⟨rfl, hb⟩
  have hD := Lib.hid (hC.out.call hb)
  clear hb hC HSM x0 x1
  cases sm
  · clear HSE
    go_wp2_with fail
    refine (HW.out _).mono ?_
    rintro e VZ ⟨rfl, hb⟩
    have hZ := Lib.hid (hD.out.call hb)
    clear hb
    go_wp2
    go_ret
    exact ⟨rfl, hZ.out.be⟩
  by_cases g1 : (l.length : Int) > 20
  · clear HSE
    go_wp2_with fail
    refine (HW.out _).mono ?_
    rintro e VZ ⟨rfl, hb⟩
    have hZ := Lib.hid (hD.out.call hb)
    clear hb
    go_wp2
    go_ret
    exact ⟨rfl, hZ.out.be⟩
  by_cases g2 : (st.length : Int) > 20
  · clear HSE
    go_wp2_with fail
    refine (HW.out _).mono ?_
    rintro e VZ ⟨rfl, hb⟩
    have hZ := Lib.hid (hD.out.call hb)
    clear hb
    go_wp2
    go_ret
    exact ⟨rfl, hZ.out.be⟩
  have HB := Lib.hid hD.out.be
  have HQ := Lib.hid (show ∀ V, Below W3.heap.size W3 V → V.cell? ⟨b5, 0, none⟩ = some (.slice sa S.length sc) ∧ V.cell? ⟨b5, 1, none⟩ = some (.slice wa L.length wk) ∧ V.cell? ⟨b9, 0, none⟩ = some (.int .i64 p0) ∧ V.cell? ⟨b9, 1, none⟩ = some (.int .i64 p1) ∧ V.cell? ⟨b9, 2, none⟩ = some (.int .i64 p2) ∧ V.cell? ⟨b9, 3, none⟩ = some (.int .i64 p3) from fun V h => ⟨(h.cell (p := ⟨b5, 0, none⟩) (hD.out.lt 0 rfl)).trans (hD.out.cell 0 0 rfl rfl), (h.cell (p := ⟨b5, 1, none⟩) (hD.out.lt 0 rfl)).trans (hD.out.cell 0 1 rfl rfl), (h.cell (p := ⟨b9, 0, none⟩) (hD.out.lt 1 rfl)).trans (hD.out.cell 1 0 rfl rfl), (h.cell (p := ⟨b9, 1, none⟩) (hD.out.lt 1 rfl)).trans (hD.out.cell 1 1 rfl rfl), (h.cell (p := ⟨b9, 2, none⟩) (hD.out.lt 1 rfl)).trans (hD.out.cell 1 2 rfl rfl), (h.cell (p := ⟨b9, 3, none⟩) (hD.out.lt 1 rfl)).trans (hD.out.cell 1 3 rfl rfl)⟩)
  have HSS := Lib.hid (fun V (h : Below W3.heap.size W3 V) => (HS.out.below HB.out).below h)
  have HLL := Lib.hid (fun V (h : Below W3.heap.size W3 V) => (HL.out.below HB.out).below h)
  have HG := Lib.hid (fun V (h : Below W3.heap.size W3 V) => (H1.out.below HB.out).below h)
  have HT := Lib.hid (fun V (h : Below W3.heap.size W3 V) => (H2.out.below HB.out).below h)
  obtain ⟨E, X, hEX⟩ : ∃ E X, payR S L nm l st [p0, p1, p2, p3] = (E, X) := ⟨_, _, rfl⟩
  have HEX := Lib.hid hEX
  have HPL := Lib.hid (fun W (h : Below W3.heap.size W3 W) => lPlan_c W sa wa S.length sc L.length wk S L (HSS.out W h) (HLL.out W h) HSE.out)
  have HCG := Lib.hid (fun W (h : Below W3.heap.size W3 W) => conv_Waller3 a1 _ c1 l W (HG.out W h) (by omega))
  have HCS := Lib.hid (fun W (h : Below W3.heap.size W3 W) => conv_Stint3 a2 _ c2 st W (HT.out W h) (by omega))
  have HPA := Lib.hid (show ∀ W ta ma tc mc (T : List Sht) (M : List Wal) b d b' d', Hid (T.map nS = S.map nS) → Hid (M.map nW = L.map nW) → Shts W ta S.length tc T ∧ Wals W ma L.length mc M → Sx 3 W b l.length d (LW l) → Sx 3 W b' st.length d' (L3 st) → Calls Tryz.prog 7 #[.agg #[.slice ta S.length tc, .slice ma L.length mc], .string nm, .slice b l.length d, .slice b' st.length d', .agg #[.int .i64 p0, .int .i64 p1, .int .i64 p2, .int .i64 p3]] W (RetPay W E X) from
    fun W ta ma tc mc T M b d b' d' hT hM hP h3 h4 => by
      have := gpay_any W ta ma S.length tc L.length mc T M nm b l.length d l p0 p1 p2 p3 hP.1 hP.2 h3 HN.out b' st.length d' st h4 (by omega)
      rwa [payR_copy hT.out hM.out, hEX] at this)
  clear hEX HSE
  have hF := Lib.hid (Sy.enter W3)
  clear hD
  go_upto_region 3 with fail
  refine wp_region_held_drew (S := (fun w' => w'.cell? ⟨b5, 0, none⟩ = some (.slice sa S.length sc) ∧ w'.cell? ⟨b5, 1, none⟩ = some (.slice wa L.length wk) ∧ w'.cell? ⟨b9, 0, none⟩ = some (.int .i64 p0) ∧ w'.cell? ⟨b9, 1, none⟩ = some (.int .i64 p1) ∧ w'.cell? ⟨b9, 2, none⟩ = some (.int .i64 p2) ∧ w'.cell? ⟨b9, 3, none⟩ = some (.int .i64 p3) ∧ True)) (by kernel_rfl) ⟨(HQ.out _ hF.out.drew.be).1, (HQ.out _ hF.out.drew.be).2.1, (HQ.out _ hF.out.drew.be).2.2.1, (HQ.out _ hF.out.drew.be).2.2.2.1, (HQ.out _ hF.out.drew.be).2.2.2.2.1, (HQ.out _ hF.out.drew.be).2.2.2.2.2, trivial⟩ (fun hH => ?_)
  refine wpAnyH_geny (show Sy W3 _ [] [] [] from hF.out.drew) hH ?_
  intro VA_0 hc hHA_0
  have hVA_0 := Lib.hid hc
  clear hc hH hF
  refine wpAnyH_take (i := 0) (oi := ⟨_, _, _, _, _, _⟩) (v := ?_) rfl (by kernel_rfl) (by kernel_rfl) (by kernel_rfl) (fun _ _ _ h => h) (Or.inl ⟨by rfl, ?_⟩) hHA_0 ?_
  rotate_left
  · intro wS hSw; (try dsimp only at hSw); go_simp; try with_reducible rfl
  try simp only [Act.put, List.setIfInBounds_toArray, List.set_cons_zero, List.set_cons_succ]
  refine wpAnyH_take (i := 2) (oi := ⟨_, _, _, _, _, _⟩) (v := ?_) rfl (by kernel_rfl) (by kernel_rfl) (by kernel_rfl) (fun _ _ _ h => h) (Or.inl ⟨by rfl, ?_⟩) hHA_0 ?_
  rotate_left
  · intro wS hSw; (try dsimp only at hSw); go_simp; try with_reducible rfl
  try simp only [Act.put, List.setIfInBounds_toArray, List.set_cons_zero, List.set_cons_succ]
  refine wpAnyH_take (i := 3) (oi := ⟨_, _, _, _, _, _⟩) (v := ?_) rfl (by kernel_rfl) (by kernel_rfl) (by kernel_rfl) (fun _ _ _ h => h) (Or.inl ⟨by rfl, ?_⟩) hHA_0 ?_
  rotate_left
  · intro wS hSw; (try dsimp only at hSw); go_simp; try with_reducible rfl
  try simp only [Act.put, List.setIfInBounds_toArray, List.set_cons_zero, List.set_cons_succ]
  refine wpAnyH_take (i := 5) (oi := ⟨_, _, _, _, _, _⟩) (v := ?_) rfl (by kernel_rfl) (by kernel_rfl) (by kernel_rfl) (fun _ _ _ h => h) (Or.inl ⟨by rfl, ?_⟩) hHA_0 ?_
  rotate_left
  · intro wS hSw; (try dsimp only at hSw); go_simp; try with_reducible rfl
  try simp only [Act.put, List.setIfInBounds_toArray, List.set_cons_zero, List.set_cons_succ]
  refine wpAnyH_take (i := 7) (oi := ⟨_, _, _, _, _, _⟩) (v := ?_) rfl (by kernel_rfl) (by kernel_rfl) (by kernel_rfl) (fun _ _ _ h => h) (Or.inl ⟨by rfl, ?_⟩) hHA_0 ?_
  rotate_left
  · intro wS hSw; (try dsimp only at hSw); go_simp; try with_reducible rfl
  try simp only [Act.put, List.setIfInBounds_toArray, List.set_cons_zero, List.set_cons_succ]
  refine wpAnyH_ready (rs := [1]) (by kernel_rfl) (by simp) ?_
  refine AllReadyH.cons (o := ⟨_, _, _, _, _, _⟩) rfl (fun Kq hKq => ?_) AllReadyH.nil
  go_simp
  go_at_call 8
  refine (HPL.out _ hVA_0.out.be).mono ?_
  rintro e wT ⟨a6, a7, c6, c7, T, M, hT, hM, rfl, hP, hb⟩
  (try go_wp2_with fail)
  refine stepY hKq (show Sy W3 _ [] [] [fun V => Shts V a6 S.length c6 T ∧ Wals V a7 L.length c7 M] from ((hVA_0.out.call hb).push (r := fun V => Shts V a6 S.length c6 T ∧ Wals V a7 L.length c7 M) (fun V hV => hP.out V (hVA_0.out.newer hV)))) (fun _ hX => ⟨(HQ.out _ hX.be).1, (HQ.out _ hX.be).2.1, (HQ.out _ hX.be).2.2.1, (HQ.out _ hX.be).2.2.2.1, (HQ.out _ hX.be).2.2.2.2.1, (HQ.out _ hX.be).2.2.2.2.2, trivial⟩) ?_
  intro VA_1 hc hHA_1
  have hVA_1 := Lib.hid hc
  clear hc hKq Kq hVA_0 hb hP hHA_0
  try simp only [Act.put, List.setIfInBounds_toArray, List.set_cons_zero, List.set_cons_succ]
  refine wpAnyH_ready (rs := [4]) (by kernel_rfl) (by simp) ?_
  refine AllReadyH.cons (o := ⟨_, _, _, _, _, _⟩) rfl (fun Kq hKq => ?_) AllReadyH.nil
  go_simp
  go_at_call 9
  refine (HCG.out _ hVA_1.out.be).mono ?_
  rintro e wT ⟨a8, c8, rfl, hr, hb⟩
  (try go_wp2_with fail)
  refine stepY hKq (show Sy W3 _ [] [⟨.slice a8 l.length c8, 57, 3, l.length, LW l⟩] [fun V => Shts V a6 S.length c6 T ∧ Wals V a7 L.length c7 M] from (hVA_1.out.adopt hb hr)) (fun _ hX => ⟨(HQ.out _ hX.be).1, (HQ.out _ hX.be).2.1, (HQ.out _ hX.be).2.2.1, (HQ.out _ hX.be).2.2.2.1, (HQ.out _ hX.be).2.2.2.2.1, (HQ.out _ hX.be).2.2.2.2.2, trivial⟩) ?_
  intro VA_2 hc hHA_2
  have hVA_2 := Lib.hid hc
  clear hc hKq Kq hVA_1 hb hr hHA_1
  try simp only [Act.put, List.setIfInBounds_toArray, List.set_cons_zero, List.set_cons_succ]
  refine wpAnyH_ready (rs := [6]) (by kernel_rfl) (by simp) ?_
  refine AllReadyH.cons (o := ⟨_, _, _, _, _, _⟩) rfl (fun Kq hKq => ?_) AllReadyH.nil
  go_simp
  go_at_call 10
  refine (HCS.out _ hVA_2.out.be).mono ?_
  rintro e wT ⟨a9, c9, rfl, hr, hb⟩
  (try go_wp2_with fail)
  refine stepY hKq (show Sy W3 _ [] [⟨.slice a8 l.length c8, 57, 3, l.length, LW l⟩, ⟨.slice a9 st.length c9, 59, 3, st.length, L3 st⟩] [fun V => Shts V a6 S.length c6 T ∧ Wals V a7 L.length c7 M] from (hVA_2.out.adopt hb hr)) (fun _ hX => ⟨(HQ.out _ hX.be).1, (HQ.out _ hX.be).2.1, (HQ.out _ hX.be).2.2.1, (HQ.out _ hX.be).2.2.2.1, (HQ.out _ hX.be).2.2.2.2.1, (HQ.out _ hX.be).2.2.2.2.2, trivial⟩) ?_
  intro VA_3 hc hHA_3
  have hVA_3 := Lib.hid hc
  clear hc hKq Kq hVA_2 hb hr hHA_2
  try simp only [Act.put, List.setIfInBounds_toArray, List.set_cons_zero, List.set_cons_succ]
  refine wpAnyH_ready (rs := [8]) (by kernel_rfl) (by simp) ?_
  refine AllReadyH.cons (o := ⟨_, _, _, _, _, _⟩) rfl (fun Kq hKq => ?_) AllReadyH.nil
  go_simp
  go_at_call 7
  refine (HPA.out _ _ _ _ _ _ _ _ _ _ _ hT hM (hVA_3.out.r 0 rfl) (hVA_3.out.osx 0 rfl) (hVA_3.out.osx 1 rfl)).mono ?_
  rintro e wT ⟨a10, c10, rfl, hX, hb⟩
  (try go_wp2_with fail)
  refine stepY hKq (show Sy W3 _ [] [] [fun V => Sx 1 V a10 X.length c10 (L1 X)] from ((((hVA_3.out.call hb).thin (os' := []) (List.Sublist.refl _) (List.nil_sublist _)).pick [] (rs' := []) rfl).push (r := fun V => Sx 1 V a10 X.length c10 (L1 X)) (fun V hV => (Sx.owns hX.out).away hV (fun _ _ _ => by simp [ownOf])))) (fun _ hX => ⟨(HQ.out _ hX.be).1, (HQ.out _ hX.be).2.1, (HQ.out _ hX.be).2.2.1, (HQ.out _ hX.be).2.2.2.1, (HQ.out _ hX.be).2.2.2.2.1, (HQ.out _ hX.be).2.2.2.2.2, trivial⟩) ?_
  intro VA_4 hc hHA_4
  have hVA_4 := Lib.hid hc
  clear hc hKq Kq hVA_3 hb hX hT hM hHA_3
  try simp only [Act.put, List.setIfInBounds_toArray, List.set_cons_zero, List.set_cons_succ]
  refine wpAnyH_take (i := 9) (oi := ⟨_, _, _, _, _, _⟩) (v := ?_) rfl (by kernel_rfl) (by kernel_rfl) (by kernel_rfl) (fun _ _ _ h => h) (Or.inl ⟨by rfl, ?_⟩) hHA_4 ?_
  rotate_left
  · intro wS hSw; (try dsimp only at hSw); go_simp; try with_reducible rfl
  try simp only [Act.put, List.setIfInBounds_toArray, List.set_cons_zero, List.set_cons_succ]
  refine wpAnyH_take (i := 10) (oi := ⟨_, _, _, _, _, _⟩) (v := ?_) rfl (by kernel_rfl) (by kernel_rfl) (by kernel_rfl) (fun _ _ _ h => h) (Or.inl ⟨by rfl, ?_⟩) hHA_4 ?_
  rotate_left
  · intro wS hSw; (try dsimp only at hSw); go_simp; try with_reducible rfl
  try simp only [Act.put, List.setIfInBounds_toArray, List.set_cons_zero, List.set_cons_succ]
  refine wpAnyH_take (i := 11) (oi := ⟨_, _, _, _, _, _⟩) (v := ?_) rfl (by kernel_rfl) (by kernel_rfl) (by kernel_rfl) (fun _ _ _ h => h) (Or.inl ⟨by rfl, ?_⟩) hHA_4 ?_
  rotate_left
  · intro wS hSw; (try dsimp only at hSw); go_simp; try with_reducible rfl
  try simp only [Act.put, List.setIfInBounds_toArray, List.set_cons_zero, List.set_cons_succ]
  refine wpAnyH_ready (rs := [12]) (by kernel_rfl) (by simp) ?_
  refine AllReadyH.cons (o := ⟨_, _, _, _, _, _⟩) rfl (fun Kq hKq => ?_) AllReadyH.nil
  go_simp
  refine stepY hKq (show Sy W3 _ [] [] [fun V => Sx 1 V a10 X.length c10 (L1 X)] from hVA_4.out) (fun _ hX => ⟨(HQ.out _ hX.be).1, (HQ.out _ hX.be).2.1, (HQ.out _ hX.be).2.2.1, (HQ.out _ hX.be).2.2.2.1, (HQ.out _ hX.be).2.2.2.2.1, (HQ.out _ hX.be).2.2.2.2.2, trivial⟩) ?_
  intro VA_5 hc hHA_5
  have hVA_5 := Lib.hid hc
  clear hc hKq Kq hVA_4 hHA_4
  try simp only [Act.put, List.setIfInBounds_toArray, List.set_cons_zero, List.set_cons_succ]
  refine wpAnyH_ready (rs := [13]) (by kernel_rfl) (by simp) ?_
  refine AllReadyH.cons (o := ⟨_, _, _, _, _, _⟩) rfl (fun Kq hKq => ?_) AllReadyH.nil
  go_simp
  refine stepY hKq (show Sy W3 _ [] [] [fun V => Sx 1 V a10 X.length c10 (L1 X)] from hVA_5.out) (fun _ hX => ⟨(HQ.out _ hX.be).1, (HQ.out _ hX.be).2.1, (HQ.out _ hX.be).2.2.1, (HQ.out _ hX.be).2.2.2.1, (HQ.out _ hX.be).2.2.2.2.1, (HQ.out _ hX.be).2.2.2.2.2, trivial⟩) ?_
  intro VA_6 hc hHA_6
  have hVA_6 := Lib.hid hc
  clear hc hKq Kq hVA_5 hHA_5
  try simp only [Act.put, List.setIfInBounds_toArray, List.set_cons_zero, List.set_cons_succ]
  refine wpAnyH_done (by kernel_rfl) ?_ _
  go_upto_region 5 with fail
  have HRG := Lib.hid (fun W (h : Below W3.heap.size W3 W) => refGang_any W a1 _ c1 l (HG.out W h) HN.out)
  have HRV := Lib.hid (fun W (h : Below W3.heap.size W3 W) => refValid_any W sa wa S.length sc L.length wk S L (HSS.out W h) (HLL.out W h))
  go_cut [51] (fun bv wx => bv = .bool (!(gangB l && planB S L)) ∧ Hid (Sy W3 wx [] [] [fun V => Sx 1 V a10 X.length c10 (L1 X)]))
  case first =>
    cases hg : gangB l
    · rw [hg] at HRG
      have HGF := Lib.hid hg
      clear hg
      go_wp2_with fail
      refine (HRG.out _ hVA_6.out.be).mono ?_
      rintro e V5 ⟨rfl, hb⟩
      have hE := Lib.hid (hVA_6.out.call hb)
      clear hb
      go_wp2
      go_meet
      exact ⟨by rw [HGF.out]; rfl, hE⟩
    · rw [hg] at HRG
      have HGF := Lib.hid hg
      clear hg
      go_wp2_with fail
      refine (HRG.out _ hVA_6.out.be).mono ?_
      rintro e V5 ⟨rfl, hb⟩
      have hE := Lib.hid (hVA_6.out.call hb)
      clear hb
      have z0 := (HQ.out _ hE.out.be).1
      have z1 := (HQ.out _ hE.out.be).2.1
      go_wp2_with fail
      refine (HRV.out _ hE.out.be).mono ?_
      rintro e V6 ⟨rfl, hb⟩
      have hE2 := Lib.hid (hE.out.call hb)
      clear hb z0 z1
      go_wp2
      go_meet
      exact ⟨by rw [HGF.out, Bool.true_and], hE2⟩
  case rest =>
    clear hVA_6 HRG HRV
    obtain ⟨rfl, hS⟩ := hcut
    obtain ⟨gp, hgp⟩ : ∃ gp, (gangB l && planB S L) = gp := ⟨_, rfl⟩
    have HGP := Lib.hid hgp
    rw [hgp]
    clear hgp
    go_upto_if 51 with fail
    go_cut [13] (fun wv wx => wv = .int .i64 (if gp = true then 0 else 2) ∧ Hid (Sy W3 wx [] [] [fun V => Sx 1 V a10 X.length c10 (L1 X)]))
    case first =>
      cases gp
      · go_wp2
        go_meet
        exact ⟨rfl, hS⟩
      · go_wp2
        go_meet
        exact ⟨rfl, hS⟩
    case rest =>
      clear hS
      obtain ⟨rfl, hS⟩ := hcut
      obtain ⟨wn0, hwn0⟩ : ∃ wn0 : Int, (if gp = true then 0 else 2) = wn0 := ⟨_, rfl⟩
      have HW0 := Lib.hid hwn0
      rw [hwn0]
      clear hwn0
      go_wp2
      go_loopw [14, 13] (fun iv wv wr => ∃ (k : Nat) (wn : Int), k ≤ 4 ∧ iv = .int .i64 k ∧ wv = .int .i64 wn ∧ Hid (wn = if (gp && ([p0, p1, p2, p3].take k).all fun p => inB p 0 1000000) = true then 0 else 2) ∧ Hid (Sy W3 wr [] [] [fun V => Sx 1 V a10 X.length c10 (L1 X)])) (fun iv _ _ => 4 - (intOf iv).toNat)
      case atStart => exact ⟨0, wn0, Nat.zero_le _, rfl, rfl, Lib.hid (by rw [List.take_zero, List.all_nil, Bool.and_true]; exact HW0.out.symm), hS⟩
      case round =>
        clear hS
        obtain ⟨k, wn, hk, rfl, rfl, HWN, hS⟩ := hrel
        by_cases hlt : k < 4
        · obtain ⟨x, hx, ht⟩ := pr_at p0 p1 p2 p3 hlt
          have HTK := Lib.hid ht
          have i0 : (0 : Int) ≤ (k : Int) := by omega
          have i1 : (k : Int) < 4 := by omega
          have y0 : wr.cell? ⟨b9, k, none⟩ = some (.int .i64 x) := by
            have h := HQ.out _ hS.out.be
            obtain rfl | rfl | rfl | rfl : k = 0 ∨ k = 1 ∨ k = 2 ∨ k = 3 := by omega
            · cases hx; exact h.2.2.1
            · cases hx; exact h.2.2.2.1
            · cases hx; exact h.2.2.2.2.1
            · cases hx; exact h.2.2.2.2.2
          have HIA := Lib.hid (fun W => In_any x 0 1000000 W)
          clear hx ht
          cases hin : inB x 0 1000000
          · rw [hin] at HIA HTK
            clear hin
            go_wp2_with ((with_reducible refine (HIA.out _).mono ?_); rintro e w1 ⟨rfl, rfl⟩)
            go_roundw
            case rel => exact ⟨k + 1, 2, by omega, by go_num, rfl, Lib.hid (by rw [HTK.out, Bool.and_false, Bool.and_false]; rfl), hS⟩
            case measure => simp [intOf]; omega
          · rw [hin] at HIA HTK
            clear hin
            go_wp2_with ((with_reducible refine (HIA.out _).mono ?_); rintro e w1 ⟨rfl, rfl⟩)
            go_roundw
            case rel => exact ⟨k + 1, wn, by omega, by go_num, rfl, Lib.hid (by rw [HTK.out, Bool.and_true]; exact HWN.out), hS⟩
            case measure => simp [intOf]; omega
        · obtain rfl : k = 4 := by omega
          have HWB := Lib.hid (show wn = if (gangB l && planB S L && priceB [p0, p1, p2, p3]) = true then 0 else 2 from by rw [HWN.out, HGP.out]; rfl)
          clear HWN HW0 hlt hk
          cases hbig : (gangB l && planB S L && priceB [p0, p1, p2, p3])
          · rw [hbig] at HWB
            obtain rfl : wn = 2 := HWB.out
            have hE := HEX.out
            rw [payR_bad hbig] at hE
            cases hE
            clear HWB HGP HEX HPA hbig
            go_wp2_with fail
            refine (HW.out _).mono ?_
            rintro e VZ ⟨rfl, hb⟩
            have hZ := Lib.hid (hS.out.call hb)
            clear hb
            go_wp2
            go_ret
            exact ⟨rfl, HB.out.trans (hZ.out.be.mono HB.out.size)⟩
          · rw [hbig] at HWB
            obtain rfl : wn = 0 := HWB.out
            clear HWB
            have HBIG := Lib.hid hbig
            clear hbig
            have HFW := Lib.hid (fun W (h : Below W3.heap.size W3 W) => refFindWall_any W wa L.length wk L (.slice sa S.length sc) nm (HLL.out W h).row)
            have z0 := (HQ.out _ hS.out.be).1
            have z1 := (HQ.out _ hS.out.be).2.1
            rcases find_idx (p := isW nm) (l := L) with ⟨h1, h2⟩ | ⟨k, hk, h1, h2, -⟩
            · rw [h1] at HFW
              have hE := HEX.out
              rw [payR_name HBIG.out h2] at hE
              cases hE
              clear HEX HPA h1 h2 HGP
              go_wp2_with fail
              refine (HFW.out _ hS.out.be).mono ?_
              rintro e V5 ⟨rfl, hb⟩
              have hE := Lib.hid (hS.out.call hb)
              clear hb hS z0 z1
              go_wp2_with fail
              refine (HW.out _).mono ?_
              rintro e VZ ⟨rfl, hb⟩
              have hZ := Lib.hid (hE.out.call hb)
              clear hb
              go_wp2
              go_ret
              exact ⟨rfl, HB.out.trans (hZ.out.be.mono HB.out.size)⟩
            · rw [h1] at HFW
              have hparts := HBIG.out
              simp only [Bool.and_eq_true] at hparts
              obtain ⟨⟨hg, hp⟩, hpr⟩ := hparts
              obtain ⟨s', -, hs', hwb'⟩ := plan_wall hk hp
              rcases find_idx (p := isS L[k].sheet) (l := S) with ⟨-, hn2⟩ | ⟨k2, hk2, hi2, hf2, -⟩
              · rw [hs'] at hn2; cases hn2
              rw [hf2] at hs'
              cases hs'
              have hE := HEX.out
              rw [payR_found HBIG.out h2 hf2] at hE
              have hWB := wall_ops hwb'
              have hRD := sheet_rood (plan_sheet hp (List.getElem_mem hk2))
              have HRP := Lib.hid (fun W (h : Below W3.heap.size W3 W) => refPay_any W L[k] S[k2] ((HLL.out W h).opn _ (List.getElem_mem hk)) a1 _ c1 l (HG.out W h) hg a2 _ c2 st (HT.out W h) (by omega) p0 p1 p2 p3 hpr hWB hRD)
              have HFS := Lib.hid (fun W (h : Below W3.heap.size W3 W) => refFindSheet_any W sa S.length sc S (.slice wa L.length wk) L[k].sheet (HSS.out W h).row)
              rw [hi2] at HFS
              obtain ⟨g1', o1, rfl⟩ := HL.out.row.addr (by omega)
              obtain ⟨g0, o0, rfl⟩ := HS.out.row.addr (by omega)
              have HRW := Lib.hid (fun W (hW : Below W3.heap.size W3 W) => (HLL.out W hW).row.range (f := cWa) (fun _ => rfl) hk)
              have HRS := Lib.hid (fun W (hW : Below W3.heap.size W3 W) => (HSS.out W hW).row.range (f := cS) (fun _ => rfl) hk2)
              have HSN := Lib.hid (fun W (hW : Below W3.heap.size W3 W) => ((HLL.out W hW).row.atWa hk).2.1)
              have i0 : (0 : Int) ≤ (k : Int) := by omega
              have i1 : (k : Int) < (L.length : Int) := by omega
              have e0 : (0 : Int) ≤ (k2 : Int) := by omega
              have e1 : (k2 : Int) < (S.length : Int) := by omega
              have e2 : decide ((k : Int) < 0) = false := decide_eq_false (by omega)
              have e3 : ¬ (k : Int) < 0 := by omega
              clear h1 h2 hi2 hf2 hwb' hWB hRD hg hp hpr HPA HEX HGP HBIG
              generalize L[k] = x at *
              generalize S[k2] = s at *
              obtain ⟨VW, hVW⟩ : ∃ V, aW x = V := ⟨_, rfl⟩
              have HVW := Lib.hid (show Value.agg (cWa x).toArray = VW from hVW)
              obtain ⟨VS, hVS⟩ : ∃ V, aS s = V := ⟨_, rfl⟩
              have HVS := Lib.hid (show Value.agg (cS s).toArray = VS from hVS)
              rw [hVW, hVS] at HRP
              clear hVW hVS
              obtain ⟨ok, hok⟩ : ∃ ok, payOk l.length x.len 0 st = ok := ⟨_, rfl⟩
              obtain ⟨Y, hY⟩ : ∃ Y, st.map (payS l s.rood x.ops [p0, p1, p2, p3]) = Y := ⟨_, rfl⟩
              rw [hok, hY] at hE HRP
              clear hok hY
              go_wp2_with fail
              refine (HFW.out _ hS.out.be).mono ?_
              rintro e V5 ⟨rfl, hb⟩
              have hE3 := Lib.hid (hS.out.call hb)
              clear hb hS z0 z1 HFW
              go_upto_region 19 with fail
              cases ok
              · cases hE
                have HRN := Lib.hid (show ∀ W, Below W3.heap.size W3 W → Calls Tryz.prog 15 #[VW, VS, .slice a1 l.length c1, .slice a2 st.length c2, .agg #[.int .i64 p0, .int .i64 p1, .int .i64 p2, .int .i64 p3]] W (Gives (.tuple #[.slice none 0 0, .bool false]) W) from fun W h => (HRP.out W h).mono fun e w' hq => by
                  rcases hq with ⟨-, h1, h2⟩ | ⟨h1, -⟩
                  · exact ⟨h1, h2⟩
                  · cases h1)
                clear HRP
                refine wp_region_held_drew (S := (fun w' => w'.cell? ⟨b5, 0, none⟩ = some (.slice (some ⟨g0, o0, none⟩) S.length sc) ∧ w'.cell? ⟨b5, 1, none⟩ = some (.slice (some ⟨g1', o1, none⟩) L.length wk) ∧ w'.cell? ⟨b9, 0, none⟩ = some (.int .i64 p0) ∧ w'.cell? ⟨b9, 1, none⟩ = some (.int .i64 p1) ∧ w'.cell? ⟨b9, 2, none⟩ = some (.int .i64 p2) ∧ w'.cell? ⟨b9, 3, none⟩ = some (.int .i64 p3) ∧ w'.rangeAt g1' (o1 + k * 4) (cWa x) ∧ w'.rangeAt g0 (o0 + k2 * 20) (cS s) ∧ w'.cell? ⟨g1', o1 + k * 4 + 1, none⟩ = some (.string x.sheet) ∧ True)) (by kernel_rfl) ⟨(HQ.out _ hE3.out.drew.be).1, (HQ.out _ hE3.out.drew.be).2.1, (HQ.out _ hE3.out.drew.be).2.2.1, (HQ.out _ hE3.out.drew.be).2.2.2.1, (HQ.out _ hE3.out.drew.be).2.2.2.2.1, (HQ.out _ hE3.out.drew.be).2.2.2.2.2, (HRW.out _ hE3.out.drew.be), (HRS.out _ hE3.out.drew.be), (HSN.out _ hE3.out.drew.be), trivial⟩ (fun hH => ?_)
                refine wpAnyH_geny (show Sy W3 _ [] [] [fun V => Sx 1 V a10 ([] : List Int).length c10 (L1 [])] from hE3.out.drew) hH ?_
                intro VN_0 hc hHN_0
                have hVN_0 := Lib.hid hc
                clear hc hH hE3
                refine wpAnyH_take (i := 0) (oi := ⟨_, _, _, _, _, _⟩) (v := ?_) rfl (by kernel_rfl) (by kernel_rfl) (by kernel_rfl) (fun _ _ _ h => h) (Or.inl ⟨by rfl, ?_⟩) hHN_0 ?_
                rotate_left
                · intro wS hSw; (try dsimp only at hSw); go_simp; try with_reducible rfl
                try simp only [Act.put, List.setIfInBounds_toArray, List.set_cons_zero, List.set_cons_succ]
                refine wpAnyH_take (i := 1) (oi := ⟨_, _, _, _, _, _⟩) (v := ?_) rfl (by kernel_rfl) (by kernel_rfl) (by kernel_rfl) (fun _ _ _ h => h) (Or.inl ⟨by rfl, ?_⟩) hHN_0 ?_
                rotate_left
                · intro wS hSw; (try dsimp only at hSw); go_simp; try with_reducible rfl
                try simp only [Act.put, List.setIfInBounds_toArray, List.set_cons_zero, List.set_cons_succ]
                refine wpAnyH_take (i := 2) (oi := ⟨_, _, _, _, _, _⟩) (v := ?_) rfl (by kernel_rfl) (by kernel_rfl) (by kernel_rfl) (fun _ _ _ h => h) (Or.inl ⟨by rfl, ?_⟩) hHN_0 ?_
                rotate_left
                · intro wS hSw; (try dsimp only at hSw); go_simp; try with_reducible rfl
                try simp only [Act.put, List.setIfInBounds_toArray, List.set_cons_zero, List.set_cons_succ]
                refine wpAnyH_take (i := 3) (oi := ⟨_, _, _, _, _, _⟩) (v := ?_) rfl (by kernel_rfl) (by kernel_rfl) (by kernel_rfl) (fun _ _ _ h => h) (Or.inl ⟨by rfl, ?_⟩) hHN_0 ?_
                rotate_left
                · intro wS hSw; (try dsimp only at hSw); go_simp; try with_reducible rfl
                try simp only [Act.put, List.setIfInBounds_toArray, List.set_cons_zero, List.set_cons_succ]
                refine wpAnyH_take (i := 4) (oi := ⟨_, _, _, _, _, _⟩) (v := VW) rfl (by kernel_rfl) (by kernel_rfl) (by kernel_rfl) (fun _ _ _ h => h) (yieldsIf_ld (by rfl) _ _ rfl g1' (o1 + k * 4) rfl (cWa x) _ (fun _ h => h.2.2.2.2.2.2.1) Tryz.underlying51 rfl info_RWall VW HVW.out) hHN_0 ?_
                try simp only [Act.put, List.setIfInBounds_toArray, List.set_cons_zero, List.set_cons_succ]
                refine wpAnyH_take (i := 5) (oi := ⟨_, _, _, _, _, _⟩) (v := ?_) rfl (by kernel_rfl) (by kernel_rfl) (by kernel_rfl) (fun _ _ _ h => h) (Or.inl ⟨by rfl, ?_⟩) hHN_0 ?_
                rotate_left
                · intro wS hSw; (try dsimp only at hSw); go_simp; try with_reducible rfl
                try simp only [Act.put, List.setIfInBounds_toArray, List.set_cons_zero, List.set_cons_succ]
                refine wpAnyH_take (i := 6) (oi := ⟨_, _, _, _, _, _⟩) (v := ?_) rfl (by kernel_rfl) (by kernel_rfl) (by kernel_rfl) (fun _ _ _ h => h) (Or.inl ⟨by rfl, ?_⟩) hHN_0 ?_
                rotate_left
                · intro wS hSw; (try dsimp only at hSw); go_simp; try with_reducible rfl
                try simp only [Act.put, List.setIfInBounds_toArray, List.set_cons_zero, List.set_cons_succ]
                refine wpAnyH_take (i := 7) (oi := ⟨_, _, _, _, _, _⟩) (v := ?_) rfl (by kernel_rfl) (by kernel_rfl) (by kernel_rfl) (fun _ _ _ h => h) (Or.inl ⟨by rfl, ?_⟩) hHN_0 ?_
                rotate_left
                · intro wS hSw; (try dsimp only at hSw); go_simp; try with_reducible rfl
                try simp only [Act.put, List.setIfInBounds_toArray, List.set_cons_zero, List.set_cons_succ]
                refine wpAnyH_take (i := 8) (oi := ⟨_, _, _, _, _, _⟩) (v := ?_) rfl (by kernel_rfl) (by kernel_rfl) (by kernel_rfl) (fun _ _ _ h => h) (Or.inl ⟨by rfl, ?_⟩) hHN_0 ?_
                rotate_left
                · intro wS hSw; (try dsimp only at hSw); go_simp; try with_reducible rfl
                try simp only [Act.put, List.setIfInBounds_toArray, List.set_cons_zero, List.set_cons_succ]
                refine wpAnyH_take (i := 9) (oi := ⟨_, _, _, _, _, _⟩) (v := ?_) rfl (by kernel_rfl) (by kernel_rfl) (by kernel_rfl) (fun _ _ _ h => h) (Or.inl ⟨by rfl, ?_⟩) hHN_0 ?_
                rotate_left
                · intro wS hSw; (try dsimp only at hSw); go_simp; try with_reducible rfl
                try simp only [Act.put, List.setIfInBounds_toArray, List.set_cons_zero, List.set_cons_succ]
                refine wpAnyH_take (i := 10) (oi := ⟨_, _, _, _, _, _⟩) (v := ?_) rfl (by kernel_rfl) (by kernel_rfl) (by kernel_rfl) (fun _ _ _ h => h) (Or.inl ⟨by rfl, ?_⟩) hHN_0 ?_
                rotate_left
                · intro wS hSw; (try dsimp only at hSw); go_simp; try with_reducible rfl
                try simp only [Act.put, List.setIfInBounds_toArray, List.set_cons_zero, List.set_cons_succ]
                refine wpAnyH_take (i := 11) (oi := ⟨_, _, _, _, _, _⟩) (v := ?_) rfl (by kernel_rfl) (by kernel_rfl) (by kernel_rfl) (fun _ _ _ h => h) (Or.inl ⟨by rfl, ?_⟩) hHN_0 ?_
                rotate_left
                · intro wS hSw; (try dsimp only at hSw); go_simp; try with_reducible rfl
                try simp only [Act.put, List.setIfInBounds_toArray, List.set_cons_zero, List.set_cons_succ]
                refine wpAnyH_take (i := 12) (oi := ⟨_, _, _, _, _, _⟩) (v := ?_) rfl (by kernel_rfl) (by kernel_rfl) (by kernel_rfl) (fun _ _ _ h => h) (Or.inl ⟨by rfl, ?_⟩) hHN_0 ?_
                rotate_left
                · intro wS hSw; (try dsimp only at hSw); go_simp; try with_reducible rfl
                try simp only [Act.put, List.setIfInBounds_toArray, List.set_cons_zero, List.set_cons_succ]
                refine wpAnyH_take (i := 13) (oi := ⟨_, _, _, _, _, _⟩) (v := ?_) rfl (by kernel_rfl) (by kernel_rfl) (by kernel_rfl) (fun _ _ _ h => h) (Or.inl ⟨by rfl, ?_⟩) hHN_0 ?_
                rotate_left
                · intro wS hSw; (try dsimp only at hSw); go_simp; try with_reducible rfl
                try simp only [Act.put, List.setIfInBounds_toArray, List.set_cons_zero, List.set_cons_succ]
                refine wpAnyH_take (i := 17) (oi := ⟨_, _, _, _, _, _⟩) (v := ?_) rfl (by kernel_rfl) (by kernel_rfl) (by kernel_rfl) (fun _ _ _ h => h) (Or.inl ⟨by rfl, ?_⟩) hHN_0 ?_
                rotate_left
                · intro wS hSw; (try dsimp only at hSw); go_simp; try with_reducible rfl
                try simp only [Act.put, List.setIfInBounds_toArray, List.set_cons_zero, List.set_cons_succ]
                refine wpAnyH_take (i := 18) (oi := ⟨_, _, _, _, _, _⟩) (v := ?_) rfl (by kernel_rfl) (by kernel_rfl) (by kernel_rfl) (fun _ _ _ h => h) (Or.inl ⟨by rfl, ?_⟩) hHN_0 ?_
                rotate_left
                · intro wS hSw; (try dsimp only at hSw); go_simp; try with_reducible rfl
                try simp only [Act.put, List.setIfInBounds_toArray, List.set_cons_zero, List.set_cons_succ]
                refine wpAnyH_take (i := 19) (oi := ⟨_, _, _, _, _, _⟩) (v := ?_) rfl (by kernel_rfl) (by kernel_rfl) (by kernel_rfl) (fun _ _ _ h => h) (Or.inl ⟨by rfl, ?_⟩) hHN_0 ?_
                rotate_left
                · intro wS hSw; (try dsimp only at hSw); go_simp; try with_reducible rfl
                try simp only [Act.put, List.setIfInBounds_toArray, List.set_cons_zero, List.set_cons_succ]
                refine wpAnyH_ready (rs := [14]) (by kernel_rfl) (by simp) ?_
                refine AllReadyH.cons (o := ⟨_, _, _, _, _, _⟩) rfl (fun Kq hKq => ?_) AllReadyH.nil
                go_simp
                go_at_call 16
                refine (HFS.out _ hVN_0.out.be).mono ?_
                rintro e wT ⟨rfl, hb⟩
                (try go_wp2_with fail)
                refine stepY hKq (show Sy W3 _ [] [] [fun V => Sx 1 V a10 ([] : List Int).length c10 (L1 [])] from (hVN_0.out.call hb)) (fun _ hX => ⟨(HQ.out _ hX.be).1, (HQ.out _ hX.be).2.1, (HQ.out _ hX.be).2.2.1, (HQ.out _ hX.be).2.2.2.1, (HQ.out _ hX.be).2.2.2.2.1, (HQ.out _ hX.be).2.2.2.2.2, (HRW.out _ hX.be), (HRS.out _ hX.be), (HSN.out _ hX.be), trivial⟩) ?_
                intro VN_1 hc hHN_1
                have hVN_1 := Lib.hid hc
                clear hc hKq Kq hVN_0 hb hHN_0
                try simp only [Act.put, List.setIfInBounds_toArray, List.set_cons_zero, List.set_cons_succ]
                refine wpAnyH_take (i := 15) (oi := ⟨_, _, _, _, _, _⟩) (v := ?_) rfl (by kernel_rfl) (by kernel_rfl) (by kernel_rfl) (fun _ _ _ h => h) (Or.inl ⟨by rfl, ?_⟩) hHN_1 ?_
                rotate_left
                · intro wS hSw; (try dsimp only at hSw); go_simp; try with_reducible rfl
                try simp only [Act.put, List.setIfInBounds_toArray, List.set_cons_zero, List.set_cons_succ]
                refine wpAnyH_take (i := 16) (oi := ⟨_, _, _, _, _, _⟩) (v := VS) rfl (by kernel_rfl) (by kernel_rfl) (by kernel_rfl) (fun _ _ _ h => h) (yieldsIf_ld (by rfl) _ _ rfl g0 (o0 + k2 * 20) rfl (cS s) _ (fun _ h => h.2.2.2.2.2.2.2.1) Tryz.underlying53 rfl info_RSheet VS HVS.out) hHN_1 ?_
                try simp only [Act.put, List.setIfInBounds_toArray, List.set_cons_zero, List.set_cons_succ]
                refine wpAnyH_ready (rs := [20]) (by kernel_rfl) (by simp) ?_
                refine AllReadyH.cons (o := ⟨_, _, _, _, _, _⟩) rfl (fun Kq hKq => ?_) AllReadyH.nil
                go_simp
                go_at_call 15
                refine (HRN.out _ hVN_1.out.be).mono ?_
                rintro e wT ⟨rfl, hb⟩
                (try go_wp2_with fail)
                refine stepY hKq (show Sy W3 _ [] [] [fun V => Sx 1 V a10 ([] : List Int).length c10 (L1 [])] from (hVN_1.out.call hb)) (fun _ hX => ⟨(HQ.out _ hX.be).1, (HQ.out _ hX.be).2.1, (HQ.out _ hX.be).2.2.1, (HQ.out _ hX.be).2.2.2.1, (HQ.out _ hX.be).2.2.2.2.1, (HQ.out _ hX.be).2.2.2.2.2, (HRW.out _ hX.be), (HRS.out _ hX.be), (HSN.out _ hX.be), trivial⟩) ?_
                intro VN_2 hc hHN_2
                have hVN_2 := Lib.hid hc
                clear hc hKq Kq hVN_1 hb hHN_1
                try simp only [Act.put, List.setIfInBounds_toArray, List.set_cons_zero, List.set_cons_succ]
                refine wpAnyH_take (i := 21) (oi := ⟨_, _, _, _, _, _⟩) (v := ?_) rfl (by kernel_rfl) (by kernel_rfl) (by kernel_rfl) (fun _ _ _ h => h) (Or.inl ⟨by rfl, ?_⟩) hHN_2 ?_
                rotate_left
                · intro wS hSw; (try dsimp only at hSw); go_simp; try with_reducible rfl
                try simp only [Act.put, List.setIfInBounds_toArray, List.set_cons_zero, List.set_cons_succ]
                refine wpAnyH_take (i := 22) (oi := ⟨_, _, _, _, _, _⟩) (v := ?_) rfl (by kernel_rfl) (by kernel_rfl) (by kernel_rfl) (fun _ _ _ h => h) (Or.inl ⟨by rfl, ?_⟩) hHN_2 ?_
                rotate_left
                · intro wS hSw; (try dsimp only at hSw); go_simp; try with_reducible rfl
                try simp only [Act.put, List.setIfInBounds_toArray, List.set_cons_zero, List.set_cons_succ]
                refine wpAnyH_take (i := 23) (oi := ⟨_, _, _, _, _, _⟩) (v := ?_) rfl (by kernel_rfl) (by kernel_rfl) (by kernel_rfl) (fun _ _ _ h => h) (Or.inl ⟨by rfl, ?_⟩) hHN_2 ?_
                rotate_left
                · intro wS hSw; (try dsimp only at hSw); go_simp; try with_reducible rfl
                try simp only [Act.put, List.setIfInBounds_toArray, List.set_cons_zero, List.set_cons_succ]
                refine wpAnyH_ready (rs := [24]) (by kernel_rfl) (by simp) ?_
                refine AllReadyH.cons (o := ⟨_, _, _, _, _, _⟩) rfl (fun Kq hKq => ?_) AllReadyH.nil
                go_simp
                refine stepY hKq (show Sy W3 _ [] [] [fun V => Sx 1 V a10 ([] : List Int).length c10 (L1 [])] from hVN_2.out) (fun _ hX => ⟨(HQ.out _ hX.be).1, (HQ.out _ hX.be).2.1, (HQ.out _ hX.be).2.2.1, (HQ.out _ hX.be).2.2.2.1, (HQ.out _ hX.be).2.2.2.2.1, (HQ.out _ hX.be).2.2.2.2.2, (HRW.out _ hX.be), (HRS.out _ hX.be), (HSN.out _ hX.be), trivial⟩) ?_
                intro VN_3 hc hHN_3
                have hVN_3 := Lib.hid hc
                clear hc hKq Kq hVN_2 hHN_2
                try simp only [Act.put, List.setIfInBounds_toArray, List.set_cons_zero, List.set_cons_succ]
                refine wpAnyH_ready (rs := [25]) (by kernel_rfl) (by simp) ?_
                refine AllReadyH.cons (o := ⟨_, _, _, _, _, _⟩) rfl (fun Kq hKq => ?_) AllReadyH.nil
                go_simp
                refine stepY hKq (show Sy W3 _ [] [] [fun V => Sx 1 V a10 ([] : List Int).length c10 (L1 [])] from hVN_3.out) (fun _ hX => ⟨(HQ.out _ hX.be).1, (HQ.out _ hX.be).2.1, (HQ.out _ hX.be).2.2.1, (HQ.out _ hX.be).2.2.2.1, (HQ.out _ hX.be).2.2.2.2.1, (HQ.out _ hX.be).2.2.2.2.2, (HRW.out _ hX.be), (HRS.out _ hX.be), (HSN.out _ hX.be), trivial⟩) ?_
                intro VN_4 hc hHN_4
                have hVN_4 := Lib.hid hc
                clear hc hKq Kq hVN_3 hHN_3
                try simp only [Act.put, List.setIfInBounds_toArray, List.set_cons_zero, List.set_cons_succ]
                refine wpAnyH_done (by kernel_rfl) ?_ _
                go_wp2_with fail
                refine (HW.out _).mono ?_
                rintro e VZ ⟨rfl, hb⟩
                have hZ := Lib.hid (hVN_4.out.call hb)
                clear hb
                go_wp2
                go_ret
                exact ⟨rfl, HB.out.trans (hZ.out.be.mono HB.out.size)⟩
              · obtain ⟨rfl, rfl⟩ : 0 = E ∧ Y = X := by
                  rw [if_pos rfl] at hE
                  exact ⟨congrArg Prod.fst hE, congrArg Prod.snd hE⟩
                clear hE
                have HRY := Lib.hid (show ∀ W, Below W3.heap.size W3 W → Calls Tryz.prog 15 #[VW, VS, .slice a1 l.length c1, .slice a2 st.length c2, .agg #[.int .i64 p0, .int .i64 p1, .int .i64 p2, .int .i64 p3]] W (fun e w' => ∃ a c, e = .returned (.tuple #[.slice a Y.length c, .bool true]) ∧ Hid (Sx 1 w' a Y.length c (L1 Y)) ∧ Below W.heap.size W w') from fun W h => (HRP.out W h).mono fun e w' hq => by
                  rcases hq with ⟨h1, -⟩ | ⟨-, a, c, h1, h2, h3⟩
                  · cases h1
                  · exact ⟨a, c, h1, Lib.hid h2, h3⟩)
                have HIT := Lib.hid (show ∀ W a c a' c', Sx 1 W a Y.length c (L1 Y) → Sx 1 W a' Y.length c' (L1 Y) → Calls Tryz.prog 17 #[.slice a Y.length c, .slice a' Y.length c'] W (Gives (.bool true) W) from fun W a c a' c' h1 h2 => by
                  have := ints_any a a' _ c _ c' Y Y W h1 h2
                  rwa [decide_eq_true rfl] at this)
                clear HRP
                refine wp_region_held_drew (S := (fun w' => w'.cell? ⟨b5, 0, none⟩ = some (.slice (some ⟨g0, o0, none⟩) S.length sc) ∧ w'.cell? ⟨b5, 1, none⟩ = some (.slice (some ⟨g1', o1, none⟩) L.length wk) ∧ w'.cell? ⟨b9, 0, none⟩ = some (.int .i64 p0) ∧ w'.cell? ⟨b9, 1, none⟩ = some (.int .i64 p1) ∧ w'.cell? ⟨b9, 2, none⟩ = some (.int .i64 p2) ∧ w'.cell? ⟨b9, 3, none⟩ = some (.int .i64 p3) ∧ w'.rangeAt g1' (o1 + k * 4) (cWa x) ∧ w'.rangeAt g0 (o0 + k2 * 20) (cS s) ∧ w'.cell? ⟨g1', o1 + k * 4 + 1, none⟩ = some (.string x.sheet) ∧ True)) (by kernel_rfl) ⟨(HQ.out _ hE3.out.drew.be).1, (HQ.out _ hE3.out.drew.be).2.1, (HQ.out _ hE3.out.drew.be).2.2.1, (HQ.out _ hE3.out.drew.be).2.2.2.1, (HQ.out _ hE3.out.drew.be).2.2.2.2.1, (HQ.out _ hE3.out.drew.be).2.2.2.2.2, (HRW.out _ hE3.out.drew.be), (HRS.out _ hE3.out.drew.be), (HSN.out _ hE3.out.drew.be), trivial⟩ (fun hH => ?_)
                refine wpAnyH_geny (show Sy W3 _ [] [] [fun V => Sx 1 V a10 Y.length c10 (L1 Y)] from hE3.out.drew) hH ?_
                intro VY_0 hc hHY_0
                have hVY_0 := Lib.hid hc
                clear hc hH hE3
                refine wpAnyH_take (i := 0) (oi := ⟨_, _, _, _, _, _⟩) (v := ?_) rfl (by kernel_rfl) (by kernel_rfl) (by kernel_rfl) (fun _ _ _ h => h) (Or.inl ⟨by rfl, ?_⟩) hHY_0 ?_
                rotate_left
                · intro wS hSw; (try dsimp only at hSw); go_simp; try with_reducible rfl
                try simp only [Act.put, List.setIfInBounds_toArray, List.set_cons_zero, List.set_cons_succ]
                refine wpAnyH_take (i := 1) (oi := ⟨_, _, _, _, _, _⟩) (v := ?_) rfl (by kernel_rfl) (by kernel_rfl) (by kernel_rfl) (fun _ _ _ h => h) (Or.inl ⟨by rfl, ?_⟩) hHY_0 ?_
                rotate_left
                · intro wS hSw; (try dsimp only at hSw); go_simp; try with_reducible rfl
                try simp only [Act.put, List.setIfInBounds_toArray, List.set_cons_zero, List.set_cons_succ]
                refine wpAnyH_take (i := 2) (oi := ⟨_, _, _, _, _, _⟩) (v := ?_) rfl (by kernel_rfl) (by kernel_rfl) (by kernel_rfl) (fun _ _ _ h => h) (Or.inl ⟨by rfl, ?_⟩) hHY_0 ?_
                rotate_left
                · intro wS hSw; (try dsimp only at hSw); go_simp; try with_reducible rfl
                try simp only [Act.put, List.setIfInBounds_toArray, List.set_cons_zero, List.set_cons_succ]
                refine wpAnyH_take (i := 3) (oi := ⟨_, _, _, _, _, _⟩) (v := ?_) rfl (by kernel_rfl) (by kernel_rfl) (by kernel_rfl) (fun _ _ _ h => h) (Or.inl ⟨by rfl, ?_⟩) hHY_0 ?_
                rotate_left
                · intro wS hSw; (try dsimp only at hSw); go_simp; try with_reducible rfl
                try simp only [Act.put, List.setIfInBounds_toArray, List.set_cons_zero, List.set_cons_succ]
                refine wpAnyH_take (i := 4) (oi := ⟨_, _, _, _, _, _⟩) (v := VW) rfl (by kernel_rfl) (by kernel_rfl) (by kernel_rfl) (fun _ _ _ h => h) (yieldsIf_ld (by rfl) _ _ rfl g1' (o1 + k * 4) rfl (cWa x) _ (fun _ h => h.2.2.2.2.2.2.1) Tryz.underlying51 rfl info_RWall VW HVW.out) hHY_0 ?_
                try simp only [Act.put, List.setIfInBounds_toArray, List.set_cons_zero, List.set_cons_succ]
                refine wpAnyH_take (i := 5) (oi := ⟨_, _, _, _, _, _⟩) (v := ?_) rfl (by kernel_rfl) (by kernel_rfl) (by kernel_rfl) (fun _ _ _ h => h) (Or.inl ⟨by rfl, ?_⟩) hHY_0 ?_
                rotate_left
                · intro wS hSw; (try dsimp only at hSw); go_simp; try with_reducible rfl
                try simp only [Act.put, List.setIfInBounds_toArray, List.set_cons_zero, List.set_cons_succ]
                refine wpAnyH_take (i := 6) (oi := ⟨_, _, _, _, _, _⟩) (v := ?_) rfl (by kernel_rfl) (by kernel_rfl) (by kernel_rfl) (fun _ _ _ h => h) (Or.inl ⟨by rfl, ?_⟩) hHY_0 ?_
                rotate_left
                · intro wS hSw; (try dsimp only at hSw); go_simp; try with_reducible rfl
                try simp only [Act.put, List.setIfInBounds_toArray, List.set_cons_zero, List.set_cons_succ]
                refine wpAnyH_take (i := 7) (oi := ⟨_, _, _, _, _, _⟩) (v := ?_) rfl (by kernel_rfl) (by kernel_rfl) (by kernel_rfl) (fun _ _ _ h => h) (Or.inl ⟨by rfl, ?_⟩) hHY_0 ?_
                rotate_left
                · intro wS hSw; (try dsimp only at hSw); go_simp; try with_reducible rfl
                try simp only [Act.put, List.setIfInBounds_toArray, List.set_cons_zero, List.set_cons_succ]
                refine wpAnyH_take (i := 8) (oi := ⟨_, _, _, _, _, _⟩) (v := ?_) rfl (by kernel_rfl) (by kernel_rfl) (by kernel_rfl) (fun _ _ _ h => h) (Or.inl ⟨by rfl, ?_⟩) hHY_0 ?_
                rotate_left
                · intro wS hSw; (try dsimp only at hSw); go_simp; try with_reducible rfl
                try simp only [Act.put, List.setIfInBounds_toArray, List.set_cons_zero, List.set_cons_succ]
                refine wpAnyH_take (i := 9) (oi := ⟨_, _, _, _, _, _⟩) (v := ?_) rfl (by kernel_rfl) (by kernel_rfl) (by kernel_rfl) (fun _ _ _ h => h) (Or.inl ⟨by rfl, ?_⟩) hHY_0 ?_
                rotate_left
                · intro wS hSw; (try dsimp only at hSw); go_simp; try with_reducible rfl
                try simp only [Act.put, List.setIfInBounds_toArray, List.set_cons_zero, List.set_cons_succ]
                refine wpAnyH_take (i := 10) (oi := ⟨_, _, _, _, _, _⟩) (v := ?_) rfl (by kernel_rfl) (by kernel_rfl) (by kernel_rfl) (fun _ _ _ h => h) (Or.inl ⟨by rfl, ?_⟩) hHY_0 ?_
                rotate_left
                · intro wS hSw; (try dsimp only at hSw); go_simp; try with_reducible rfl
                try simp only [Act.put, List.setIfInBounds_toArray, List.set_cons_zero, List.set_cons_succ]
                refine wpAnyH_take (i := 11) (oi := ⟨_, _, _, _, _, _⟩) (v := ?_) rfl (by kernel_rfl) (by kernel_rfl) (by kernel_rfl) (fun _ _ _ h => h) (Or.inl ⟨by rfl, ?_⟩) hHY_0 ?_
                rotate_left
                · intro wS hSw; (try dsimp only at hSw); go_simp; try with_reducible rfl
                try simp only [Act.put, List.setIfInBounds_toArray, List.set_cons_zero, List.set_cons_succ]
                refine wpAnyH_take (i := 12) (oi := ⟨_, _, _, _, _, _⟩) (v := ?_) rfl (by kernel_rfl) (by kernel_rfl) (by kernel_rfl) (fun _ _ _ h => h) (Or.inl ⟨by rfl, ?_⟩) hHY_0 ?_
                rotate_left
                · intro wS hSw; (try dsimp only at hSw); go_simp; try with_reducible rfl
                try simp only [Act.put, List.setIfInBounds_toArray, List.set_cons_zero, List.set_cons_succ]
                refine wpAnyH_take (i := 13) (oi := ⟨_, _, _, _, _, _⟩) (v := ?_) rfl (by kernel_rfl) (by kernel_rfl) (by kernel_rfl) (fun _ _ _ h => h) (Or.inl ⟨by rfl, ?_⟩) hHY_0 ?_
                rotate_left
                · intro wS hSw; (try dsimp only at hSw); go_simp; try with_reducible rfl
                try simp only [Act.put, List.setIfInBounds_toArray, List.set_cons_zero, List.set_cons_succ]
                refine wpAnyH_take (i := 17) (oi := ⟨_, _, _, _, _, _⟩) (v := ?_) rfl (by kernel_rfl) (by kernel_rfl) (by kernel_rfl) (fun _ _ _ h => h) (Or.inl ⟨by rfl, ?_⟩) hHY_0 ?_
                rotate_left
                · intro wS hSw; (try dsimp only at hSw); go_simp; try with_reducible rfl
                try simp only [Act.put, List.setIfInBounds_toArray, List.set_cons_zero, List.set_cons_succ]
                refine wpAnyH_take (i := 18) (oi := ⟨_, _, _, _, _, _⟩) (v := ?_) rfl (by kernel_rfl) (by kernel_rfl) (by kernel_rfl) (fun _ _ _ h => h) (Or.inl ⟨by rfl, ?_⟩) hHY_0 ?_
                rotate_left
                · intro wS hSw; (try dsimp only at hSw); go_simp; try with_reducible rfl
                try simp only [Act.put, List.setIfInBounds_toArray, List.set_cons_zero, List.set_cons_succ]
                refine wpAnyH_take (i := 19) (oi := ⟨_, _, _, _, _, _⟩) (v := ?_) rfl (by kernel_rfl) (by kernel_rfl) (by kernel_rfl) (fun _ _ _ h => h) (Or.inl ⟨by rfl, ?_⟩) hHY_0 ?_
                rotate_left
                · intro wS hSw; (try dsimp only at hSw); go_simp; try with_reducible rfl
                try simp only [Act.put, List.setIfInBounds_toArray, List.set_cons_zero, List.set_cons_succ]
                refine wpAnyH_ready (rs := [14]) (by kernel_rfl) (by simp) ?_
                refine AllReadyH.cons (o := ⟨_, _, _, _, _, _⟩) rfl (fun Kq hKq => ?_) AllReadyH.nil
                go_simp
                go_at_call 16
                refine (HFS.out _ hVY_0.out.be).mono ?_
                rintro e wT ⟨rfl, hb⟩
                (try go_wp2_with fail)
                refine stepY hKq (show Sy W3 _ [] [] [fun V => Sx 1 V a10 Y.length c10 (L1 Y)] from (hVY_0.out.call hb)) (fun _ hX => ⟨(HQ.out _ hX.be).1, (HQ.out _ hX.be).2.1, (HQ.out _ hX.be).2.2.1, (HQ.out _ hX.be).2.2.2.1, (HQ.out _ hX.be).2.2.2.2.1, (HQ.out _ hX.be).2.2.2.2.2, (HRW.out _ hX.be), (HRS.out _ hX.be), (HSN.out _ hX.be), trivial⟩) ?_
                intro VY_1 hc hHY_1
                have hVY_1 := Lib.hid hc
                clear hc hKq Kq hVY_0 hb hHY_0
                try simp only [Act.put, List.setIfInBounds_toArray, List.set_cons_zero, List.set_cons_succ]
                refine wpAnyH_take (i := 15) (oi := ⟨_, _, _, _, _, _⟩) (v := ?_) rfl (by kernel_rfl) (by kernel_rfl) (by kernel_rfl) (fun _ _ _ h => h) (Or.inl ⟨by rfl, ?_⟩) hHY_1 ?_
                rotate_left
                · intro wS hSw; (try dsimp only at hSw); go_simp; try with_reducible rfl
                try simp only [Act.put, List.setIfInBounds_toArray, List.set_cons_zero, List.set_cons_succ]
                refine wpAnyH_take (i := 16) (oi := ⟨_, _, _, _, _, _⟩) (v := VS) rfl (by kernel_rfl) (by kernel_rfl) (by kernel_rfl) (fun _ _ _ h => h) (yieldsIf_ld (by rfl) _ _ rfl g0 (o0 + k2 * 20) rfl (cS s) _ (fun _ h => h.2.2.2.2.2.2.2.1) Tryz.underlying53 rfl info_RSheet VS HVS.out) hHY_1 ?_
                try simp only [Act.put, List.setIfInBounds_toArray, List.set_cons_zero, List.set_cons_succ]
                refine wpAnyH_ready (rs := [20]) (by kernel_rfl) (by simp) ?_
                refine AllReadyH.cons (o := ⟨_, _, _, _, _, _⟩) rfl (fun Kq hKq => ?_) AllReadyH.nil
                go_simp
                go_at_call 15
                refine (HRY.out _ hVY_1.out.be).mono ?_
                rintro e wT ⟨a11, c11, rfl, hX, hb⟩
                (try go_wp2_with fail)
                refine stepY hKq (show Sy W3 _ [] [] [fun V => Sx 1 V a10 Y.length c10 (L1 Y), fun V => Sx 1 V a11 Y.length c11 (L1 Y)] from ((hVY_1.out.call hb).push (r := fun V => Sx 1 V a11 Y.length c11 (L1 Y)) (fun V hV => hX.out.away hV (fun _ _ _ => by simp [ownOf])))) (fun _ hX => ⟨(HQ.out _ hX.be).1, (HQ.out _ hX.be).2.1, (HQ.out _ hX.be).2.2.1, (HQ.out _ hX.be).2.2.2.1, (HQ.out _ hX.be).2.2.2.2.1, (HQ.out _ hX.be).2.2.2.2.2, (HRW.out _ hX.be), (HRS.out _ hX.be), (HSN.out _ hX.be), trivial⟩) ?_
                intro VY_2 hc hHY_2
                have hVY_2 := Lib.hid hc
                clear hc hKq Kq hVY_1 hb hX hHY_1
                try simp only [Act.put, List.setIfInBounds_toArray, List.set_cons_zero, List.set_cons_succ]
                refine wpAnyH_take (i := 21) (oi := ⟨_, _, _, _, _, _⟩) (v := ?_) rfl (by kernel_rfl) (by kernel_rfl) (by kernel_rfl) (fun _ _ _ h => h) (Or.inl ⟨by rfl, ?_⟩) hHY_2 ?_
                rotate_left
                · intro wS hSw; (try dsimp only at hSw); go_simp; try with_reducible rfl
                try simp only [Act.put, List.setIfInBounds_toArray, List.set_cons_zero, List.set_cons_succ]
                refine wpAnyH_take (i := 22) (oi := ⟨_, _, _, _, _, _⟩) (v := ?_) rfl (by kernel_rfl) (by kernel_rfl) (by kernel_rfl) (fun _ _ _ h => h) (Or.inl ⟨by rfl, ?_⟩) hHY_2 ?_
                rotate_left
                · intro wS hSw; (try dsimp only at hSw); go_simp; try with_reducible rfl
                try simp only [Act.put, List.setIfInBounds_toArray, List.set_cons_zero, List.set_cons_succ]
                refine wpAnyH_take (i := 23) (oi := ⟨_, _, _, _, _, _⟩) (v := ?_) rfl (by kernel_rfl) (by kernel_rfl) (by kernel_rfl) (fun _ _ _ h => h) (Or.inl ⟨by rfl, ?_⟩) hHY_2 ?_
                rotate_left
                · intro wS hSw; (try dsimp only at hSw); go_simp; try with_reducible rfl
                try simp only [Act.put, List.setIfInBounds_toArray, List.set_cons_zero, List.set_cons_succ]
                refine wpAnyH_ready (rs := [24]) (by kernel_rfl) (by simp) ?_
                refine AllReadyH.cons (o := ⟨_, _, _, _, _, _⟩) rfl (fun Kq hKq => ?_) AllReadyH.nil
                go_simp
                refine stepY hKq (show Sy W3 _ [] [] [fun V => Sx 1 V a10 Y.length c10 (L1 Y), fun V => Sx 1 V a11 Y.length c11 (L1 Y)] from hVY_2.out) (fun _ hX => ⟨(HQ.out _ hX.be).1, (HQ.out _ hX.be).2.1, (HQ.out _ hX.be).2.2.1, (HQ.out _ hX.be).2.2.2.1, (HQ.out _ hX.be).2.2.2.2.1, (HQ.out _ hX.be).2.2.2.2.2, (HRW.out _ hX.be), (HRS.out _ hX.be), (HSN.out _ hX.be), trivial⟩) ?_
                intro VY_3 hc hHY_3
                have hVY_3 := Lib.hid hc
                clear hc hKq Kq hVY_2 hHY_2
                try simp only [Act.put, List.setIfInBounds_toArray, List.set_cons_zero, List.set_cons_succ]
                refine wpAnyH_ready (rs := [25]) (by kernel_rfl) (by simp) ?_
                refine AllReadyH.cons (o := ⟨_, _, _, _, _, _⟩) rfl (fun Kq hKq => ?_) AllReadyH.nil
                go_simp
                refine stepY hKq (show Sy W3 _ [] [] [fun V => Sx 1 V a10 Y.length c10 (L1 Y), fun V => Sx 1 V a11 Y.length c11 (L1 Y)] from hVY_3.out) (fun _ hX => ⟨(HQ.out _ hX.be).1, (HQ.out _ hX.be).2.1, (HQ.out _ hX.be).2.2.1, (HQ.out _ hX.be).2.2.2.1, (HQ.out _ hX.be).2.2.2.2.1, (HQ.out _ hX.be).2.2.2.2.2, (HRW.out _ hX.be), (HRS.out _ hX.be), (HSN.out _ hX.be), trivial⟩) ?_
                intro VY_4 hc hHY_4
                have hVY_4 := Lib.hid hc
                clear hc hKq Kq hVY_3 hHY_3
                try simp only [Act.put, List.setIfInBounds_toArray, List.set_cons_zero, List.set_cons_succ]
                refine wpAnyH_done (by kernel_rfl) ?_ _
                go_wp2_with fail
                refine (HIT.out _ _ _ _ _ (hVY_4.out.r 0 rfl) (hVY_4.out.r 1 rfl)).mono ?_
                rintro e V7 ⟨rfl, hb⟩
                have hI := Lib.hid (hVY_4.out.call hb)
                clear hb
                go_wp2_with fail
                refine (HW.out _).mono ?_
                rintro e VZ ⟨rfl, hb⟩
                have hZ := Lib.hid (hI.out.call hb)
                clear hb
                go_wp2
                go_ret
                exact ⟨rfl, HB.out.trans (hZ.out.be.mono HB.out.size)⟩
end
end Go.Proofs.YtchignmnnbepnaaGreat

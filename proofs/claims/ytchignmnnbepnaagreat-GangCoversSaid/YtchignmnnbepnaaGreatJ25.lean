/- plan.Find -/
/- plan.Find, in full -/
import Derived.Test.YtchignmnnbepnaaGreatJ24
import Derived.Test.YtchignmnnbepnaaGreatJ17
namespace Go.Proofs.YtchignmnnbepnaaGreat
open Go.RowKit
theorem set_one {X : List Value} {i : Nat} {v : Value} (h : X.toArray.all (·.oneCell') = true) (hv : v.oneCell' = true) : (X.toArray.setIfInBounds i v).all (·.oneCell') = true := by
  rw [List.setIfInBounds_toArray]
  rw [← Array.all_toList] at h ⊢
  simp only [List.all_eq_true] at h ⊢
  intro x hx
  rcases List.mem_or_eq_of_mem_set hx with h1 | rfl
  · exact h x h1
  · exact hv
/-- what is found, its lists copied -/
def RetFind2 (w : World) (S : List Sht) (L : List Wal) (nm : ByteArray) (e : Ending) (w' : World) : Prop :=
  (planB S L = false ∧ ∃ X Y : Value, e = .returned (.tuple #[X, Y, .int .i64 2]) ∧ Below w.heap.size w w')
  ∨ (planB S L = true ∧ idxB (isW nm) L = -1 ∧ ∃ X Y : Value, e = .returned (.tuple #[X, Y, .int .i64 6]) ∧ Below w.heap.size w w')
  ∨ (planB S L = true ∧ ∃ (k : Nat) (hk : k < L.length) (s : Sht), idxB (isW nm) L = k ∧ s ∈ S ∧ S.find? (isS L[k].sheet) = some s ∧ ∃ (x : Wal) (t : Sht), x = { L[k] with oa := x.oa, oc := x.oc } ∧ t = { s with ha := t.ha, hc := t.hc } ∧
      e = .returned (.tuple #[.agg (cWa x).toArray, .agg (cS t).toArray, .int .i64 0]) ∧ Sx 5 w' x.oa x.on x.oc (LO x.ops) ∧ Sx 1 w' t.ha t.hn t.hc (L1 t.hs) ∧ Below w.heap.size w w')
section
variable (w : World)
set_option maxHeartbeats 32000000 in
set_option maxRecDepth 100000 in
theorem pFind_core (PV : Value) (nm : ByteArray) (X Y : List Value) (er : Int) (oa ha : Option Addr) (on oc hn hc : Nat) (ops : List Opn) (hs : List Int)
    (hP : ∃ P0 P1, PV = .agg #[P0, P1])
    (hF : ∀ V, Below w.heap.size w V → Calls Tryz.prog 68 #[PV, .string nm] V (fun e w' => e = .returned (.tuple #[.agg X.toArray, .agg Y.toArray, .int .i64 er]) ∧ Below V.heap.size V w'))
    (hX : X.toArray.size = 4) (hX1 : X.toArray.all (·.oneCell') = true) (hX3 : X.toArray[3]? = some (.slice oa on oc)) (hY : Y.toArray.size = 20) (hY1 : Y.toArray.all (·.oneCell') = true) (hY5 : Y.toArray[5]? = some (.slice ha hn hc))
    (hO : Sx 5 w oa on oc (LO ops)) (hH : Sx 1 w ha hn hc (L1 hs)) (hon : on ≤ 1000) (hhn : hn ≤ 1000) :
    Calls Tryz.prog 31 #[PV, .string nm] w (fun e w' => ∃ a c a' c', e = .returned (.tuple #[.agg (X.toArray.setIfInBounds 3 (.slice a on c)), .agg (Y.toArray.setIfInBounds 5 (.slice a' hn c')), .int .i64 er]) ∧ Sx 5 w' a on c (LO ops) ∧ Sx 1 w' a' hn c' (L1 hs) ∧ Below w.heap.size w w') := by
  obtain ⟨P0, P1, rfl⟩ := hP
  have HF := Lib.hid hF
  have HX := Lib.hid hX
  have HX1 := Lib.hid hX1
  have HX3 := Lib.hid hX3
  have HY := Lib.hid hY
  have HY1 := Lib.hid hY1
  have HY5 := Lib.hid hY5
  have HO := Lib.hid (fun V (h : Below w.heap.size w V) => cloneO_any V oa on oc ops (hO.below h) hon)
  have HH := Lib.hid (fun V (h : Below w.heap.size w V) => clone_any V ha hn hc hs (hH.below h) hhn)
  obtain ⟨VX, hVX⟩ : ∃ VX, Value.agg X.toArray = VX := ⟨_, rfl⟩
  obtain ⟨VY, hVY⟩ : ∃ VY, Value.agg Y.toArray = VY := ⟨_, rfl⟩
  have HVX := Lib.hid hVX
  have HVY := Lib.hid hVY
  rw [hVX, hVY] at HF
  clear hF hX hX1 hX3 hY hY1 hY5 hO hH hVX hVY
  unfold RetRow at HO HH
  go_enter Tryz.func31, Tryz.ntmps31
  go_upto_region 1 with (first | (refine wpList_bx (o := ⟨some 2, _, _, _, _, _⟩) rfl (Sy.enter w) _ _ rfl #[P0, P1] rfl ?_; intro bp V1 h1; have hA := Lib.hid h1; clear h1) | (refine wpList_al (o := ⟨some 4, _, _, _, _, _⟩) rfl hA.out _ rfl zW zero_Wall ?_; intro b4 V2 h2; have hB := Lib.hid h2; clear h2) | (refine wpList_al (o := ⟨some 5, _, _, _, _, _⟩) rfl hB.out _ rfl zS zero_Sheet ?_; intro b5 V3 h3; have hC := Lib.hid h3; clear h3 hA hB) | fail)
  have x0 : V3.cell? ⟨bp, 0, none⟩ = some P0 := hC.out.cell 0 0 rfl rfl
  have x1 : V3.cell? ⟨bp, 1, none⟩ = some P1 := hC.out.cell 0 1 rfl rfl
  go_wp2_with fail
  refine (HF.out _ hC.out.be).mono ?_
  rintro e w4 ⟨rfl, hb⟩
  have hD := Lib.hid (hC.out.call hb)
  clear hb hC x0 x1 HF
  go_upto_region 2 with (first | (refine wpList_al (o := ⟨some 7, _, _, _, _, _⟩) rfl hD.out _ rfl zW zero_Wall ?_; intro b7 V2 h2; have hE1 := Lib.hid h2; clear h2) | (refine wpList_al (o := ⟨some 8, _, _, _, _, _⟩) rfl hE1.out _ rfl zS zero_Sheet ?_; intro b8 V3 h3; have hE2 := Lib.hid h3; clear h3) | (refine wpList_st (o := ⟨none, _, _, _, _, _⟩) rfl hE2.out 3 rfl _ _ _ rfl rfl X.toArray HVX.out.symm (by rw [HX.out]; exact info_Wall) (by rw [HX.out]; rfl) HX1.out ?_; intro V4 h4; have hE3 := Lib.hid h4; clear h4) | (refine wpList_st (o := ⟨none, _, _, _, _, _⟩) rfl hE3.out 4 rfl _ _ _ rfl rfl Y.toArray HVY.out.symm (by rw [HY.out]; exact info_Sheet) (by rw [HY.out]; rfl) HY1.out ?_; intro V5 h5; have hE4 := Lib.hid h5; clear h5) | fail)
  refine wp_geny hE4.out ?_
  intro W6 hc6
  have hF : Hid (Sy w W6 [(bp, #[P0, P1], 38), (b4, zW.cells, 91), (b5, zS.cells, 92), (b7, X.toArray, 91), (b8, Y.toArray, 92)] [] []) := Lib.hid hc6
  clear hc6 hE1 hE2 hE3 hE4 hD
  refine wp_region_held_drew (S := (fun w' => True)) (by kernel_rfl) trivial (fun hH => ?_)
  refine wpAnyH_geny (show Sy w _ [(bp, #[P0, P1], 38), (b4, zW.cells, 91), (b5, zS.cells, 92), (b7, X.toArray, 91), (b8, Y.toArray, 92)] [] [] from hF.out.drew) hH ?_
  intro VF_0 hc hHF_0
  have hVF_0 := Lib.hid hc
  clear hc hH hF
  refine wpAnyH_take (i := 0) (oi := ⟨_, _, _, _, _, _⟩) (v := ?_) rfl (by kernel_rfl) (by kernel_rfl) (by kernel_rfl) (fun _ _ _ h => h) (Or.inl ⟨by rfl, ?_⟩) hHF_0 ?_
  rotate_left
  · intro wS hSw; (try dsimp only at hSw); go_simp; try with_reducible rfl
  try simp only [Act.put, List.setIfInBounds_toArray, List.set_cons_zero, List.set_cons_succ]
  refine wpAnyH_take (i := 3) (oi := ⟨_, _, _, _, _, _⟩) (v := ?_) rfl (by kernel_rfl) (by kernel_rfl) (by kernel_rfl) (fun _ _ _ h => h) (Or.inl ⟨by rfl, ?_⟩) hHF_0 ?_
  rotate_left
  · intro wS hSw; (try dsimp only at hSw); go_simp; try with_reducible rfl
  try simp only [Act.put, List.setIfInBounds_toArray, List.set_cons_zero, List.set_cons_succ]
  refine wpAnyH_ready (rs := [1, 4]) (by kernel_rfl) (by simp) ?_
  refine AllReadyH.cons (o := ⟨_, _, _, _, _, _⟩) rfl (fun Kq hKq => ?_) ?_
  · have cQ : VF_0.cell? ⟨b7, 3, none⟩ = some (.slice oa on oc) := hVF_0.out.cell 3 3 rfl HX3.out
    go_simp
    refine stepY hKq (show Sy w _ [(bp, #[P0, P1], 38), (b4, zW.cells, 91), (b5, zS.cells, 92), (b7, X.toArray, 91), (b8, Y.toArray, 92)] [] [] from hVF_0.out) (fun _ hX => trivial) ?_
    intro VF_1 hc hHF_1
    have hVF_1 := Lib.hid hc
    clear hc hKq Kq hVF_0 cQ hHF_0
    try simp only [Act.put, List.setIfInBounds_toArray, List.set_cons_zero, List.set_cons_succ]
    refine wpAnyH_ready (rs := [2, 4]) (by kernel_rfl) (by simp) ?_
    refine AllReadyH.cons (o := ⟨_, _, _, _, _, _⟩) rfl (fun Kq hKq => ?_) ?_
    · go_simp
      go_at_call 69
      refine (HO.out _ hVF_1.out.be).mono ?_
      rintro e wT ⟨a1, c1, rfl, hr, hb⟩
      (try go_wp2_with fail)
      refine stepY hKq (show Sy w _ [(bp, #[P0, P1], 38), (b4, zW.cells, 91), (b5, zS.cells, 92), (b7, X.toArray, 91), (b8, Y.toArray, 92)] [⟨.slice a1 on c1, 95, 5, on, LO ops⟩] [] from (hVF_1.out.adopt hb hr)) (fun _ hX => trivial) ?_
      intro VF_2 hc hHF_2
      have hVF_2 := Lib.hid hc
      clear hc hKq Kq hVF_1 hb hr hHF_1
      try simp only [Act.put, List.setIfInBounds_toArray, List.set_cons_zero, List.set_cons_succ]
      refine wpAnyH_take (i := 6) (oi := ⟨_, _, _, _, _, _⟩) (v := ?_) rfl (by kernel_rfl) (by kernel_rfl) (by kernel_rfl) (fun _ _ _ h => h) (Or.inl ⟨by rfl, ?_⟩) hHF_2 ?_
      rotate_left
      · intro wS hSw; (try dsimp only at hSw); go_simp; try with_reducible rfl
      try simp only [Act.put, List.setIfInBounds_toArray, List.set_cons_zero, List.set_cons_succ]
      refine wpAnyH_ready (rs := [4]) (by kernel_rfl) (by simp) ?_
      refine AllReadyH.cons (o := ⟨_, _, _, _, _, _⟩) rfl (fun Kq hKq => ?_) AllReadyH.nil
      have cQ : VF_2.cell? ⟨b8, 5, none⟩ = some (.slice ha hn hc) := hVF_2.out.cell 4 5 rfl HY5.out
      go_simp
      refine stepY hKq (show Sy w _ [(bp, #[P0, P1], 38), (b4, zW.cells, 91), (b5, zS.cells, 92), (b7, X.toArray, 91), (b8, Y.toArray, 92)] [⟨.slice a1 on c1, 95, 5, on, LO ops⟩] [] from hVF_2.out) (fun _ hX => trivial) ?_
      intro VF_3 hc hHF_3
      have hVF_3 := Lib.hid hc
      clear hc hKq Kq hVF_2 cQ hHF_2
      try simp only [Act.put, List.setIfInBounds_toArray, List.set_cons_zero, List.set_cons_succ]
      refine wpAnyH_ready (rs := [5]) (by kernel_rfl) (by simp) ?_
      refine AllReadyH.cons (o := ⟨_, _, _, _, _, _⟩) rfl (fun Kq hKq => ?_) AllReadyH.nil
      go_simp
      go_at_call 70
      refine (HH.out _ hVF_3.out.be).mono ?_
      rintro e wT ⟨a2, c2, rfl, hr, hb⟩
      (try go_wp2_with fail)
      refine stepY hKq (show Sy w _ [(bp, #[P0, P1], 38), (b4, zW.cells, 91), (b5, zS.cells, 92), (b7, X.toArray, 91), (b8, Y.toArray, 92)] [⟨.slice a1 on c1, 95, 5, on, LO ops⟩, ⟨.slice a2 hn c2, 3, 1, hn, L1 hs⟩] [] from (hVF_3.out.adopt hb hr)) (fun _ hX => trivial) ?_
      intro VF_4 hc hHF_4
      have hVF_4 := Lib.hid hc
      clear hc hKq Kq hVF_3 hb hr hHF_3
      try simp only [Act.put, List.setIfInBounds_toArray, List.set_cons_zero, List.set_cons_succ]
      refine wpAnyH_ready (rs := [7]) (by kernel_rfl) (by simp) ?_
      refine AllReadyH.cons (o := ⟨_, _, _, _, _, _⟩) rfl (fun Kq hKq => ?_) AllReadyH.nil
      have cQ : VF_4.cell? ⟨b7, 3, none⟩ = some (.slice oa on oc) := hVF_4.out.cell 3 3 rfl HX3.out
      have fQ := hVF_4.out.free 3 3 rfl
      go_simp
      refine stepY hKq (show Sy w _ [(bp, #[P0, P1], 38), (b4, zW.cells, 91), (b5, zS.cells, 92), (b7, (X.toArray.setIfInBounds 3 (.slice a1 on c1)), 91), (b8, Y.toArray, 92)] [⟨.slice a1 on c1, 95, 5, on, LO ops⟩, ⟨.slice a2 hn c2, 3, 1, hn, L1 hs⟩] [] from (hVF_4.out.set (j := 3) (v := .slice a1 on c1) 3 rfl)) (fun _ hX => trivial) ?_
      intro VF_5 hc hHF_5
      have hVF_5 := Lib.hid hc
      clear hc hKq Kq hVF_4 cQ fQ hHF_4
      try simp only [Act.put]
      refine wpAnyH_take (i := 8) (oi := ⟨_, _, _, _, _, _⟩) (v := ?_) rfl (by kernel_rfl) (by kernel_rfl) (by kernel_rfl) (fun _ _ _ h => h) (Or.inl ⟨by rfl, ?_⟩) hHF_5 ?_
      rotate_left
      · intro wS hSw; (try dsimp only at hSw); go_simp; try with_reducible rfl
      try simp only [Act.put, List.setIfInBounds_toArray, List.set_cons_zero, List.set_cons_succ]
      refine wpAnyH_ready (rs := [9]) (by kernel_rfl) (by simp) ?_
      refine AllReadyH.cons (o := ⟨_, _, _, _, _, _⟩) rfl (fun Kq hKq => ?_) AllReadyH.nil
      have cQ : VF_5.cell? ⟨b8, 5, none⟩ = some (.slice ha hn hc) := hVF_5.out.cell 4 5 rfl HY5.out
      have fQ := hVF_5.out.free 4 5 rfl
      go_simp
      refine stepY hKq (show Sy w _ [(bp, #[P0, P1], 38), (b4, zW.cells, 91), (b5, zS.cells, 92), (b7, (X.toArray.setIfInBounds 3 (.slice a1 on c1)), 91), (b8, (Y.toArray.setIfInBounds 5 (.slice a2 hn c2)), 92)] [⟨.slice a1 on c1, 95, 5, on, LO ops⟩, ⟨.slice a2 hn c2, 3, 1, hn, L1 hs⟩] [] from (hVF_5.out.set (j := 5) (v := .slice a2 hn c2) 4 rfl)) (fun _ hX => trivial) ?_
      intro VF_6 hc hHF_6
      have hVF_6 := Lib.hid hc
      clear hc hKq Kq hVF_5 cQ fQ hHF_5
      try simp only [Act.put]
      refine wpAnyH_done (by kernel_rfl) ?_ _
      obtain ⟨XL, hXL⟩ : ∃ XL : List Value, XL.toArray = (X.toArray.setIfInBounds 3 (.slice a1 on c1)) := ⟨((X.toArray.setIfInBounds 3 (.slice a1 on c1))).toList, by simp⟩
      obtain ⟨YL, hYL⟩ : ∃ YL : List Value, YL.toArray = (Y.toArray.setIfInBounds 5 (.slice a2 hn c2)) := ⟨((Y.toArray.setIfInBounds 5 (.slice a2 hn c2))).toList, by simp⟩
      have hZ : Hid (Sy w _ [(bp, #[P0, P1], 38), (b4, zW.cells, 91), (b5, zS.cells, 92), (b7, XL.toArray, 91), (b8, YL.toArray, 92)] [⟨.slice a1 on c1, 95, 5, on, LO ops⟩, ⟨.slice a2 hn c2, 3, 1, hn, L1 hs⟩] []) := Lib.hid (by rw [hXL, hYL]; exact hVF_6.out)
      clear hVF_6
      have HXL := Lib.hid hXL
      have HYL := Lib.hid hYL
      have HXS := Lib.hid (show XL.toArray.size = 4 by rw [hXL, Array.size_setIfInBounds]; exact HX.out)
      have HYS := Lib.hid (show YL.toArray.size = 20 by rw [hYL, Array.size_setIfInBounds]; exact HY.out)
      have HXO := Lib.hid (show XL.toArray.all (·.oneCell') = true by rw [hXL]; exact set_one HX1.out rfl)
      have HYO := Lib.hid (show YL.toArray.all (·.oneCell') = true by rw [hYL]; exact set_one HY1.out rfl)
      clear hXL hYL HX1 HY1 HX3 HY5
      obtain ⟨VA, hVA⟩ : ∃ VA, Value.agg XL.toArray = VA := ⟨_, rfl⟩
      obtain ⟨VB, hVB⟩ : ∃ VB, Value.agg YL.toArray = VB := ⟨_, rfl⟩
      have HVA := Lib.hid hVA
      have HVB := Lib.hid hVB
      clear hVA hVB
      go_upto_region 3 with fail
      refine wp_region_held_drew (S := (fun w' => w'.rangeAt b7 0 XL ∧ w'.rangeAt b8 0 YL ∧ True)) (by kernel_rfl) ⟨hZ.out.drew.range 3 rfl, hZ.out.drew.range 4 rfl, trivial⟩ (fun hH => ?_)
      refine wpAnyH_geny (show Sy w _ [(bp, #[P0, P1], 38), (b4, zW.cells, 91), (b5, zS.cells, 92), (b7, XL.toArray, 91), (b8, YL.toArray, 92)] [⟨.slice a1 on c1, 95, 5, on, LO ops⟩, ⟨.slice a2 hn c2, 3, 1, hn, L1 hs⟩] [] from hZ.out.drew) hH ?_
      intro VG_0 hc hHG_0
      have hVG_0 := Lib.hid hc
      clear hc hH hZ
      refine wpAnyH_take (i := 0) (oi := ⟨_, _, _, _, _, _⟩) (v := VA) rfl (by kernel_rfl) (by kernel_rfl) (by kernel_rfl) (fun _ _ _ h => h) (yieldsIf_ld (by rfl) _ _ rfl b7 0 rfl XL _ (fun _ h => h.1) Tryz.underlying91 rfl (by rw [← List.size_toArray, HXS.out]; exact info_Wall) VA HVA.out) hHG_0 ?_
      try simp only [Act.put, List.setIfInBounds_toArray, List.set_cons_zero, List.set_cons_succ]
      refine wpAnyH_take (i := 1) (oi := ⟨_, _, _, _, _, _⟩) (v := VB) rfl (by kernel_rfl) (by kernel_rfl) (by kernel_rfl) (fun _ _ _ h => h) (yieldsIf_ld (by rfl) _ _ rfl b8 0 rfl YL _ (fun _ h => h.2.1) Tryz.underlying92 rfl (by rw [← List.size_toArray, HYS.out]; exact info_Sheet) VB HVB.out) hHG_0 ?_
      try simp only [Act.put, List.setIfInBounds_toArray, List.set_cons_zero, List.set_cons_succ]
      refine wpAnyH_take (i := 2) (oi := ⟨_, _, _, _, _, _⟩) (v := ?_) rfl (by kernel_rfl) (by kernel_rfl) (by kernel_rfl) (fun _ _ _ h => h) (Or.inl ⟨by rfl, ?_⟩) hHG_0 ?_
      rotate_left
      · intro wS hSw; (try dsimp only at hSw); go_simp; try with_reducible rfl
      try simp only [Act.put, List.setIfInBounds_toArray, List.set_cons_zero, List.set_cons_succ]
      refine wpAnyH_ready (rs := [3]) (by kernel_rfl) (by simp) ?_
      refine AllReadyH.cons (o := ⟨_, _, _, _, _, _⟩) rfl (fun Kq hKq => ?_) AllReadyH.nil
      rw [if_pos (by rfl)]
      refine op_st hVG_0.out 1 rfl _ _ _ rfl rfl (XL.toArray) (HVA.out.symm) (by rw [HXS.out]; exact info_Wall) (by rw [HXS.out]; rfl) (HXO.out) (fun _ hc => ?_)
      refine stepY hKq (show Sy w _ [(bp, #[P0, P1], 38), (b4, XL.toArray, 91), (b5, zS.cells, 92), (b7, XL.toArray, 91), (b8, YL.toArray, 92)] [⟨.slice a1 on c1, 95, 5, on, LO ops⟩, ⟨.slice a2 hn c2, 3, 1, hn, L1 hs⟩] [] from hc) (fun _ hX => ⟨hX.range 3 rfl, hX.range 4 rfl, trivial⟩) ?_
      intro VG_1 hc2 hHG_1
      have hVG_1 := Lib.hid hc2
      clear hc2 hKq Kq hVG_0 hc hHG_0
      try simp only [Act.put]
      refine wpAnyH_ready (rs := [4]) (by kernel_rfl) (by simp) ?_
      refine AllReadyH.cons (o := ⟨_, _, _, _, _, _⟩) rfl (fun Kq hKq => ?_) AllReadyH.nil
      rw [if_pos (by rfl)]
      refine op_st hVG_1.out 2 rfl _ _ _ rfl rfl (YL.toArray) (HVB.out.symm) (by rw [HYS.out]; exact info_Sheet) (by rw [HYS.out]; rfl) (HYO.out) (fun _ hc => ?_)
      refine stepY hKq (show Sy w _ [(bp, #[P0, P1], 38), (b4, XL.toArray, 91), (b5, YL.toArray, 92), (b7, XL.toArray, 91), (b8, YL.toArray, 92)] [⟨.slice a1 on c1, 95, 5, on, LO ops⟩, ⟨.slice a2 hn c2, 3, 1, hn, L1 hs⟩] [] from hc) (fun _ hX => ⟨hX.range 3 rfl, hX.range 4 rfl, trivial⟩) ?_
      intro VG_2 hc2 hHG_2
      have hVG_2 := Lib.hid hc2
      clear hc2 hKq Kq hVG_1 hc hHG_1
      try simp only [Act.put]
      refine wpAnyH_ready (rs := [5]) (by kernel_rfl) (by simp) ?_
      refine AllReadyH.cons (o := ⟨_, _, _, _, _, _⟩) rfl (fun Kq hKq => ?_) AllReadyH.nil
      go_simp
      refine stepY hKq (show Sy w _ [(bp, #[P0, P1], 38), (b4, XL.toArray, 91), (b5, YL.toArray, 92), (b7, XL.toArray, 91), (b8, YL.toArray, 92)] [⟨.slice a1 on c1, 95, 5, on, LO ops⟩, ⟨.slice a2 hn c2, 3, 1, hn, L1 hs⟩] [] from hVG_2.out) (fun _ hX => ⟨hX.range 3 rfl, hX.range 4 rfl, trivial⟩) ?_
      intro VG_3 hc hHG_3
      have hVG_3 := Lib.hid hc
      clear hc hKq Kq hVG_2 hHG_2
      try simp only [Act.put, List.setIfInBounds_toArray, List.set_cons_zero, List.set_cons_succ]
      refine wpAnyH_done (by kernel_rfl) ?_ _
      go_wp2
      refine bodyPost_ret (results_cell2_tmp_row Tryz.results31 _ _ b4 b5 91 92 XL.toArray YL.toArray (0, 0) (0, 0) _ _ rfl (hVG_3.out.at_ 1 rfl).2 Tryz.underlying91 rfl (by rw [HXS.out]; exact info_Wall) rfl (hVG_3.out.at_ 2 rfl).2 Tryz.underlying92 rfl (by rw [HYS.out]; exact info_Sheet)) rfl ?_
      exact ⟨a1, c1, a2, c2, by rw [HXL.out, HYL.out]; rfl, hVG_3.out.osx 0 rfl, hVG_3.out.osx 1 rfl, hVG_3.out.be⟩
    refine AllReadyH.cons (o := ⟨_, _, _, _, _, _⟩) rfl (fun Kq hKq => ?_) ?_
    · have cQ : VF_1.cell? ⟨b8, 5, none⟩ = some (.slice ha hn hc) := hVF_1.out.cell 4 5 rfl HY5.out
      go_simp
      refine stepY hKq (show Sy w _ [(bp, #[P0, P1], 38), (b4, zW.cells, 91), (b5, zS.cells, 92), (b7, X.toArray, 91), (b8, Y.toArray, 92)] [] [] from hVF_1.out) (fun _ hX => trivial) ?_
      intro VF_2 hc hHF_2
      have hVF_2 := Lib.hid hc
      clear hc hKq Kq hVF_1 cQ hHF_1
      try simp only [Act.put, List.setIfInBounds_toArray, List.set_cons_zero, List.set_cons_succ]
      refine wpAnyH_ready (rs := [2]) (by kernel_rfl) (by simp) ?_
      refine AllReadyH.cons (o := ⟨_, _, _, _, _, _⟩) rfl (fun Kq hKq => ?_) AllReadyH.nil
      go_simp
      go_at_call 69
      refine (HO.out _ hVF_2.out.be).mono ?_
      rintro e wT ⟨a3, c3, rfl, hr, hb⟩
      (try go_wp2_with fail)
      refine stepY hKq (show Sy w _ [(bp, #[P0, P1], 38), (b4, zW.cells, 91), (b5, zS.cells, 92), (b7, X.toArray, 91), (b8, Y.toArray, 92)] [⟨.slice a3 on c3, 95, 5, on, LO ops⟩] [] from (hVF_2.out.adopt hb hr)) (fun _ hX => trivial) ?_
      intro VF_3 hc hHF_3
      have hVF_3 := Lib.hid hc
      clear hc hKq Kq hVF_2 hb hr hHF_2
      try simp only [Act.put, List.setIfInBounds_toArray, List.set_cons_zero, List.set_cons_succ]
      refine wpAnyH_take (i := 6) (oi := ⟨_, _, _, _, _, _⟩) (v := ?_) rfl (by kernel_rfl) (by kernel_rfl) (by kernel_rfl) (fun _ _ _ h => h) (Or.inl ⟨by rfl, ?_⟩) hHF_3 ?_
      rotate_left
      · intro wS hSw; (try dsimp only at hSw); go_simp; try with_reducible rfl
      try simp only [Act.put, List.setIfInBounds_toArray, List.set_cons_zero, List.set_cons_succ]
      refine wpAnyH_ready (rs := [5]) (by kernel_rfl) (by simp) ?_
      refine AllReadyH.cons (o := ⟨_, _, _, _, _, _⟩) rfl (fun Kq hKq => ?_) AllReadyH.nil
      go_simp
      go_at_call 70
      refine (HH.out _ hVF_3.out.be).mono ?_
      rintro e wT ⟨a4, c4, rfl, hr, hb⟩
      (try go_wp2_with fail)
      refine stepY hKq (show Sy w _ [(bp, #[P0, P1], 38), (b4, zW.cells, 91), (b5, zS.cells, 92), (b7, X.toArray, 91), (b8, Y.toArray, 92)] [⟨.slice a3 on c3, 95, 5, on, LO ops⟩, ⟨.slice a4 hn c4, 3, 1, hn, L1 hs⟩] [] from (hVF_3.out.adopt hb hr)) (fun _ hX => trivial) ?_
      intro VF_4 hc hHF_4
      have hVF_4 := Lib.hid hc
      clear hc hKq Kq hVF_3 hb hr hHF_3
      try simp only [Act.put, List.setIfInBounds_toArray, List.set_cons_zero, List.set_cons_succ]
      refine wpAnyH_ready (rs := [7]) (by kernel_rfl) (by simp) ?_
      refine AllReadyH.cons (o := ⟨_, _, _, _, _, _⟩) rfl (fun Kq hKq => ?_) AllReadyH.nil
      have cQ : VF_4.cell? ⟨b7, 3, none⟩ = some (.slice oa on oc) := hVF_4.out.cell 3 3 rfl HX3.out
      have fQ := hVF_4.out.free 3 3 rfl
      go_simp
      refine stepY hKq (show Sy w _ [(bp, #[P0, P1], 38), (b4, zW.cells, 91), (b5, zS.cells, 92), (b7, (X.toArray.setIfInBounds 3 (.slice a3 on c3)), 91), (b8, Y.toArray, 92)] [⟨.slice a3 on c3, 95, 5, on, LO ops⟩, ⟨.slice a4 hn c4, 3, 1, hn, L1 hs⟩] [] from (hVF_4.out.set (j := 3) (v := .slice a3 on c3) 3 rfl)) (fun _ hX => trivial) ?_
      intro VF_5 hc hHF_5
      have hVF_5 := Lib.hid hc
      clear hc hKq Kq hVF_4 cQ fQ hHF_4
      try simp only [Act.put]
      refine wpAnyH_take (i := 8) (oi := ⟨_, _, _, _, _, _⟩) (v := ?_) rfl (by kernel_rfl) (by kernel_rfl) (by kernel_rfl) (fun _ _ _ h => h) (Or.inl ⟨by rfl, ?_⟩) hHF_5 ?_
      rotate_left
      · intro wS hSw; (try dsimp only at hSw); go_simp; try with_reducible rfl
      try simp only [Act.put, List.setIfInBounds_toArray, List.set_cons_zero, List.set_cons_succ]
      refine wpAnyH_ready (rs := [9]) (by kernel_rfl) (by simp) ?_
      refine AllReadyH.cons (o := ⟨_, _, _, _, _, _⟩) rfl (fun Kq hKq => ?_) AllReadyH.nil
      have cQ : VF_5.cell? ⟨b8, 5, none⟩ = some (.slice ha hn hc) := hVF_5.out.cell 4 5 rfl HY5.out
      have fQ := hVF_5.out.free 4 5 rfl
      go_simp
      refine stepY hKq (show Sy w _ [(bp, #[P0, P1], 38), (b4, zW.cells, 91), (b5, zS.cells, 92), (b7, (X.toArray.setIfInBounds 3 (.slice a3 on c3)), 91), (b8, (Y.toArray.setIfInBounds 5 (.slice a4 hn c4)), 92)] [⟨.slice a3 on c3, 95, 5, on, LO ops⟩, ⟨.slice a4 hn c4, 3, 1, hn, L1 hs⟩] [] from (hVF_5.out.set (j := 5) (v := .slice a4 hn c4) 4 rfl)) (fun _ hX => trivial) ?_
      intro VF_6 hc hHF_6
      have hVF_6 := Lib.hid hc
      clear hc hKq Kq hVF_5 cQ fQ hHF_5
      try simp only [Act.put]
      refine wpAnyH_done (by kernel_rfl) ?_ _
      obtain ⟨XL, hXL⟩ : ∃ XL : List Value, XL.toArray = (X.toArray.setIfInBounds 3 (.slice a3 on c3)) := ⟨((X.toArray.setIfInBounds 3 (.slice a3 on c3))).toList, by simp⟩
      obtain ⟨YL, hYL⟩ : ∃ YL : List Value, YL.toArray = (Y.toArray.setIfInBounds 5 (.slice a4 hn c4)) := ⟨((Y.toArray.setIfInBounds 5 (.slice a4 hn c4))).toList, by simp⟩
      have hZ : Hid (Sy w _ [(bp, #[P0, P1], 38), (b4, zW.cells, 91), (b5, zS.cells, 92), (b7, XL.toArray, 91), (b8, YL.toArray, 92)] [⟨.slice a3 on c3, 95, 5, on, LO ops⟩, ⟨.slice a4 hn c4, 3, 1, hn, L1 hs⟩] []) := Lib.hid (by rw [hXL, hYL]; exact hVF_6.out)
      clear hVF_6
      have HXL := Lib.hid hXL
      have HYL := Lib.hid hYL
      have HXS := Lib.hid (show XL.toArray.size = 4 by rw [hXL, Array.size_setIfInBounds]; exact HX.out)
      have HYS := Lib.hid (show YL.toArray.size = 20 by rw [hYL, Array.size_setIfInBounds]; exact HY.out)
      have HXO := Lib.hid (show XL.toArray.all (·.oneCell') = true by rw [hXL]; exact set_one HX1.out rfl)
      have HYO := Lib.hid (show YL.toArray.all (·.oneCell') = true by rw [hYL]; exact set_one HY1.out rfl)
      clear hXL hYL HX1 HY1 HX3 HY5
      obtain ⟨VA, hVA⟩ : ∃ VA, Value.agg XL.toArray = VA := ⟨_, rfl⟩
      obtain ⟨VB, hVB⟩ : ∃ VB, Value.agg YL.toArray = VB := ⟨_, rfl⟩
      have HVA := Lib.hid hVA
      have HVB := Lib.hid hVB
      clear hVA hVB
      go_upto_region 3 with fail
      refine wp_region_held_drew (S := (fun w' => w'.rangeAt b7 0 XL ∧ w'.rangeAt b8 0 YL ∧ True)) (by kernel_rfl) ⟨hZ.out.drew.range 3 rfl, hZ.out.drew.range 4 rfl, trivial⟩ (fun hH => ?_)
      refine wpAnyH_geny (show Sy w _ [(bp, #[P0, P1], 38), (b4, zW.cells, 91), (b5, zS.cells, 92), (b7, XL.toArray, 91), (b8, YL.toArray, 92)] [⟨.slice a3 on c3, 95, 5, on, LO ops⟩, ⟨.slice a4 hn c4, 3, 1, hn, L1 hs⟩] [] from hZ.out.drew) hH ?_
      intro VG_0 hc hHG_0
      have hVG_0 := Lib.hid hc
      clear hc hH hZ
      refine wpAnyH_take (i := 0) (oi := ⟨_, _, _, _, _, _⟩) (v := VA) rfl (by kernel_rfl) (by kernel_rfl) (by kernel_rfl) (fun _ _ _ h => h) (yieldsIf_ld (by rfl) _ _ rfl b7 0 rfl XL _ (fun _ h => h.1) Tryz.underlying91 rfl (by rw [← List.size_toArray, HXS.out]; exact info_Wall) VA HVA.out) hHG_0 ?_
      try simp only [Act.put, List.setIfInBounds_toArray, List.set_cons_zero, List.set_cons_succ]
      refine wpAnyH_take (i := 1) (oi := ⟨_, _, _, _, _, _⟩) (v := VB) rfl (by kernel_rfl) (by kernel_rfl) (by kernel_rfl) (fun _ _ _ h => h) (yieldsIf_ld (by rfl) _ _ rfl b8 0 rfl YL _ (fun _ h => h.2.1) Tryz.underlying92 rfl (by rw [← List.size_toArray, HYS.out]; exact info_Sheet) VB HVB.out) hHG_0 ?_
      try simp only [Act.put, List.setIfInBounds_toArray, List.set_cons_zero, List.set_cons_succ]
      refine wpAnyH_take (i := 2) (oi := ⟨_, _, _, _, _, _⟩) (v := ?_) rfl (by kernel_rfl) (by kernel_rfl) (by kernel_rfl) (fun _ _ _ h => h) (Or.inl ⟨by rfl, ?_⟩) hHG_0 ?_
      rotate_left
      · intro wS hSw; (try dsimp only at hSw); go_simp; try with_reducible rfl
      try simp only [Act.put, List.setIfInBounds_toArray, List.set_cons_zero, List.set_cons_succ]
      refine wpAnyH_ready (rs := [3]) (by kernel_rfl) (by simp) ?_
      refine AllReadyH.cons (o := ⟨_, _, _, _, _, _⟩) rfl (fun Kq hKq => ?_) AllReadyH.nil
      rw [if_pos (by rfl)]
      refine op_st hVG_0.out 1 rfl _ _ _ rfl rfl (XL.toArray) (HVA.out.symm) (by rw [HXS.out]; exact info_Wall) (by rw [HXS.out]; rfl) (HXO.out) (fun _ hc => ?_)
      refine stepY hKq (show Sy w _ [(bp, #[P0, P1], 38), (b4, XL.toArray, 91), (b5, zS.cells, 92), (b7, XL.toArray, 91), (b8, YL.toArray, 92)] [⟨.slice a3 on c3, 95, 5, on, LO ops⟩, ⟨.slice a4 hn c4, 3, 1, hn, L1 hs⟩] [] from hc) (fun _ hX => ⟨hX.range 3 rfl, hX.range 4 rfl, trivial⟩) ?_
      intro VG_1 hc2 hHG_1
      have hVG_1 := Lib.hid hc2
      clear hc2 hKq Kq hVG_0 hc hHG_0
      try simp only [Act.put]
      refine wpAnyH_ready (rs := [4]) (by kernel_rfl) (by simp) ?_
      refine AllReadyH.cons (o := ⟨_, _, _, _, _, _⟩) rfl (fun Kq hKq => ?_) AllReadyH.nil
      rw [if_pos (by rfl)]
      refine op_st hVG_1.out 2 rfl _ _ _ rfl rfl (YL.toArray) (HVB.out.symm) (by rw [HYS.out]; exact info_Sheet) (by rw [HYS.out]; rfl) (HYO.out) (fun _ hc => ?_)
      refine stepY hKq (show Sy w _ [(bp, #[P0, P1], 38), (b4, XL.toArray, 91), (b5, YL.toArray, 92), (b7, XL.toArray, 91), (b8, YL.toArray, 92)] [⟨.slice a3 on c3, 95, 5, on, LO ops⟩, ⟨.slice a4 hn c4, 3, 1, hn, L1 hs⟩] [] from hc) (fun _ hX => ⟨hX.range 3 rfl, hX.range 4 rfl, trivial⟩) ?_
      intro VG_2 hc2 hHG_2
      have hVG_2 := Lib.hid hc2
      clear hc2 hKq Kq hVG_1 hc hHG_1
      try simp only [Act.put]
      refine wpAnyH_ready (rs := [5]) (by kernel_rfl) (by simp) ?_
      refine AllReadyH.cons (o := ⟨_, _, _, _, _, _⟩) rfl (fun Kq hKq => ?_) AllReadyH.nil
      go_simp
      refine stepY hKq (show Sy w _ [(bp, #[P0, P1], 38), (b4, XL.toArray, 91), (b5, YL.toArray, 92), (b7, XL.toArray, 91), (b8, YL.toArray, 92)] [⟨.slice a3 on c3, 95, 5, on, LO ops⟩, ⟨.slice a4 hn c4, 3, 1, hn, L1 hs⟩] [] from hVG_2.out) (fun _ hX => ⟨hX.range 3 rfl, hX.range 4 rfl, trivial⟩) ?_
      intro VG_3 hc hHG_3
      have hVG_3 := Lib.hid hc
      clear hc hKq Kq hVG_2 hHG_2
      try simp only [Act.put, List.setIfInBounds_toArray, List.set_cons_zero, List.set_cons_succ]
      refine wpAnyH_done (by kernel_rfl) ?_ _
      go_wp2
      refine bodyPost_ret (results_cell2_tmp_row Tryz.results31 _ _ b4 b5 91 92 XL.toArray YL.toArray (0, 0) (0, 0) _ _ rfl (hVG_3.out.at_ 1 rfl).2 Tryz.underlying91 rfl (by rw [HXS.out]; exact info_Wall) rfl (hVG_3.out.at_ 2 rfl).2 Tryz.underlying92 rfl (by rw [HYS.out]; exact info_Sheet)) rfl ?_
      exact ⟨a3, c3, a4, c4, by rw [HXL.out, HYL.out]; rfl, hVG_3.out.osx 0 rfl, hVG_3.out.osx 1 rfl, hVG_3.out.be⟩
    exact AllReadyH.nil
  refine AllReadyH.cons (o := ⟨_, _, _, _, _, _⟩) rfl (fun Kq hKq => ?_) ?_
  · have cQ : VF_0.cell? ⟨b8, 5, none⟩ = some (.slice ha hn hc) := hVF_0.out.cell 4 5 rfl HY5.out
    go_simp
    refine stepY hKq (show Sy w _ [(bp, #[P0, P1], 38), (b4, zW.cells, 91), (b5, zS.cells, 92), (b7, X.toArray, 91), (b8, Y.toArray, 92)] [] [] from hVF_0.out) (fun _ hX => trivial) ?_
    intro VF_1 hc hHF_1
    have hVF_1 := Lib.hid hc
    clear hc hKq Kq hVF_0 cQ hHF_0
    try simp only [Act.put, List.setIfInBounds_toArray, List.set_cons_zero, List.set_cons_succ]
    refine wpAnyH_ready (rs := [1]) (by kernel_rfl) (by simp) ?_
    refine AllReadyH.cons (o := ⟨_, _, _, _, _, _⟩) rfl (fun Kq hKq => ?_) AllReadyH.nil
    have cQ : VF_1.cell? ⟨b7, 3, none⟩ = some (.slice oa on oc) := hVF_1.out.cell 3 3 rfl HX3.out
    go_simp
    refine stepY hKq (show Sy w _ [(bp, #[P0, P1], 38), (b4, zW.cells, 91), (b5, zS.cells, 92), (b7, X.toArray, 91), (b8, Y.toArray, 92)] [] [] from hVF_1.out) (fun _ hX => trivial) ?_
    intro VF_2 hc hHF_2
    have hVF_2 := Lib.hid hc
    clear hc hKq Kq hVF_1 cQ hHF_1
    try simp only [Act.put, List.setIfInBounds_toArray, List.set_cons_zero, List.set_cons_succ]
    refine wpAnyH_ready (rs := [2]) (by kernel_rfl) (by simp) ?_
    refine AllReadyH.cons (o := ⟨_, _, _, _, _, _⟩) rfl (fun Kq hKq => ?_) AllReadyH.nil
    go_simp
    go_at_call 69
    refine (HO.out _ hVF_2.out.be).mono ?_
    rintro e wT ⟨a5, c5, rfl, hr, hb⟩
    (try go_wp2_with fail)
    refine stepY hKq (show Sy w _ [(bp, #[P0, P1], 38), (b4, zW.cells, 91), (b5, zS.cells, 92), (b7, X.toArray, 91), (b8, Y.toArray, 92)] [⟨.slice a5 on c5, 95, 5, on, LO ops⟩] [] from (hVF_2.out.adopt hb hr)) (fun _ hX => trivial) ?_
    intro VF_3 hc hHF_3
    have hVF_3 := Lib.hid hc
    clear hc hKq Kq hVF_2 hb hr hHF_2
    try simp only [Act.put, List.setIfInBounds_toArray, List.set_cons_zero, List.set_cons_succ]
    refine wpAnyH_take (i := 6) (oi := ⟨_, _, _, _, _, _⟩) (v := ?_) rfl (by kernel_rfl) (by kernel_rfl) (by kernel_rfl) (fun _ _ _ h => h) (Or.inl ⟨by rfl, ?_⟩) hHF_3 ?_
    rotate_left
    · intro wS hSw; (try dsimp only at hSw); go_simp; try with_reducible rfl
    try simp only [Act.put, List.setIfInBounds_toArray, List.set_cons_zero, List.set_cons_succ]
    refine wpAnyH_ready (rs := [5]) (by kernel_rfl) (by simp) ?_
    refine AllReadyH.cons (o := ⟨_, _, _, _, _, _⟩) rfl (fun Kq hKq => ?_) AllReadyH.nil
    go_simp
    go_at_call 70
    refine (HH.out _ hVF_3.out.be).mono ?_
    rintro e wT ⟨a6, c6, rfl, hr, hb⟩
    (try go_wp2_with fail)
    refine stepY hKq (show Sy w _ [(bp, #[P0, P1], 38), (b4, zW.cells, 91), (b5, zS.cells, 92), (b7, X.toArray, 91), (b8, Y.toArray, 92)] [⟨.slice a5 on c5, 95, 5, on, LO ops⟩, ⟨.slice a6 hn c6, 3, 1, hn, L1 hs⟩] [] from (hVF_3.out.adopt hb hr)) (fun _ hX => trivial) ?_
    intro VF_4 hc hHF_4
    have hVF_4 := Lib.hid hc
    clear hc hKq Kq hVF_3 hb hr hHF_3
    try simp only [Act.put, List.setIfInBounds_toArray, List.set_cons_zero, List.set_cons_succ]
    refine wpAnyH_ready (rs := [7]) (by kernel_rfl) (by simp) ?_
    refine AllReadyH.cons (o := ⟨_, _, _, _, _, _⟩) rfl (fun Kq hKq => ?_) AllReadyH.nil
    have cQ : VF_4.cell? ⟨b7, 3, none⟩ = some (.slice oa on oc) := hVF_4.out.cell 3 3 rfl HX3.out
    have fQ := hVF_4.out.free 3 3 rfl
    go_simp
    refine stepY hKq (show Sy w _ [(bp, #[P0, P1], 38), (b4, zW.cells, 91), (b5, zS.cells, 92), (b7, (X.toArray.setIfInBounds 3 (.slice a5 on c5)), 91), (b8, Y.toArray, 92)] [⟨.slice a5 on c5, 95, 5, on, LO ops⟩, ⟨.slice a6 hn c6, 3, 1, hn, L1 hs⟩] [] from (hVF_4.out.set (j := 3) (v := .slice a5 on c5) 3 rfl)) (fun _ hX => trivial) ?_
    intro VF_5 hc hHF_5
    have hVF_5 := Lib.hid hc
    clear hc hKq Kq hVF_4 cQ fQ hHF_4
    try simp only [Act.put]
    refine wpAnyH_take (i := 8) (oi := ⟨_, _, _, _, _, _⟩) (v := ?_) rfl (by kernel_rfl) (by kernel_rfl) (by kernel_rfl) (fun _ _ _ h => h) (Or.inl ⟨by rfl, ?_⟩) hHF_5 ?_
    rotate_left
    · intro wS hSw; (try dsimp only at hSw); go_simp; try with_reducible rfl
    try simp only [Act.put, List.setIfInBounds_toArray, List.set_cons_zero, List.set_cons_succ]
    refine wpAnyH_ready (rs := [9]) (by kernel_rfl) (by simp) ?_
    refine AllReadyH.cons (o := ⟨_, _, _, _, _, _⟩) rfl (fun Kq hKq => ?_) AllReadyH.nil
    have cQ : VF_5.cell? ⟨b8, 5, none⟩ = some (.slice ha hn hc) := hVF_5.out.cell 4 5 rfl HY5.out
    have fQ := hVF_5.out.free 4 5 rfl
    go_simp
    refine stepY hKq (show Sy w _ [(bp, #[P0, P1], 38), (b4, zW.cells, 91), (b5, zS.cells, 92), (b7, (X.toArray.setIfInBounds 3 (.slice a5 on c5)), 91), (b8, (Y.toArray.setIfInBounds 5 (.slice a6 hn c6)), 92)] [⟨.slice a5 on c5, 95, 5, on, LO ops⟩, ⟨.slice a6 hn c6, 3, 1, hn, L1 hs⟩] [] from (hVF_5.out.set (j := 5) (v := .slice a6 hn c6) 4 rfl)) (fun _ hX => trivial) ?_
    intro VF_6 hc hHF_6
    have hVF_6 := Lib.hid hc
    clear hc hKq Kq hVF_5 cQ fQ hHF_5
    try simp only [Act.put]
    refine wpAnyH_done (by kernel_rfl) ?_ _
    obtain ⟨XL, hXL⟩ : ∃ XL : List Value, XL.toArray = (X.toArray.setIfInBounds 3 (.slice a5 on c5)) := ⟨((X.toArray.setIfInBounds 3 (.slice a5 on c5))).toList, by simp⟩
    obtain ⟨YL, hYL⟩ : ∃ YL : List Value, YL.toArray = (Y.toArray.setIfInBounds 5 (.slice a6 hn c6)) := ⟨((Y.toArray.setIfInBounds 5 (.slice a6 hn c6))).toList, by simp⟩
    have hZ : Hid (Sy w _ [(bp, #[P0, P1], 38), (b4, zW.cells, 91), (b5, zS.cells, 92), (b7, XL.toArray, 91), (b8, YL.toArray, 92)] [⟨.slice a5 on c5, 95, 5, on, LO ops⟩, ⟨.slice a6 hn c6, 3, 1, hn, L1 hs⟩] []) := Lib.hid (by rw [hXL, hYL]; exact hVF_6.out)
    clear hVF_6
    have HXL := Lib.hid hXL
    have HYL := Lib.hid hYL
    have HXS := Lib.hid (show XL.toArray.size = 4 by rw [hXL, Array.size_setIfInBounds]; exact HX.out)
    have HYS := Lib.hid (show YL.toArray.size = 20 by rw [hYL, Array.size_setIfInBounds]; exact HY.out)
    have HXO := Lib.hid (show XL.toArray.all (·.oneCell') = true by rw [hXL]; exact set_one HX1.out rfl)
    have HYO := Lib.hid (show YL.toArray.all (·.oneCell') = true by rw [hYL]; exact set_one HY1.out rfl)
    clear hXL hYL HX1 HY1 HX3 HY5
    obtain ⟨VA, hVA⟩ : ∃ VA, Value.agg XL.toArray = VA := ⟨_, rfl⟩
    obtain ⟨VB, hVB⟩ : ∃ VB, Value.agg YL.toArray = VB := ⟨_, rfl⟩
    have HVA := Lib.hid hVA
    have HVB := Lib.hid hVB
    clear hVA hVB
    go_upto_region 3 with fail
    refine wp_region_held_drew (S := (fun w' => w'.rangeAt b7 0 XL ∧ w'.rangeAt b8 0 YL ∧ True)) (by kernel_rfl) ⟨hZ.out.drew.range 3 rfl, hZ.out.drew.range 4 rfl, trivial⟩ (fun hH => ?_)
    refine wpAnyH_geny (show Sy w _ [(bp, #[P0, P1], 38), (b4, zW.cells, 91), (b5, zS.cells, 92), (b7, XL.toArray, 91), (b8, YL.toArray, 92)] [⟨.slice a5 on c5, 95, 5, on, LO ops⟩, ⟨.slice a6 hn c6, 3, 1, hn, L1 hs⟩] [] from hZ.out.drew) hH ?_
    intro VG_0 hc hHG_0
    have hVG_0 := Lib.hid hc
    clear hc hH hZ
    refine wpAnyH_take (i := 0) (oi := ⟨_, _, _, _, _, _⟩) (v := VA) rfl (by kernel_rfl) (by kernel_rfl) (by kernel_rfl) (fun _ _ _ h => h) (yieldsIf_ld (by rfl) _ _ rfl b7 0 rfl XL _ (fun _ h => h.1) Tryz.underlying91 rfl (by rw [← List.size_toArray, HXS.out]; exact info_Wall) VA HVA.out) hHG_0 ?_
    try simp only [Act.put, List.setIfInBounds_toArray, List.set_cons_zero, List.set_cons_succ]
    refine wpAnyH_take (i := 1) (oi := ⟨_, _, _, _, _, _⟩) (v := VB) rfl (by kernel_rfl) (by kernel_rfl) (by kernel_rfl) (fun _ _ _ h => h) (yieldsIf_ld (by rfl) _ _ rfl b8 0 rfl YL _ (fun _ h => h.2.1) Tryz.underlying92 rfl (by rw [← List.size_toArray, HYS.out]; exact info_Sheet) VB HVB.out) hHG_0 ?_
    try simp only [Act.put, List.setIfInBounds_toArray, List.set_cons_zero, List.set_cons_succ]
    refine wpAnyH_take (i := 2) (oi := ⟨_, _, _, _, _, _⟩) (v := ?_) rfl (by kernel_rfl) (by kernel_rfl) (by kernel_rfl) (fun _ _ _ h => h) (Or.inl ⟨by rfl, ?_⟩) hHG_0 ?_
    rotate_left
    · intro wS hSw; (try dsimp only at hSw); go_simp; try with_reducible rfl
    try simp only [Act.put, List.setIfInBounds_toArray, List.set_cons_zero, List.set_cons_succ]
    refine wpAnyH_ready (rs := [3]) (by kernel_rfl) (by simp) ?_
    refine AllReadyH.cons (o := ⟨_, _, _, _, _, _⟩) rfl (fun Kq hKq => ?_) AllReadyH.nil
    rw [if_pos (by rfl)]
    refine op_st hVG_0.out 1 rfl _ _ _ rfl rfl (XL.toArray) (HVA.out.symm) (by rw [HXS.out]; exact info_Wall) (by rw [HXS.out]; rfl) (HXO.out) (fun _ hc => ?_)
    refine stepY hKq (show Sy w _ [(bp, #[P0, P1], 38), (b4, XL.toArray, 91), (b5, zS.cells, 92), (b7, XL.toArray, 91), (b8, YL.toArray, 92)] [⟨.slice a5 on c5, 95, 5, on, LO ops⟩, ⟨.slice a6 hn c6, 3, 1, hn, L1 hs⟩] [] from hc) (fun _ hX => ⟨hX.range 3 rfl, hX.range 4 rfl, trivial⟩) ?_
    intro VG_1 hc2 hHG_1
    have hVG_1 := Lib.hid hc2
    clear hc2 hKq Kq hVG_0 hc hHG_0
    try simp only [Act.put]
    refine wpAnyH_ready (rs := [4]) (by kernel_rfl) (by simp) ?_
    refine AllReadyH.cons (o := ⟨_, _, _, _, _, _⟩) rfl (fun Kq hKq => ?_) AllReadyH.nil
    rw [if_pos (by rfl)]
    refine op_st hVG_1.out 2 rfl _ _ _ rfl rfl (YL.toArray) (HVB.out.symm) (by rw [HYS.out]; exact info_Sheet) (by rw [HYS.out]; rfl) (HYO.out) (fun _ hc => ?_)
    refine stepY hKq (show Sy w _ [(bp, #[P0, P1], 38), (b4, XL.toArray, 91), (b5, YL.toArray, 92), (b7, XL.toArray, 91), (b8, YL.toArray, 92)] [⟨.slice a5 on c5, 95, 5, on, LO ops⟩, ⟨.slice a6 hn c6, 3, 1, hn, L1 hs⟩] [] from hc) (fun _ hX => ⟨hX.range 3 rfl, hX.range 4 rfl, trivial⟩) ?_
    intro VG_2 hc2 hHG_2
    have hVG_2 := Lib.hid hc2
    clear hc2 hKq Kq hVG_1 hc hHG_1
    try simp only [Act.put]
    refine wpAnyH_ready (rs := [5]) (by kernel_rfl) (by simp) ?_
    refine AllReadyH.cons (o := ⟨_, _, _, _, _, _⟩) rfl (fun Kq hKq => ?_) AllReadyH.nil
    go_simp
    refine stepY hKq (show Sy w _ [(bp, #[P0, P1], 38), (b4, XL.toArray, 91), (b5, YL.toArray, 92), (b7, XL.toArray, 91), (b8, YL.toArray, 92)] [⟨.slice a5 on c5, 95, 5, on, LO ops⟩, ⟨.slice a6 hn c6, 3, 1, hn, L1 hs⟩] [] from hVG_2.out) (fun _ hX => ⟨hX.range 3 rfl, hX.range 4 rfl, trivial⟩) ?_
    intro VG_3 hc hHG_3
    have hVG_3 := Lib.hid hc
    clear hc hKq Kq hVG_2 hHG_2
    try simp only [Act.put, List.setIfInBounds_toArray, List.set_cons_zero, List.set_cons_succ]
    refine wpAnyH_done (by kernel_rfl) ?_ _
    go_wp2
    refine bodyPost_ret (results_cell2_tmp_row Tryz.results31 _ _ b4 b5 91 92 XL.toArray YL.toArray (0, 0) (0, 0) _ _ rfl (hVG_3.out.at_ 1 rfl).2 Tryz.underlying91 rfl (by rw [HXS.out]; exact info_Wall) rfl (hVG_3.out.at_ 2 rfl).2 Tryz.underlying92 rfl (by rw [HYS.out]; exact info_Sheet)) rfl ?_
    exact ⟨a5, c5, a6, c6, by rw [HXL.out, HYL.out]; rfl, hVG_3.out.osx 0 rfl, hVG_3.out.osx 1 rfl, hVG_3.out.be⟩
  exact AllReadyH.nil
end
end Go.Proofs.YtchignmnnbepnaaGreat
namespace Go.Proofs.YtchignmnnbepnaaGreat
open Go.RowKit
theorem wall_small {x : Wal} {s : Sht} (h : wallB x s = true) : x.on ≤ 20 := by
  unfold wallB at h
  simp only [Bool.and_eq_true] at h
  have := lim_iff.1 (List.all_eq_true.1 h.1.2 ((x.on : Int), 0, 20) (by simp))
  dsimp only at this
  omega
theorem sheet_small {s : Sht} (h : sheetB s = true) : s.hn ≤ 12 := by
  unfold sheetB at h
  simp only [Bool.and_eq_true] at h
  have := (nums_get h.1.1.1.1.2).2.2.2.1
  omega
theorem plan_sheet {S : List Sht} {L : List Wal} {s : Sht} (h : planB S L = true) (hs : s ∈ S) : sheetB s = true := by
  obtain ⟨i, hi, e⟩ := List.getElem_of_mem hs
  have h := (planB_iff.1 h).2.2.1 i hi
  rw [okSheet_at hi, Bool.and_eq_true, e] at h
  exact h.2
theorem plan_wall {S : List Sht} {L : List Wal} {k : Nat} (hk : k < L.length) (h : planB S L = true) : ∃ s, s ∈ S ∧ S.find? (isS L[k].sheet) = some s ∧ wallB L[k] s = true := by
  have h := (planB_iff.1 h).2.2.2 k hk
  rw [okWall_at hk] at h
  cases hf : S.find? (isS L[k].sheet) with
  | none => rw [hf] at h; cases h
  | some s =>
    rw [hf] at h
    dsimp only at h
    rw [Bool.and_eq_true] at h
    exact ⟨s, List.mem_of_find?_eq_some hf, rfl, h.2⟩
theorem cWa_set (x : Wal) (a : Option Addr) (c : Nat) : (cWa x).toArray.setIfInBounds 3 (.slice a x.on c) = (cWa { x with oa := a, oc := c }).toArray := rfl
theorem cS_set (s : Sht) (a : Option Addr) (c : Nat) : (cS s).toArray.setIfInBounds 5 (.slice a s.hn c) = (cS { s with ha := a, hc := c }).toArray := rfl
theorem pFind_any (w : World) (sa wa : Option Addr) (sn sc wn wc : Nat) (S : List Sht) (L : List Wal) (nm : ByteArray) (hS : Shts w sa sn sc S) (hL : Wals w wa wn wc L) :
    Calls Tryz.prog 31 #[.agg #[.slice sa sn sc, .slice wa wn wc], .string nm] w (RetFind2 w S L nm) := by
  have hf := fun V (h : Below w.heap.size w V) => pfind_any V sa wa sn sc wn wc S L nm (hS.below h) (hL.below h)
  cases hp : planB S L
  · refine (pFind_core w _ nm zWC zC 2 none none 0 0 0 0 [] [] ⟨_, _, rfl⟩ (fun V h => (hf V h).mono ?_) rfl zWC_one rfl rfl zC_one rfl Sx.nil Sx.nil (by omega) (by omega)).mono ?_
    · rintro e w' (⟨_, h2, h3⟩ | ⟨h1, _⟩ | ⟨h1, _⟩)
      · exact ⟨h2, h3⟩
      · rw [hp] at h1; cases h1
      · rw [hp] at h1; cases h1
    · rintro e w' ⟨a, c, a', c', h1, _, _, h4⟩
      exact .inl ⟨hp, _, _, h1, h4⟩
  · rcases idxB_cases (isW nm) L with ⟨hi, _⟩ | ⟨k, hk, hi, _, _⟩
    · refine (pFind_core w _ nm zWC zC 6 none none 0 0 0 0 [] [] ⟨_, _, rfl⟩ (fun V h => (hf V h).mono ?_) rfl zWC_one rfl rfl zC_one rfl Sx.nil Sx.nil (by omega) (by omega)).mono ?_
      · rintro e w' (⟨h1, _⟩ | ⟨_, _, h2, h3⟩ | ⟨_, k, _, s, h1, _⟩)
        · rw [hp] at h1; cases h1
        · exact ⟨h2, h3⟩
        · omega
      · rintro e w' ⟨a, c, a', c', h1, _, _, h4⟩
        exact .inr (.inl ⟨hp, hi, _, _, h1, h4⟩)
    · obtain ⟨s, hs, hsf, hwb⟩ := plan_wall hk hp
      have hsb := plan_sheet hp hs
      refine (pFind_core w _ nm (cWa L[k]) (cS s) 0 L[k].oa s.ha L[k].on L[k].oc s.hn s.hc L[k].ops s.hs ⟨_, _, rfl⟩ (fun V h => (hf V h).mono ?_) rfl (cWa_one _) rfl rfl (cS_one _) rfl (hL.opn _ (List.getElem_mem hk)) (hS.hts _ hs) (by have := wall_small hwb; omega) (by have := sheet_small hsb; omega)).mono ?_
      · rintro e w' (⟨h1, _⟩ | ⟨_, h1, _⟩ | ⟨_, k', hk', s', h1, _, h2, h3, h4⟩)
        · rw [hp] at h1; cases h1
        · omega
        · obtain rfl : k' = k := by omega
          rw [hsf] at h2
          cases h2
          exact ⟨h3, h4⟩
      · rintro e w' ⟨a, c, a', c', h1, h2, h3, h4⟩
        refine .inr (.inr ⟨hp, k, hk, s, hi, hs, hsf, { L[k] with oa := a, oc := c }, { s with ha := a', hc := c' }, rfl, rfl, ?_, h2, h3, h4⟩)
        rw [h1, cWa_set, cS_set]
end Go.Proofs.YtchignmnnbepnaaGreat

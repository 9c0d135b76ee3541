/- plan.Find: a wall with its sheet -/
/- a wall for the program -/
import Derived.Test.YtchignmnnbepnaaGreatJ16
import Derived.Test.YtchignmnnbepnaaGreatJ23
namespace Go.Proofs.YtchignmnnbepnaaGreat
open Go.RowKit
def zWC : List Value := [.string ⟨#[]⟩, .string ⟨#[]⟩, .int .i64 0, .slice none 0 0]
def zW : Value := .agg zWC.toArray
theorem zero_Wall : (Tryz.prog.info? 91).map (·.zero) = some (some zW) := by kernel_rfl
theorem zWC_one : zWC.toArray.all (·.oneCell') = true := by simp [zWC, Value.oneCell']
theorem cWa_one (x : Wal) : (cWa x).toArray.all (·.oneCell') = true := by simp [cWa, Value.oneCell']
/-- what is found: the wall, its sheet; the error -/
def RetFind (w : World) (S : List Sht) (L : List Wal) (nm : ByteArray) (e : Ending) (w' : World) : Prop :=
  (planB S L = false ∧ e = .returned (.tuple #[.agg zWC.toArray, .agg zC.toArray, .int .i64 2]) ∧ Below w.heap.size w w')
  ∨ (planB S L = true ∧ idxB (isW nm) L = -1 ∧ e = .returned (.tuple #[.agg zWC.toArray, .agg zC.toArray, .int .i64 6]) ∧ Below w.heap.size w w')
  ∨ (planB S L = true ∧ ∃ (k : Nat) (hk : k < L.length) (s : Sht), idxB (isW nm) L = k ∧ s ∈ S ∧ S.find? (isS L[k].sheet) = some s ∧ e = .returned (.tuple #[.agg (cWa L[k]).toArray, .agg (cS s).toArray, .int .i64 0]) ∧ Below w.heap.size w w')
section
variable (w : World)
set_option maxHeartbeats 32000000 in
set_option maxRecDepth 100000 in
theorem pfind_any (sa wa : Option Addr) (sn sc wn wc : Nat) (S : List Sht) (L : List Wal) (nm : ByteArray) (hS : Shts w sa sn sc S) (hL : Wals w wa wn wc L) :
    Calls Tryz.prog 68 #[.agg #[.slice sa sn sc, .slice wa wn wc], .string nm] w (RetFind w S L nm) := by
  obtain rfl := hS.row.nS
  obtain rfl := hL.row.nWa
  have hcw := hL.row.cap
  unfold maxLen at hcw
  have HS := Lib.hid hS
  have HL := Lib.hid hL
  clear hS hL
  have HCH := Lib.hid (fun W (hW : Below w.heap.size w W) => pcheck_any W sa wa S.length sc L.length wc S L (HS.out.below hW) (HL.out.below hW))
  have HWL := Lib.hid (fun W (hW : Below w.heap.size w W) => pwall_any W (.slice sa S.length sc) wa L.length wc L nm (HL.out.row.below hW))
  have HRF := Lib.hid (show ∀ W, Below w.heap.size w W → planB S L = false → RetFind w S L nm (.returned (.tuple #[.agg zWC.toArray, .agg zC.toArray, .int .i64 2])) W from fun W h hp => .inl ⟨hp, rfl, h⟩)
  have HRG := Lib.hid (show ∀ W, Below w.heap.size w W → planB S L = true → idxB (isW nm) L = -1 → RetFind w S L nm (.returned (.tuple #[.agg zWC.toArray, .agg zC.toArray, .int .i64 6])) W from fun W h hp hi => .inr (.inl ⟨hp, hi, rfl, h⟩))
  have HRH := Lib.hid (show ∀ W, Below w.heap.size w W → planB S L = true → ∀ (k : Nat) (hk : k < L.length) (s : Sht), idxB (isW nm) L = k → s ∈ S → S.find? (isS L[k].sheet) = some s → RetFind w S L nm (.returned (.tuple #[.agg (cWa L[k]).toArray, .agg (cS s).toArray, .int .i64 0])) W from fun W h hp k hk s hi hs hf => .inr (.inr ⟨hp, k, hk, s, hi, hs, hf, rfl, h⟩))
  generalize RetFind w S L nm = RR at *
  go_enter Tryz.func68, Tryz.ntmps68
  go_upto_region 1 with (first | (refine wpList_bx (o := ⟨some 2, _, _, _, _, _⟩) rfl (Sy.enter w) _ _ rfl #[.slice sa S.length sc, .slice wa L.length wc] rfl ?_; intro bp V1 h1; have hA := Lib.hid h1; clear h1) | (refine wpList_al (o := ⟨some 4, _, _, _, _, _⟩) rfl hA.out _ rfl zW zero_Wall ?_; intro b4 V2 h2; have hB := Lib.hid h2; clear h2) | (refine wpList_al (o := ⟨some 5, _, _, _, _, _⟩) rfl hB.out _ rfl zS zero_Sheet ?_; intro b5 V3 h3; have hC := Lib.hid h3; clear h3 hA hB) | fail)
  have x0 : V3.cell? ⟨bp, 0, none⟩ = some (.slice sa S.length sc) := hC.out.cell 0 0 rfl rfl
  have x1 : V3.cell? ⟨bp, 1, none⟩ = some (.slice wa L.length wc) := hC.out.cell 0 1 rfl rfl
  go_wp2_with fail
  refine (HCH.out _ hC.out.be).mono ?_
  rintro e w4 ⟨rfl, hb⟩
  have hD := Lib.hid (hC.out.call hb)
  clear hb hC x0 x1 HCH
  cases hp : planB S L
  · have HP := Lib.hid hp
    rw [show errB false = 2 from rfl]
    clear hp HRG HRH
    go_upto_region 3 with fail
    go_wp2_with (first | (refine wpList_st (o := ⟨none, _, _, _, _, _⟩) rfl hD.out 1 rfl _ _ _ rfl rfl zWC.toArray rfl info_Wall rfl zWC_one ?_; intro V4 h4; have hE0 := Lib.hid h4; clear h4) | (refine wpList_st (o := ⟨none, _, _, _, _, _⟩) rfl hE0.out 2 rfl _ _ _ rfl rfl zC.toArray rfl info_Sheet rfl zC_one ?_; intro V5 h5; have hE := Lib.hid h5; clear h5 hE0 hD) | fail)
    refine bodyPost_ret (results_cell2_tmp_row Tryz.results68 _ _ b4 b5 91 92 zWC.toArray zC.toArray (0, 0) (0, 0) _ _ rfl (hE.out.at_ 1 rfl).2 Tryz.underlying91 rfl info_Wall rfl (hE.out.at_ 2 rfl).2 Tryz.underlying92 rfl info_Sheet) rfl ?_
    exact HRF.out _ hE.out.be HP.out
  rw [show errB true = 0 from rfl]
  have HP := Lib.hid hp
  clear hp HRF
  have x0 : w4.cell? ⟨bp, 0, none⟩ = some (.slice sa S.length sc) := hD.out.cell 0 0 rfl rfl
  have x1 : w4.cell? ⟨bp, 1, none⟩ = some (.slice wa L.length wc) := hD.out.cell 0 1 rfl rfl
  go_wp2_with fail
  refine (HWL.out _ hD.out.be).mono ?_
  rintro e w5 ⟨rfl, hb⟩
  have hF := Lib.hid (hD.out.call hb)
  clear hb hD x0 x1 HWL
  rcases idxB_cases (isW nm) L with ⟨h1, -⟩ | ⟨k, hk, h1, -, -⟩
  · have H1 := Lib.hid h1
    rw [h1]
    clear h1 HRH
    go_upto_region 6 with fail
    go_wp2_with (first | (refine wpList_st (o := ⟨none, _, _, _, _, _⟩) rfl hF.out 1 rfl _ _ _ rfl rfl zWC.toArray rfl info_Wall rfl zWC_one ?_; intro V4 h4; have hE0 := Lib.hid h4; clear h4) | (refine wpList_st (o := ⟨none, _, _, _, _, _⟩) rfl hE0.out 2 rfl _ _ _ rfl rfl zC.toArray rfl info_Sheet rfl zC_one ?_; intro V5 h5; have hE := Lib.hid h5; clear h5 hE0 hF) | fail)
    refine bodyPost_ret (results_cell2_tmp_row Tryz.results68 _ _ b4 b5 91 92 zWC.toArray zC.toArray (0, 0) (0, 0) _ _ rfl (hE.out.at_ 1 rfl).2 Tryz.underlying91 rfl info_Wall rfl (hE.out.at_ 2 rfl).2 Tryz.underlying92 rfl info_Sheet) rfl ?_
    exact HRG.out _ hE.out.be HP.out H1.out
  have H1 := Lib.hid h1
  rw [h1]
  clear h1 HRG
  obtain ⟨g1, o1, rfl⟩ := HL.out.row.addr (by omega)
  obtain ⟨s, hsm, hsf⟩ : ∃ s, s ∈ S ∧ S.find? (isS L[k].sheet) = some s := by
    have h := (planB_iff.1 HP.out).2.2.2 k hk
    rw [okWall_at hk] at h
    cases hf : S.find? (isS L[k].sheet) with
    | none => rw [hf] at h; cases h
    | some s => exact ⟨s, List.mem_of_find?_eq_some hf, rfl⟩
  have HRR := Lib.hid (fun W h => HRH.out W h HP.out k hk s H1.out hsm hsf)
  have HY := Lib.hid (fun W (hW : Below w.heap.size w W) => (HL.out.row.below hW).atWa hk)
  have HSH := Lib.hid (fun W (hW : Below w.heap.size w W) => psheet_any W sa S.length sc S (.slice (some ⟨g1, o1, none⟩) L.length wc) L[k].sheet (HS.out.row.below hW))
  unfold RetTheS at HSH
  rw [theS_some hsf] at HSH
  dsimp only at HSH
  obtain ⟨V, hV⟩ : ∃ V, Value.agg (cS s).toArray = V := ⟨_, rfl⟩
  have HV := Lib.hid hV
  rw [hV] at HSH
  have i0 : (0 : Int) ≤ (k : Int) := by omega
  have i1 : (k : Int) < (L.length : Int) := by omega
  clear hV hsm hsf HRH
  generalize L[k] = x at *
  go_upto_region 7 with fail
  refine wp_region_held_drew (S := (fun w' => w'.cell? ⟨bp, 0, none⟩ = some (.slice sa S.length sc) ∧ w'.cell? ⟨bp, 1, none⟩ = some (.slice (some ⟨g1, o1, none⟩) L.length wc) ∧ w'.cell? ⟨g1, o1 + k * 4 + 1, none⟩ = some (.string x.sheet) ∧ True)) (by kernel_rfl) ⟨hF.out.drew.cell 0 0 rfl rfl, hF.out.drew.cell 0 1 rfl rfl, (HY.out _ hF.out.drew.be).2.1, trivial⟩ (fun hH => ?_)
  refine wpAnyH_geny (show Sy w _ [(bp, #[.slice sa S.length sc, .slice (some ⟨g1, o1, none⟩) L.length wc], 38), (b4, zW.cells, 91), (b5, zS.cells, 92)] [] [] from hF.out.drew) hH ?_
  intro VG_0 hc hHG_0
  have hVG_0 := Lib.hid hc
  clear hc hH hF
  refine wpAnyH_take (i := 0) (oi := ⟨_, _, _, _, _, _⟩) (v := ?_) rfl (by kernel_rfl) (by kernel_rfl) (by kernel_rfl) (fun _ _ _ h => h) (Or.inl ⟨by rfl, ?_⟩) hHG_0 ?_
  rotate_left
  · intro wS hSw; (try dsimp only at hSw); go_simp; try with_reducible rfl
  try simp only [Act.put, List.setIfInBounds_toArray, List.set_cons_zero, List.set_cons_succ]
  refine wpAnyH_take (i := 1) (oi := ⟨_, _, _, _, _, _⟩) (v := ?_) rfl (by kernel_rfl) (by kernel_rfl) (by kernel_rfl) (fun _ _ _ h => h) (Or.inl ⟨by rfl, ?_⟩) hHG_0 ?_
  rotate_left
  · intro wS hSw; (try dsimp only at hSw); go_simp; try with_reducible rfl
  try simp only [Act.put, List.setIfInBounds_toArray, List.set_cons_zero, List.set_cons_succ]
  refine wpAnyH_take (i := 2) (oi := ⟨_, _, _, _, _, _⟩) (v := ?_) rfl (by kernel_rfl) (by kernel_rfl) (by kernel_rfl) (fun _ _ _ h => h) (Or.inl ⟨by rfl, ?_⟩) hHG_0 ?_
  rotate_left
  · intro wS hSw; (try dsimp only at hSw); go_simp; try with_reducible rfl
  try simp only [Act.put, List.setIfInBounds_toArray, List.set_cons_zero, List.set_cons_succ]
  refine wpAnyH_take (i := 3) (oi := ⟨_, _, _, _, _, _⟩) (v := ?_) rfl (by kernel_rfl) (by kernel_rfl) (by kernel_rfl) (fun _ _ _ h => h) (Or.inl ⟨by rfl, ?_⟩) hHG_0 ?_
  rotate_left
  · intro wS hSw; (try dsimp only at hSw); go_simp; try with_reducible rfl
  try simp only [Act.put, List.setIfInBounds_toArray, List.set_cons_zero, List.set_cons_succ]
  refine wpAnyH_take (i := 4) (oi := ⟨_, _, _, _, _, _⟩) (v := ?_) rfl (by kernel_rfl) (by kernel_rfl) (by kernel_rfl) (fun _ _ _ h => h) (Or.inl ⟨by rfl, ?_⟩) hHG_0 ?_
  rotate_left
  · intro wS hSw; (try dsimp only at hSw); go_simp; try with_reducible rfl
  try simp only [Act.put, List.setIfInBounds_toArray, List.set_cons_zero, List.set_cons_succ]
  refine wpAnyH_take (i := 5) (oi := ⟨_, _, _, _, _, _⟩) (v := ?_) rfl (by kernel_rfl) (by kernel_rfl) (by kernel_rfl) (fun _ _ _ h => h) (Or.inl ⟨by rfl, ?_⟩) hHG_0 ?_
  rotate_left
  · intro wS hSw; (try dsimp only at hSw); go_simp; try with_reducible rfl
  try simp only [Act.put, List.setIfInBounds_toArray, List.set_cons_zero, List.set_cons_succ]
  refine wpAnyH_take (i := 6) (oi := ⟨_, _, _, _, _, _⟩) (v := ?_) rfl (by kernel_rfl) (by kernel_rfl) (by kernel_rfl) (fun _ _ _ h => h) (Or.inl ⟨by rfl, ?_⟩) hHG_0 ?_
  rotate_left
  · intro wS hSw; (try dsimp only at hSw); go_simp; try with_reducible rfl
  try simp only [Act.put, List.setIfInBounds_toArray, List.set_cons_zero, List.set_cons_succ]
  refine wpAnyH_ready (rs := [7, 11]) (by kernel_rfl) (by simp) ?_
  refine AllReadyH.cons (o := ⟨_, _, _, _, _, _⟩) rfl (fun Kq hKq => ?_) ?_
  · go_simp
    go_at_call 63
    refine (HSH.out _ hVG_0.out.be).mono ?_
    rintro e wT ⟨rfl, hb⟩
    (try go_wp2_with fail)
    refine stepY hKq (show Sy w _ [(bp, #[.slice sa S.length sc, .slice (some ⟨g1, o1, none⟩) L.length wc], 38), (b4, zW.cells, 91), (b5, zS.cells, 92)] [] [] from (hVG_0.out.call hb)) (fun _ hX => ⟨hX.cell 0 0 rfl rfl, hX.cell 0 1 rfl rfl, (HY.out _ hX.be).2.1, trivial⟩) ?_
    intro VG_1 hc hHG_1
    have hVG_1 := Lib.hid hc
    clear hc hKq Kq hVG_0 hb hHG_0
    try simp only [Act.put, List.setIfInBounds_toArray, List.set_cons_zero, List.set_cons_succ]
    refine wpAnyH_take (i := 8) (oi := ⟨_, _, _, _, _, _⟩) (v := ?_) rfl (by kernel_rfl) (by kernel_rfl) (by kernel_rfl) (fun _ _ _ h => h) (Or.inl ⟨by rfl, ?_⟩) hHG_1 ?_
    rotate_left
    · intro wS hSw; (try dsimp only at hSw); go_simp; try with_reducible rfl
    try simp only [Act.put, List.setIfInBounds_toArray, List.set_cons_zero, List.set_cons_succ]
    refine wpAnyH_take (i := 9) (oi := ⟨_, _, _, _, _, _⟩) (v := ?_) rfl (by kernel_rfl) (by kernel_rfl) (by kernel_rfl) (fun _ _ _ h => h) (Or.inl ⟨by rfl, ?_⟩) hHG_1 ?_
    rotate_left
    · intro wS hSw; (try dsimp only at hSw); go_simp; try with_reducible rfl
    try simp only [Act.put, List.setIfInBounds_toArray, List.set_cons_zero, List.set_cons_succ]
    refine wpAnyH_take (i := 10) (oi := ⟨_, _, _, _, _, _⟩) (v := ?_) rfl (by kernel_rfl) (by kernel_rfl) (by kernel_rfl) (fun _ _ _ h => h) (Or.inl ⟨by rfl, ?_⟩) hHG_1 ?_
    rotate_left
    · intro wS hSw; (try dsimp only at hSw); go_simp; try with_reducible rfl
    try simp only [Act.put, List.setIfInBounds_toArray, List.set_cons_zero, List.set_cons_succ]
    refine wpAnyH_ready (rs := [11]) (by kernel_rfl) (by simp) ?_
    refine AllReadyH.cons (o := ⟨_, _, _, _, _, _⟩) rfl (fun Kq hKq => ?_) AllReadyH.nil
    rw [if_pos (by rfl)]
    refine op_al hVG_1.out _ rfl (zS) zero_Sheet (fun bZG_2 _ hc => ?_)
    refine stepY hKq (show Sy w _ [(bp, #[.slice sa S.length sc, .slice (some ⟨g1, o1, none⟩) L.length wc], 38), (b4, zW.cells, 91), (b5, zS.cells, 92), (bZG_2, (zS).cells, 92)] [] [] from hc) (fun _ hX => ⟨hX.cell 0 0 rfl rfl, hX.cell 0 1 rfl rfl, (HY.out _ hX.be).2.1, trivial⟩) ?_
    intro VG_2 hc2 hHG_2
    have hVG_2 := Lib.hid hc2
    clear hc2 hKq Kq hVG_1 hc hHG_1
    try simp only [Act.put, List.setIfInBounds_toArray, List.set_cons_zero, List.set_cons_succ]
    refine wpAnyH_ready (rs := [12]) (by kernel_rfl) (by simp) ?_
    refine AllReadyH.cons (o := ⟨_, _, _, _, _, _⟩) rfl (fun Kq hKq => ?_) AllReadyH.nil
    rw [if_pos (by rfl)]
    refine op_st hVG_2.out 3 rfl _ _ _ rfl rfl ((cS s).toArray) (HV.out.symm) (info_Sheet) (by rfl) (cS_one s) (fun _ hc => ?_)
    refine stepY hKq (show Sy w _ [(bp, #[.slice sa S.length sc, .slice (some ⟨g1, o1, none⟩) L.length wc], 38), (b4, zW.cells, 91), (b5, zS.cells, 92), (bZG_2, (cS s).toArray, 92)] [] [] from hc) (fun _ hX => ⟨hX.cell 0 0 rfl rfl, hX.cell 0 1 rfl rfl, (HY.out _ hX.be).2.1, trivial⟩) ?_
    intro VG_3 hc2 hHG_3
    have hVG_3 := Lib.hid hc2
    clear hc2 hKq Kq hVG_2 hc hHG_2
    try simp only [Act.put]
    refine wpAnyH_ready (rs := [13]) (by kernel_rfl) (by simp) ?_
    refine AllReadyH.cons (o := ⟨_, _, _, _, _, _⟩) rfl (fun Kq hKq => ?_) AllReadyH.nil
    go_simp
    refine stepY hKq (show Sy w _ [(bp, #[.slice sa S.length sc, .slice (some ⟨g1, o1, none⟩) L.length wc], 38), (b4, zW.cells, 91), (b5, zS.cells, 92), (bZG_2, (cS s).toArray, 92)] [] [] from hVG_3.out) (fun _ hX => ⟨hX.cell 0 0 rfl rfl, hX.cell 0 1 rfl rfl, (HY.out _ hX.be).2.1, trivial⟩) ?_
    intro VG_4 hc hHG_4
    have hVG_4 := Lib.hid hc
    clear hc hKq Kq hVG_3 hHG_3
    try simp only [Act.put, List.setIfInBounds_toArray, List.set_cons_zero, List.set_cons_succ]
    refine wpAnyH_done (by kernel_rfl) ?_ _
    have hG : Hid (Sy w _ [(bp, #[.slice sa S.length sc, .slice (some ⟨g1, o1, none⟩) L.length wc], 38), (b4, zW.cells, 91), (b5, zS.cells, 92), (bZG_2, (cS s).toArray, 92)] [] []) := hVG_4
    clear hVG_4 HSH
    obtain ⟨b9, hb9⟩ : ∃ b9, bZG_2 = b9 := ⟨_, rfl⟩
    rw [hb9] at hG ⊢
    clear hb9
    go_upto_region 8 with fail
    refine wp_region_held_drew (S := (fun w' => w'.cell? ⟨bp, 0, none⟩ = some (.slice sa S.length sc) ∧ w'.cell? ⟨bp, 1, none⟩ = some (.slice (some ⟨g1, o1, none⟩) L.length wc) ∧ w'.cell? ⟨g1, o1 + k * 4, none⟩ = some (.string x.name) ∧ w'.cell? ⟨g1, o1 + k * 4 + 1, none⟩ = some (.string x.sheet) ∧ w'.cell? ⟨g1, o1 + k * 4 + 2, none⟩ = some (.int .i64 x.len) ∧ w'.cell? ⟨g1, o1 + k * 4 + 3, none⟩ = some (.slice x.oa x.on x.oc) ∧ w'.rangeAt b9 0 (cS s) ∧ True)) (by kernel_rfl) ⟨hG.out.drew.cell 0 0 rfl rfl, hG.out.drew.cell 0 1 rfl rfl, (HY.out _ hG.out.drew.be).1, (HY.out _ hG.out.drew.be).2.1, (HY.out _ hG.out.drew.be).2.2.1, (HY.out _ hG.out.drew.be).2.2.2, hG.out.drew.range 3 rfl, trivial⟩ (fun hH => ?_)
    refine wpAnyH_geny (show Sy w _ [(bp, #[.slice sa S.length sc, .slice (some ⟨g1, o1, none⟩) L.length wc], 38), (b4, zW.cells, 91), (b5, zS.cells, 92), (b9, (cS s).toArray, 92)] [] [] from hG.out.drew) hH ?_
    intro VH_0 hc hHH_0
    have hVH_0 := Lib.hid hc
    clear hc hH hG
    refine wpAnyH_take (i := 0) (oi := ⟨_, _, _, _, _, _⟩) (v := ?_) rfl (by kernel_rfl) (by kernel_rfl) (by kernel_rfl) (fun _ _ _ h => h) (Or.inl ⟨by rfl, ?_⟩) hHH_0 ?_
    rotate_left
    · intro wS hSw; (try dsimp only at hSw); go_simp; try with_reducible rfl
    try simp only [Act.put, List.setIfInBounds_toArray, List.set_cons_zero, List.set_cons_succ]
    refine wpAnyH_take (i := 1) (oi := ⟨_, _, _, _, _, _⟩) (v := ?_) rfl (by kernel_rfl) (by kernel_rfl) (by kernel_rfl) (fun _ _ _ h => h) (Or.inl ⟨by rfl, ?_⟩) hHH_0 ?_
    rotate_left
    · intro wS hSw; (try dsimp only at hSw); go_simp; try with_reducible rfl
    try simp only [Act.put, List.setIfInBounds_toArray, List.set_cons_zero, List.set_cons_succ]
    refine wpAnyH_take (i := 2) (oi := ⟨_, _, _, _, _, _⟩) (v := ?_) rfl (by kernel_rfl) (by kernel_rfl) (by kernel_rfl) (fun _ _ _ h => h) (Or.inl ⟨by rfl, ?_⟩) hHH_0 ?_
    rotate_left
    · intro wS hSw; (try dsimp only at hSw); go_simp; try with_reducible rfl
    try simp only [Act.put, List.setIfInBounds_toArray, List.set_cons_zero, List.set_cons_succ]
    refine wpAnyH_take (i := 3) (oi := ⟨_, _, _, _, _, _⟩) (v := ?_) rfl (by kernel_rfl) (by kernel_rfl) (by kernel_rfl) (fun _ _ _ h => h) (Or.inl ⟨by rfl, ?_⟩) hHH_0 ?_
    rotate_left
    · intro wS hSw; (try dsimp only at hSw); go_simp; try with_reducible rfl
    try simp only [Act.put, List.setIfInBounds_toArray, List.set_cons_zero, List.set_cons_succ]
    refine wpAnyH_take (i := 4) (oi := ⟨_, _, _, _, _, _⟩) (v := ?_) rfl (by kernel_rfl) (by kernel_rfl) (by kernel_rfl) (fun _ _ _ h => h) (Or.inl ⟨by rfl, ?_⟩) hHH_0 ?_
    rotate_left
    · intro wS hSw; (try dsimp only at hSw); go_simp; try with_reducible rfl
    try simp only [Act.put, List.setIfInBounds_toArray, List.set_cons_zero, List.set_cons_succ]
    refine wpAnyH_take (i := 5) (oi := ⟨_, _, _, _, _, _⟩) (v := V) rfl (by kernel_rfl) (by kernel_rfl) (by kernel_rfl) (fun _ _ _ h => h) (yieldsIf_ld (by rfl) _ _ rfl b9 0 rfl (cS s) _ (fun _ h => h.2.2.2.2.2.2.1) Tryz.underlying92 rfl info_Sheet V HV.out) hHH_0 ?_
    try simp only [Act.put, List.setIfInBounds_toArray, List.set_cons_zero, List.set_cons_succ]
    refine wpAnyH_ready (rs := [6]) (by kernel_rfl) (by simp) ?_
    refine AllReadyH.cons (o := ⟨_, _, _, _, _, _⟩) rfl (fun Kq hKq => ?_) AllReadyH.nil
    rw [if_pos (by rfl)]
    refine op_st hVH_0.out 1 rfl _ _ _ rfl rfl ((cWa x).toArray) (rfl) (info_Wall) (by rfl) (cWa_one x) (fun _ hc => ?_)
    refine stepY hKq (show Sy w _ [(bp, #[.slice sa S.length sc, .slice (some ⟨g1, o1, none⟩) L.length wc], 38), (b4, (cWa x).toArray, 91), (b5, zS.cells, 92), (b9, (cS s).toArray, 92)] [] [] from hc) (fun _ hX => ⟨hX.cell 0 0 rfl rfl, hX.cell 0 1 rfl rfl, (HY.out _ hX.be).1, (HY.out _ hX.be).2.1, (HY.out _ hX.be).2.2.1, (HY.out _ hX.be).2.2.2, hX.range 3 rfl, trivial⟩) ?_
    intro VH_1 hc2 hHH_1
    have hVH_1 := Lib.hid hc2
    clear hc2 hKq Kq hVH_0 hc hHH_0
    try simp only [Act.put]
    refine wpAnyH_ready (rs := [7]) (by kernel_rfl) (by simp) ?_
    refine AllReadyH.cons (o := ⟨_, _, _, _, _, _⟩) rfl (fun Kq hKq => ?_) AllReadyH.nil
    rw [if_pos (by rfl)]
    refine op_st hVH_1.out 2 rfl _ _ _ rfl rfl ((cS s).toArray) (HV.out.symm) (info_Sheet) (by rfl) (cS_one s) (fun _ hc => ?_)
    refine stepY hKq (show Sy w _ [(bp, #[.slice sa S.length sc, .slice (some ⟨g1, o1, none⟩) L.length wc], 38), (b4, (cWa x).toArray, 91), (b5, (cS s).toArray, 92), (b9, (cS s).toArray, 92)] [] [] from hc) (fun _ hX => ⟨hX.cell 0 0 rfl rfl, hX.cell 0 1 rfl rfl, (HY.out _ hX.be).1, (HY.out _ hX.be).2.1, (HY.out _ hX.be).2.2.1, (HY.out _ hX.be).2.2.2, hX.range 3 rfl, trivial⟩) ?_
    intro VH_2 hc2 hHH_2
    have hVH_2 := Lib.hid hc2
    clear hc2 hKq Kq hVH_1 hc hHH_1
    try simp only [Act.put]
    refine wpAnyH_ready (rs := [8]) (by kernel_rfl) (by simp) ?_
    refine AllReadyH.cons (o := ⟨_, _, _, _, _, _⟩) rfl (fun Kq hKq => ?_) AllReadyH.nil
    go_simp
    refine stepY hKq (show Sy w _ [(bp, #[.slice sa S.length sc, .slice (some ⟨g1, o1, none⟩) L.length wc], 38), (b4, (cWa x).toArray, 91), (b5, (cS s).toArray, 92), (b9, (cS s).toArray, 92)] [] [] from hVH_2.out) (fun _ hX => ⟨hX.cell 0 0 rfl rfl, hX.cell 0 1 rfl rfl, (HY.out _ hX.be).1, (HY.out _ hX.be).2.1, (HY.out _ hX.be).2.2.1, (HY.out _ hX.be).2.2.2, hX.range 3 rfl, trivial⟩) ?_
    intro VH_3 hc hHH_3
    have hVH_3 := Lib.hid hc
    clear hc hKq Kq hVH_2 hHH_2
    try simp only [Act.put, List.setIfInBounds_toArray, List.set_cons_zero, List.set_cons_succ]
    refine wpAnyH_done (by kernel_rfl) ?_ _
    go_wp2
    refine bodyPost_ret (results_cell2_tmp_row Tryz.results68 _ _ b4 b5 91 92 (cWa x).toArray (cS s).toArray (0, 0) (0, 0) _ _ rfl (hVH_3.out.at_ 1 rfl).2 Tryz.underlying91 rfl info_Wall rfl (hVH_3.out.at_ 2 rfl).2 Tryz.underlying92 rfl info_Sheet) rfl ?_
    exact HRR.out _ hVH_3.out.be
  refine AllReadyH.cons (o := ⟨_, _, _, _, _, _⟩) rfl (fun Kq hKq => ?_) ?_
  · rw [if_pos (by rfl)]
    refine op_al hVG_0.out _ rfl (zS) zero_Sheet (fun bZG_1 _ hc => ?_)
    refine stepY hKq (show Sy w _ [(bp, #[.slice sa S.length sc, .slice (some ⟨g1, o1, none⟩) L.length wc], 38), (b4, zW.cells, 91), (b5, zS.cells, 92), (bZG_1, (zS).cells, 92)] [] [] from hc) (fun _ hX => ⟨hX.cell 0 0 rfl rfl, hX.cell 0 1 rfl rfl, (HY.out _ hX.be).2.1, trivial⟩) ?_
    intro VG_1 hc2 hHG_1
    have hVG_1 := Lib.hid hc2
    clear hc2 hKq Kq hVG_0 hc hHG_0
    try simp only [Act.put, List.setIfInBounds_toArray, List.set_cons_zero, List.set_cons_succ]
    refine wpAnyH_ready (rs := [7]) (by kernel_rfl) (by simp) ?_
    refine AllReadyH.cons (o := ⟨_, _, _, _, _, _⟩) rfl (fun Kq hKq => ?_) AllReadyH.nil
    go_simp
    go_at_call 63
    refine (HSH.out _ hVG_1.out.be).mono ?_
    rintro e wT ⟨rfl, hb⟩
    (try go_wp2_with fail)
    refine stepY hKq (show Sy w _ [(bp, #[.slice sa S.length sc, .slice (some ⟨g1, o1, none⟩) L.length wc], 38), (b4, zW.cells, 91), (b5, zS.cells, 92), (bZG_1, (zS).cells, 92)] [] [] from (hVG_1.out.call hb)) (fun _ hX => ⟨hX.cell 0 0 rfl rfl, hX.cell 0 1 rfl rfl, (HY.out _ hX.be).2.1, trivial⟩) ?_
    intro VG_2 hc hHG_2
    have hVG_2 := Lib.hid hc
    clear hc hKq Kq hVG_1 hb hHG_1
    try simp only [Act.put, List.setIfInBounds_toArray, List.set_cons_zero, List.set_cons_succ]
    refine wpAnyH_take (i := 8) (oi := ⟨_, _, _, _, _, _⟩) (v := ?_) rfl (by kernel_rfl) (by kernel_rfl) (by kernel_rfl) (fun _ _ _ h => h) (Or.inl ⟨by rfl, ?_⟩) hHG_2 ?_
    rotate_left
    · intro wS hSw; (try dsimp only at hSw); go_simp; try with_reducible rfl
    try simp only [Act.put, List.setIfInBounds_toArray, List.set_cons_zero, List.set_cons_succ]
    refine wpAnyH_take (i := 9) (oi := ⟨_, _, _, _, _, _⟩) (v := ?_) rfl (by kernel_rfl) (by kernel_rfl) (by kernel_rfl) (fun _ _ _ h => h) (Or.inl ⟨by rfl, ?_⟩) hHG_2 ?_
    rotate_left
    · intro wS hSw; (try dsimp only at hSw); go_simp; try with_reducible rfl
    try simp only [Act.put, List.setIfInBounds_toArray, List.set_cons_zero, List.set_cons_succ]
    refine wpAnyH_take (i := 10) (oi := ⟨_, _, _, _, _, _⟩) (v := ?_) rfl (by kernel_rfl) (by kernel_rfl) (by kernel_rfl) (fun _ _ _ h => h) (Or.inl ⟨by rfl, ?_⟩) hHG_2 ?_
    rotate_left
    · intro wS hSw; (try dsimp only at hSw); go_simp; try with_reducible rfl
    try simp only [Act.put, List.setIfInBounds_toArray, List.set_cons_zero, List.set_cons_succ]
    refine wpAnyH_ready (rs := [12]) (by kernel_rfl) (by simp) ?_
    refine AllReadyH.cons (o := ⟨_, _, _, _, _, _⟩) rfl (fun Kq hKq => ?_) AllReadyH.nil
    rw [if_pos (by rfl)]
    refine op_st hVG_2.out 3 rfl _ _ _ rfl rfl ((cS s).toArray) (HV.out.symm) (info_Sheet) (by rfl) (cS_one s) (fun _ hc => ?_)
    refine stepY hKq (show Sy w _ [(bp, #[.slice sa S.length sc, .slice (some ⟨g1, o1, none⟩) L.length wc], 38), (b4, zW.cells, 91), (b5, zS.cells, 92), (bZG_1, (cS s).toArray, 92)] [] [] from hc) (fun _ hX => ⟨hX.cell 0 0 rfl rfl, hX.cell 0 1 rfl rfl, (HY.out _ hX.be).2.1, trivial⟩) ?_
    intro VG_3 hc2 hHG_3
    have hVG_3 := Lib.hid hc2
    clear hc2 hKq Kq hVG_2 hc hHG_2
    try simp only [Act.put]
    refine wpAnyH_ready (rs := [13]) (by kernel_rfl) (by simp) ?_
    refine AllReadyH.cons (o := ⟨_, _, _, _, _, _⟩) rfl (fun Kq hKq => ?_) AllReadyH.nil
    go_simp
    refine stepY hKq (show Sy w _ [(bp, #[.slice sa S.length sc, .slice (some ⟨g1, o1, none⟩) L.length wc], 38), (b4, zW.cells, 91), (b5, zS.cells, 92), (bZG_1, (cS s).toArray, 92)] [] [] from hVG_3.out) (fun _ hX => ⟨hX.cell 0 0 rfl rfl, hX.cell 0 1 rfl rfl, (HY.out _ hX.be).2.1, trivial⟩) ?_
    intro VG_4 hc hHG_4
    have hVG_4 := Lib.hid hc
    clear hc hKq Kq hVG_3 hHG_3
    try simp only [Act.put, List.setIfInBounds_toArray, List.set_cons_zero, List.set_cons_succ]
    refine wpAnyH_done (by kernel_rfl) ?_ _
    have hG : Hid (Sy w _ [(bp, #[.slice sa S.length sc, .slice (some ⟨g1, o1, none⟩) L.length wc], 38), (b4, zW.cells, 91), (b5, zS.cells, 92), (bZG_1, (cS s).toArray, 92)] [] []) := hVG_4
    clear hVG_4 HSH
    obtain ⟨b9, hb9⟩ : ∃ b9, bZG_1 = b9 := ⟨_, rfl⟩
    rw [hb9] at hG ⊢
    clear hb9
    go_upto_region 8 with fail
    refine wp_region_held_drew (S := (fun w' => w'.cell? ⟨bp, 0, none⟩ = some (.slice sa S.length sc) ∧ w'.cell? ⟨bp, 1, none⟩ = some (.slice (some ⟨g1, o1, none⟩) L.length wc) ∧ w'.cell? ⟨g1, o1 + k * 4, none⟩ = some (.string x.name) ∧ w'.cell? ⟨g1, o1 + k * 4 + 1, none⟩ = some (.string x.sheet) ∧ w'.cell? ⟨g1, o1 + k * 4 + 2, none⟩ = some (.int .i64 x.len) ∧ w'.cell? ⟨g1, o1 + k * 4 + 3, none⟩ = some (.slice x.oa x.on x.oc) ∧ w'.rangeAt b9 0 (cS s) ∧ True)) (by kernel_rfl) ⟨hG.out.drew.cell 0 0 rfl rfl, hG.out.drew.cell 0 1 rfl rfl, (HY.out _ hG.out.drew.be).1, (HY.out _ hG.out.drew.be).2.1, (HY.out _ hG.out.drew.be).2.2.1, (HY.out _ hG.out.drew.be).2.2.2, hG.out.drew.range 3 rfl, trivial⟩ (fun hH => ?_)
    refine wpAnyH_geny (show Sy w _ [(bp, #[.slice sa S.length sc, .slice (some ⟨g1, o1, none⟩) L.length wc], 38), (b4, zW.cells, 91), (b5, zS.cells, 92), (b9, (cS s).toArray, 92)] [] [] from hG.out.drew) hH ?_
    intro VH_0 hc hHH_0
    have hVH_0 := Lib.hid hc
    clear hc hH hG
    refine wpAnyH_take (i := 0) (oi := ⟨_, _, _, _, _, _⟩) (v := ?_) rfl (by kernel_rfl) (by kernel_rfl) (by kernel_rfl) (fun _ _ _ h => h) (Or.inl ⟨by rfl, ?_⟩) hHH_0 ?_
    rotate_left
    · intro wS hSw; (try dsimp only at hSw); go_simp; try with_reducible rfl
    try simp only [Act.put, List.setIfInBounds_toArray, List.set_cons_zero, List.set_cons_succ]
    refine wpAnyH_take (i := 1) (oi := ⟨_, _, _, _, _, _⟩) (v := ?_) rfl (by kernel_rfl) (by kernel_rfl) (by kernel_rfl) (fun _ _ _ h => h) (Or.inl ⟨by rfl, ?_⟩) hHH_0 ?_
    rotate_left
    · intro wS hSw; (try dsimp only at hSw); go_simp; try with_reducible rfl
    try simp only [Act.put, List.setIfInBounds_toArray, List.set_cons_zero, List.set_cons_succ]
    refine wpAnyH_take (i := 2) (oi := ⟨_, _, _, _, _, _⟩) (v := ?_) rfl (by kernel_rfl) (by kernel_rfl) (by kernel_rfl) (fun _ _ _ h => h) (Or.inl ⟨by rfl, ?_⟩) hHH_0 ?_
    rotate_left
    · intro wS hSw; (try dsimp only at hSw); go_simp; try with_reducible rfl
    try simp only [Act.put, List.setIfInBounds_toArray, List.set_cons_zero, List.set_cons_succ]
    refine wpAnyH_take (i := 3) (oi := ⟨_, _, _, _, _, _⟩) (v := ?_) rfl (by kernel_rfl) (by kernel_rfl) (by kernel_rfl) (fun _ _ _ h => h) (Or.inl ⟨by rfl, ?_⟩) hHH_0 ?_
    rotate_left
    · intro wS hSw; (try dsimp only at hSw); go_simp; try with_reducible rfl
    try simp only [Act.put, List.setIfInBounds_toArray, List.set_cons_zero, List.set_cons_succ]
    refine wpAnyH_take (i := 4) (oi := ⟨_, _, _, _, _, _⟩) (v := ?_) rfl (by kernel_rfl) (by kernel_rfl) (by kernel_rfl) (fun _ _ _ h => h) (Or.inl ⟨by rfl, ?_⟩) hHH_0 ?_
    rotate_left
    · intro wS hSw; (try dsimp only at hSw); go_simp; try with_reducible rfl
    try simp only [Act.put, List.setIfInBounds_toArray, List.set_cons_zero, List.set_cons_succ]
    refine wpAnyH_take (i := 5) (oi := ⟨_, _, _, _, _, _⟩) (v := V) rfl (by kernel_rfl) (by kernel_rfl) (by kernel_rfl) (fun _ _ _ h => h) (yieldsIf_ld (by rfl) _ _ rfl b9 0 rfl (cS s) _ (fun _ h => h.2.2.2.2.2.2.1) Tryz.underlying92 rfl info_Sheet V HV.out) hHH_0 ?_
    try simp only [Act.put, List.setIfInBounds_toArray, List.set_cons_zero, List.set_cons_succ]
    refine wpAnyH_ready (rs := [6]) (by kernel_rfl) (by simp) ?_
    refine AllReadyH.cons (o := ⟨_, _, _, _, _, _⟩) rfl (fun Kq hKq => ?_) AllReadyH.nil
    rw [if_pos (by rfl)]
    refine op_st hVH_0.out 1 rfl _ _ _ rfl rfl ((cWa x).toArray) (rfl) (info_Wall) (by rfl) (cWa_one x) (fun _ hc => ?_)
    refine stepY hKq (show Sy w _ [(bp, #[.slice sa S.length sc, .slice (some ⟨g1, o1, none⟩) L.length wc], 38), (b4, (cWa x).toArray, 91), (b5, zS.cells, 92), (b9, (cS s).toArray, 92)] [] [] from hc) (fun _ hX => ⟨hX.cell 0 0 rfl rfl, hX.cell 0 1 rfl rfl, (HY.out _ hX.be).1, (HY.out _ hX.be).2.1, (HY.out _ hX.be).2.2.1, (HY.out _ hX.be).2.2.2, hX.range 3 rfl, trivial⟩) ?_
    intro VH_1 hc2 hHH_1
    have hVH_1 := Lib.hid hc2
    clear hc2 hKq Kq hVH_0 hc hHH_0
    try simp only [Act.put]
    refine wpAnyH_ready (rs := [7]) (by kernel_rfl) (by simp) ?_
    refine AllReadyH.cons (o := ⟨_, _, _, _, _, _⟩) rfl (fun Kq hKq => ?_) AllReadyH.nil
    rw [if_pos (by rfl)]
    refine op_st hVH_1.out 2 rfl _ _ _ rfl rfl ((cS s).toArray) (HV.out.symm) (info_Sheet) (by rfl) (cS_one s) (fun _ hc => ?_)
    refine stepY hKq (show Sy w _ [(bp, #[.slice sa S.length sc, .slice (some ⟨g1, o1, none⟩) L.length wc], 38), (b4, (cWa x).toArray, 91), (b5, (cS s).toArray, 92), (b9, (cS s).toArray, 92)] [] [] from hc) (fun _ hX => ⟨hX.cell 0 0 rfl rfl, hX.cell 0 1 rfl rfl, (HY.out _ hX.be).1, (HY.out _ hX.be).2.1, (HY.out _ hX.be).2.2.1, (HY.out _ hX.be).2.2.2, hX.range 3 rfl, trivial⟩) ?_
    intro VH_2 hc2 hHH_2
    have hVH_2 := Lib.hid hc2
    clear hc2 hKq Kq hVH_1 hc hHH_1
    try simp only [Act.put]
    refine wpAnyH_ready (rs := [8]) (by kernel_rfl) (by simp) ?_
    refine AllReadyH.cons (o := ⟨_, _, _, _, _, _⟩) rfl (fun Kq hKq => ?_) AllReadyH.nil
    go_simp
    refine stepY hKq (show Sy w _ [(bp, #[.slice sa S.length sc, .slice (some ⟨g1, o1, none⟩) L.length wc], 38), (b4, (cWa x).toArray, 91), (b5, (cS s).toArray, 92), (b9, (cS s).toArray, 92)] [] [] from hVH_2.out) (fun _ hX => ⟨hX.cell 0 0 rfl rfl, hX.cell 0 1 rfl rfl, (HY.out _ hX.be).1, (HY.out _ hX.be).2.1, (HY.out _ hX.be).2.2.1, (HY.out _ hX.be).2.2.2, hX.range 3 rfl, trivial⟩) ?_
    intro VH_3 hc hHH_3
    have hVH_3 := Lib.hid hc
    clear hc hKq Kq hVH_2 hHH_2
    try simp only [Act.put, List.setIfInBounds_toArray, List.set_cons_zero, List.set_cons_succ]
    refine wpAnyH_done (by kernel_rfl) ?_ _
    go_wp2
    refine bodyPost_ret (results_cell2_tmp_row Tryz.results68 _ _ b4 b5 91 92 (cWa x).toArray (cS s).toArray (0, 0) (0, 0) _ _ rfl (hVH_3.out.at_ 1 rfl).2 Tryz.underlying91 rfl info_Wall rfl (hVH_3.out.at_ 2 rfl).2 Tryz.underlying92 rfl info_Sheet) rfl ?_
    exact HRR.out _ hVH_3.out.be
  exact AllReadyH.nil
end
end Go.Proofs.YtchignmnnbepnaaGreat
namespace Go.Proofs.YtchignmnnbepnaaGreat
open Go.RowKit
theorem LO_one1 (o : Opn) : ∀ u ∈ cO o, u.oneCell' = true := by
  intro u hu
  simp [cO] at hu
  rcases hu with rfl | rfl | rfl | rfl | rfl <;> rfl
def RetWall (w : World) (x : Wal) (e : Ending) (w' : World) : Prop := ∃ y : Wal, y = { x with oa := y.oa, oc := y.oc } ∧ e = .returned (.agg (cWa y).toArray) ∧ w'.ownsRow w.heap.size 95 5 (.slice y.oa y.on y.oc) y.on (LO y.ops) ∧ Below w.heap.size w w'
section
variable (w : World)
set_option maxHeartbeats 32000000 in
set_option maxRecDepth 100000 in
theorem lWall_any (x : Wal) (hs : Sx 5 w x.oa x.on x.oc (LO x.ops)) (hn : x.on ≤ 1000) : Calls Tryz.prog 33 #[aW x] w (RetWall w x) := by
  obtain ⟨nm, sh, len, oa, on, oc, ops⟩ := x
  dsimp only at hs hn
  obtain rfl := hs.nO
  have hcap := hs.cap
  unfold maxLen at hcap
  have HS := Lib.hid hs
  clear hs
  go_enter Tryz.func33, Tryz.ntmps33
  go_upto_region 1 with (first | (refine wpList_bx (o := ⟨some 1, _, _, _, _, _⟩) rfl (Sy.enter w) _ _ rfl #[.string nm, .string sh, .int .i64 len, .slice oa ops.length oc] rfl ?_; intro b1 V1 h1; have hA := Lib.hid h1; clear h1) | (refine wpList_al (o := ⟨some 2, _, _, _, _, _⟩) rfl hA.out _ rfl zW zero_Wall ?_; intro b2 V2 h2; have hB := Lib.hid h2; clear h2 hA) | fail)
  have x0 : V2.cell? ⟨b1, 0, none⟩ = some (.string nm) := hB.out.cell 0 0 rfl rfl
  have x1 : V2.cell? ⟨b1, 1, none⟩ = some (.string sh) := hB.out.cell 0 1 rfl rfl
  have x2 : V2.cell? ⟨b1, 2, none⟩ = some (.int .i64 len) := hB.out.cell 0 2 rfl rfl
  go_upto_region 2 with fail
  have hC6 := Lib.hid ((hB.out.al V2.heap.size #[.string nm, .string sh, .int .i64 len, .slice none 0 0] 91 rfl).onil 95 5)
  obtain ⟨b3, hb3⟩ : ∃ b3, V2.heap.size = b3 := ⟨_, rfl⟩
  rw [hb3] at hC6 ⊢
  refine wp_geny hC6.out ?_
  intro W3 hc
  have hC : Hid (Sy w W3 [(b1, #[.string nm, .string sh, .int .i64 len, .slice oa ops.length oc], 51), (b2, zW.cells, 91), (b3, #[.string nm, .string sh, .int .i64 len, .slice none 0 0], 91)] [⟨.slice none 0 0, 95, 5, 0, []⟩] []) := Lib.hid hc
  clear hc hC6 hb3 hB x0 x1 x2
  go_wp2
  go_loopw [4] (fun iv wr => ∃ (k : Nat) (a : Option Addr) (c : Nat), k ≤ ops.length ∧ iv = .int .i64 k ∧ Hid (Sy w wr [(b1, #[.string nm, .string sh, .int .i64 len, .slice oa ops.length oc], 51), (b2, zW.cells, 91), (b3, #[.string nm, .string sh, .int .i64 len, .slice a k c], 91)] [⟨.slice a k c, 95, 5, k, LO (ops.take k)⟩] [])) (fun iv _ => ops.length - (intOf iv).toNat)
  case atStart => exact ⟨0, none, 0, Nat.zero_le _, rfl, hC⟩
  case round =>
    clear hC
    obtain ⟨k, a, c, hk, rfl, hC⟩ := hrel
    have x3 : wr.cell? ⟨b1, 3, none⟩ = some (.slice oa ops.length oc) := hC.out.cell 0 3 rfl rfl
    by_cases hlt : k < ops.length
    · obtain ⟨g0, o0, rfl⟩ := HS.out.addr (by omega)
      obtain ⟨y0, y1, y2, y3, y4⟩ := (HS.out.below hC.out.be).atO hlt
      have HT := Lib.hid (LO_snoc ops k hlt)
      have i0 : (0 : Int) ≤ (k : Int) := by omega
      have i1 : (k : Int) < (ops.length : Int) := by omega
      generalize ops[k] = o at *
      go_upto_region 6 with fail
      have hD6 := Lib.hid (hC.out.al wr.heap.size #[.int .u8 o.kind, .int .i64 o.at_, .int .i64 o.wide, .int .i64 o.fro, .int .i64 o.high] 63 rfl)
      obtain ⟨b5, hb5⟩ : ∃ b5, wr.heap.size = b5 := ⟨_, rfl⟩
      rw [hb5] at hD6 ⊢
      refine wp_geny hD6.out ?_
      intro W6 hc
      have hD := Lib.hid hc
      clear hc hD6 hb5 hC x3 y0 y1 y2 y3 y4
      have x0 : W6.cell? ⟨b5, 0, none⟩ = some (.int .u8 o.kind) := hD.out.cell 3 0 rfl rfl
      have x1 : W6.cell? ⟨b5, 1, none⟩ = some (.int .i64 o.at_) := hD.out.cell 3 1 rfl rfl
      have x2 : W6.cell? ⟨b5, 2, none⟩ = some (.int .i64 o.wide) := hD.out.cell 3 2 rfl rfl
      have x4 : W6.cell? ⟨b5, 3, none⟩ = some (.int .i64 o.fro) := hD.out.cell 3 3 rfl rfl
      have x5 : W6.cell? ⟨b5, 4, none⟩ = some (.int .i64 o.high) := hD.out.cell 3 4 rfl rfl
      have x3 : W6.cell? ⟨b3, 3, none⟩ = some (.slice a k c) := hD.out.cell 2 3 rfl rfl
      go_wp2_with (refine wpList_append_sy (o := ⟨some 39, _, _, _, _, _⟩) rfl (hD.out.onew W6.heap.size (cO o).toArray 95 5 1 rfl (by omega) rfl) 0 1 rfl rfl _ _ _ rfl und_Opening info_Opening3 rfl (by omega) rfl rfl (LO_one1 o) (by omega) (by omega) ?_; intro a3 c3 V3 hV3; have hJ := Lib.hid hV3; clear hV3; have z3 : V3.cell? ⟨b3, 3, none⟩ = some (.slice a k c) := hJ.out.cell 2 3 rfl rfl; have f3 : V3.frozen? ⟨b3, 3, none⟩ = false := hJ.out.free 2 3 rfl)
      have hK := Lib.hid ((hJ.out.set (j := 3) (v := .slice a3 (k + 1) c3) 2 rfl).thin (List.Sublist.cons_cons _ (List.Sublist.cons_cons _ (List.Sublist.cons_cons _ (List.nil_sublist _)))) (List.Sublist.cons_cons _ (List.nil_sublist _)))
      clear hJ
      go_roundw
      case rel => exact ⟨k + 1, a3, c3, by omega, by go_num, by rw [HT.out]; exact hK⟩
      case measure => simp [intOf]; omega
    · have hkk : ¬ (k : Int) < (ops.length : Int) := by omega
      obtain rfl : k = ops.length := by omega
      have y0 : wr.cell? ⟨b3, 0, none⟩ = some (.string nm) := hC.out.cell 2 0 rfl rfl
      go_upto_region 7 with fail
      obtain ⟨U, hU⟩ : ∃ U, Value.agg (cWa ⟨nm, sh, len, a, ops.length, c, ops⟩).toArray = U := ⟨_, rfl⟩
      have HU := Lib.hid hU
      clear hU
      go_wp2_with (first | (refine wpList_ld (o := ⟨some 41, _, _, _, _, _⟩) rfl _ _ rfl _ _ rfl (cWa ⟨nm, sh, len, a, ops.length, c, ops⟩) _ (hC.out.range 2 rfl) Tryz.underlying91 rfl info_Wall U HU.out ?_) | (refine wpList_st (o := ⟨none, _, _, _, _, _⟩) rfl hC.out 1 rfl _ _ _ rfl rfl (cWa ⟨nm, sh, len, a, ops.length, c, ops⟩).toArray HU.out.symm info_Wall rfl (cWa_one _) ?_; intro V4 h4; have hE := Lib.hid h4; clear h4 hC) | fail)
      refine bodyPost_ret (results_cell_row Tryz.results33 _ _ b2 91 (cWa ⟨nm, sh, len, a, ops.length, c, ops⟩).toArray (0, 0) _ rfl (hE.out.at_ 1 rfl).2 Tryz.underlying91 rfl info_Wall) rfl ?_
      have hx := hE.out.gives 0 rfl
      rw [List.take_length] at hx
      exact ⟨⟨nm, sh, len, a, ops.length, c, ops⟩, rfl, rfl, hx, hE.out.be⟩
end
end Go.Proofs.YtchignmnnbepnaaGreat

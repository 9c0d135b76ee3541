/- is a carrying proved least: ProveCarry -/
import Derived.Test.YteogibpmpppgmaaGreatK10
namespace Go.Proofs.YteogibpmpppgmaaGreat
open Go.RowKit

def pcB (P : List I3) (N : List I2) (l : List I3) (u v : List Int) : Bool := !yardBad P N && (carryOk P N l && proofB P N (costL P N l) u v)
theorem us_any (u : List Int) : (u.any fun x => !inB x 0 1000000000) = !usOk u := by
  unfold usOk
  rw [List.not_all_eq_any_not]
section
variable {P : List I3} {N : List I2} {l : List I3} {u v : List Int}
theorem pc_noY (h : yardBad P N = true) : pcB P N l u v = false := by unfold pcB; rw [h]; rfl
theorem pc_noC (h : carryOk P N l = false) : pcB P N l u v = false := by unfold pcB; rw [h, Bool.false_and, Bool.and_false]
theorem pc_noP (h : proofB P N (costL P N l) u v = false) : pcB P N l u v = false := by unfold pcB; rw [h, Bool.and_false, Bool.and_false]
theorem pc_yes (h : yardBad P N = false) (h1 : carryOk P N l = true) : pcB P N l u v = proofB P N (costL P N l) u v := by unfold pcB; rw [h, h1]; rfl
end
/-- what stands in last -/
def LastIs (l : List I3) (k : Nat) (y0 y1 : Int) : Prop := (k = 0 ∧ y0 = -1 ∧ y1 = -1) ∨ (0 < k ∧ ∃ y2, l.getD (k - 1) ld0 = (y0, y1, y2))
theorem last_ok {np nn : Nat} {l : List I3} {k : Nat} {y0 y1 X0 X1 X2 : Int} (h : LastIs l k y0 y1) (hx : l.getD k ld0 = (X0, X1, X2)) (h0 : 0 ≤ X0) : ldOk np nn l k = (ldIn np nn (X0, X1, X2) && !(decide (X0 < y0) || (decide (X0 = y0) && decide (X1 ≤ y1)))) := by
  unfold ldOk
  rw [hx]
  rcases h with ⟨rfl, rfl, rfl⟩ | ⟨hk, y2, hy⟩
  · rw [decide_eq_true rfl, Bool.true_or, decide_eq_false (show ¬ X0 < -1 by omega), decide_eq_false (show ¬ X0 = -1 by omega)]
    simp
  · rw [hy, decide_eq_false (show ¬ k = 0 by omega), Bool.false_or]
    rfl
section
variable (w : World)
set_option maxHeartbeats 400000 in
theorem proveCarry1_any (x : Int) : Calls Tryz.prog 70 #[.int .i64 x] w (Gives (.bool (!inB x 0 1000000000)) w) := by
  go_enter Tryz.func70, Tryz.ntmps70
  go_wp2_with ((with_reducible refine (within_any _ _ _ _).mono ?_); rintro e w1 ⟨rfl, rfl⟩)
  go_ret
  exact ⟨rfl, Below.refl _ _⟩
theorem eg_proveCarry1 : EG 70 := enters_of Tryz.func70 (by kernel_rfl) rfl
set_option maxRecDepth 100000 in
set_option maxHeartbeats 16000000 in
theorem proveCarry_any (a0 a1 a2 a3 a4 : Option Addr) (n0 c0 n1 c1 n2 c2 n3 c3 n4 c4 : Nat) (P : List I3) (N : List I2) (l : List I3) (u vs : List Int) (hsp : Sx 3 w a0 n0 c0 (L3 P)) (hsn : Sx 2 w a1 n1 c1 (L2 N)) (hsl : Sx 3 w a2 n2 c2 (L3 l)) (hsu : Sx 1 w a3 n3 c3 (L1 u)) (hsv : Sx 1 w a4 n4 c4 (L1 vs)) (hn2 : n2 ≤ 1000) :
    Calls Tryz.prog 31 #[.slice a0 n0 c0, .slice a1 n1 c1, .slice a2 n2 c2, .slice a3 n3 c3, .slice a4 n4 c4] w (Gives (.bool (pcB P N l u vs)) w) := by
  obtain rfl := hsp.n3
  obtain rfl := hsn.n2
  obtain rfl := hsl.n3
  obtain rfl := hsu.n1
  obtain rfl := hsv.n1
  have HSP := Lib.hid hsp
  have HSN := Lib.hid hsn
  have HSL := Lib.hid hsl
  have HSU := Lib.hid hsu
  have HSV := Lib.hid hsv
  have HWY := Lib.hid (wrongYard_any w a0 a1 _ c0 _ c1 P N hsp hsn)
  have HCU := Lib.hid (fun W (hW : Below w.heap.size w W) => containsFunc_int a3 u.length c3 u 70 #[] _ W (hsu.below hW) eg_proveCarry1 (fun W' _ x _ => proveCarry1_any W' x))
  have HCV := Lib.hid (fun W (hW : Below w.heap.size w W) => containsFunc_int a4 vs.length c4 vs 70 #[] _ W (hsv.below hW) eg_proveCarry1 (fun W' _ x _ => proveCarry1_any W' x))
  rw [us_any u] at HCU
  rw [us_any vs] at HCV
  clear hsp hsn hsl hsu hsv
  cases hyb : yardBad P N
  rotate_left
  · rw [pc_noY hyb]
    rw [hyb] at HWY
    clear hyb HCU HCV
    go_enter Tryz.func31, Tryz.ntmps31
    go_wp2_with fail
    refine HWY.out.mono ?_
    rintro e W ⟨rfl, hb⟩
    have hB := Lib.hid hb
    clear hb
    go_wp2
    go_ret
    exact ⟨rfl, hB.out⟩
  have HYB := Lib.hid hyb
  have HGD := Lib.hid (show YGood P N from yard_good hyb)
  rw [hyb] at HWY
  have hP20 := HGD.out.1
  have hN20 := HGD.out.2.1
  clear hyb
  by_cases hu : u.length = P.length
  rotate_left
  · have d0 : ((u.length : Int) != (P.length : Int)) = true := by simp; omega
    rw [pc_noP (proof_no0 hu)]
    clear hu HCU HCV
    go_enter Tryz.func31, Tryz.ntmps31
    go_wp2_with fail
    refine HWY.out.mono ?_
    rintro e W ⟨rfl, hb⟩
    have hB := Lib.hid hb
    clear hb
    go_wp2
    go_ret
    exact ⟨rfl, hB.out⟩
  by_cases hv : vs.length = N.length
  rotate_left
  · have d0 : ((u.length : Int) != (P.length : Int)) = false := by simp; omega
    have d1 : ((vs.length : Int) != (N.length : Int)) = true := by simp; omega
    rw [pc_noP (proof_no1 hv)]
    clear hv hu HCU HCV
    go_enter Tryz.func31, Tryz.ntmps31
    go_wp2_with fail
    refine HWY.out.mono ?_
    rintro e W ⟨rfl, hb⟩
    have hB := Lib.hid hb
    clear hb
    go_wp2
    go_ret
    exact ⟨rfl, hB.out⟩
  have d0 : ((u.length : Int) != (P.length : Int)) = false := by simp; omega
  have d1 : ((vs.length : Int) != (N.length : Int)) = false := by simp; omega
  have HUP := Lib.hid hu
  have HVN := Lib.hid hv
  have hu1 : u.length ≤ P.length := by omega
  have hu2 : P.length ≤ u.length := by omega
  have hv1 : vs.length ≤ N.length := by omega
  have hv2 : N.length ≤ vs.length := by omega
  clear hu hv
  cases huo : usOk u
  · rw [pc_noP (proof_no2 huo)]
    rw [huo] at HCU
    clear huo HCV
    go_enter Tryz.func31, Tryz.ntmps31
    go_wp2_with fail
    refine HWY.out.mono ?_
    rintro e W ⟨rfl, hb⟩
    have hC := Lib.hid ((Sy.enter w).call hb)
    clear hb
    go_wp2_with fail
    refine (HCU.out _ hC.out.be).mono ?_
    rintro e W2 ⟨rfl, hb⟩
    have hD := Lib.hid (hC.out.call hb)
    clear hb
    go_wp2
    go_ret
    exact ⟨rfl, hD.out.be⟩
  cases hvo : usOk vs
  · rw [pc_noP (proof_no3 hvo)]
    rw [hvo] at HCV
    rw [huo] at HCU
    clear huo hvo
    go_enter Tryz.func31, Tryz.ntmps31
    go_wp2_with fail
    refine HWY.out.mono ?_
    rintro e W ⟨rfl, hb⟩
    have hC := Lib.hid ((Sy.enter w).call hb)
    clear hb
    go_wp2_with fail
    refine (HCU.out _ hC.out.be).mono ?_
    rintro e W2 ⟨rfl, hb⟩
    have hD := Lib.hid (hC.out.call hb)
    clear hb
    go_wp2_with fail
    refine (HCV.out _ hD.out.be).mono ?_
    rintro e W3 ⟨rfl, hb⟩
    have hE := Lib.hid (hD.out.call hb)
    clear hb
    go_wp2
    go_ret
    exact ⟨rfl, hE.out.be⟩
  have HUO := Lib.hid huo
  have HVO := Lib.hid hvo
  rw [huo] at HCU
  rw [hvo] at HCV
  have HUA := Lib.hid (show ∀ i, i < u.length → 0 ≤ u.getD i 0 ∧ u.getD i 0 ≤ 1000000000 from fun i hi => by
    unfold usOk at huo
    rw [getD_at hi]
    exact inB_iff.1 (List.all_eq_true.1 huo _ (List.getElem_mem hi)))
  have HVA := Lib.hid (show ∀ i, i < vs.length → 0 ≤ vs.getD i 0 ∧ vs.getD i 0 ≤ 1000000000 from fun i hi => by
    unfold usOk at hvo
    rw [getD_at hi]
    exact inB_iff.1 (List.all_eq_true.1 hvo _ (List.getElem_mem hi)))
  clear huo hvo
  obtain ⟨ans, hans⟩ : ∃ b, pcB P N l u vs = b := ⟨_, rfl⟩
  rw [hans]
  have HNO1 := Lib.hid (fun h => (hans.symm.trans (pc_noC (u := u) (v := vs) (ok_no1 (P := P) (N := N) (l := l) h))).symm)
  have HNO2 := Lib.hid (fun h => (hans.symm.trans (pc_noC (u := u) (v := vs) (ok_no2 (P := P) (N := N) (l := l) h))).symm)
  have HNO3 := Lib.hid (fun h => (hans.symm.trans (pc_noC (u := u) (v := vs) (ok_no3 (P := P) (N := N) (l := l) h))).symm)
  have HNO4 := Lib.hid (fun h => (hans.symm.trans (pc_noP (l := l) (proof_no4 (P := P) (N := N) (cost := costL P N l) (u := u) (v := vs) h))).symm)
  have HYES := Lib.hid (fun (h1 : carryOk P N l = true) h4 => (hans.symm.trans ((pc_yes HYB.out h1).trans (proof_yes HUP.out HVN.out HUO.out HVO.out h4))))
  clear hans
  have wP : IntKind.i64.wrap ((P.length : Int) - 1) = (P.length : Int) - 1 := by rw [IntKind.wrap_i64]; omega
  have wN : IntKind.i64.wrap ((N.length : Int) - 1) = (N.length : Int) - 1 := by rw [IntKind.wrap_i64]; omega
  go_enter Tryz.func31, Tryz.ntmps31
  go_wp2_with fail
  refine HWY.out.mono ?_
  rintro e W ⟨rfl, hb⟩
  have hC := Lib.hid ((Sy.enter w).call hb)
  clear hb HWY
  go_wp2_with fail
  refine (HCU.out _ hC.out.be).mono ?_
  rintro e W2 ⟨rfl, hb⟩
  have hD := Lib.hid (hC.out.call hb)
  clear hb HCU hC
  go_wp2_with fail
  refine (HCV.out _ hD.out.be).mono ?_
  rintro e W3 ⟨rfl, hb⟩
  have hC := Lib.hid (hD.out.call hb)
  clear hb HCV hD
  go_upto_region 4 with fail
  go_cut [12, 13] (fun s8 s9 wx => ∃ (g1 g2 : Nat), s8 = .slice (some ⟨g1, 0, none⟩) P.length P.length ∧ s9 = .slice (some ⟨g2, 0, none⟩) N.length N.length ∧ Hid (Sy w wx [] [⟨.slice (some ⟨g1, 0, none⟩) P.length P.length, 3, 1, P.length, List.replicate P.length (.int .i64 0)⟩, ⟨.slice (some ⟨g2, 0, none⟩) N.length N.length, 3, 1, N.length, List.replicate N.length (.int .i64 0)⟩] []))
  case first =>
    refine wp_region_held_drew (S := (fun w' => True)) (by kernel_rfl) trivial (fun hH => ?_)
    refine wpAnyH_geny (show Sy w _ [] [] [] from hC.out.drew) hH ?_
    intro VL_0 hc hHL_0
    have hVL_0 := Lib.hid hc
    clear hc hH hC
    refine wpAnyH_take (i := 0) (oi := ⟨_, _, _, _, _, _⟩) (v := ?_) rfl (by kernel_rfl) (by kernel_rfl) (by kernel_rfl) (fun _ _ _ h => h) (Or.inl ⟨by rfl, ?_⟩) hHL_0 ?_
    rotate_left
    · intro wS hSw; (try dsimp only at hSw); go_simp; try with_reducible rfl
    try simp only [Act.put, List.setIfInBounds_toArray, List.set_cons_zero, List.set_cons_succ]
    refine wpAnyH_take (i := 1) (oi := ⟨_, _, _, _, _, _⟩) (v := ?_) rfl (by kernel_rfl) (by kernel_rfl) (by kernel_rfl) (fun _ _ _ h => h) (Or.inl ⟨by rfl, ?_⟩) hHL_0 ?_
    rotate_left
    · intro wS hSw; (try dsimp only at hSw); go_simp; try with_reducible rfl
    try simp only [Act.put, List.setIfInBounds_toArray, List.set_cons_zero, List.set_cons_succ]
    refine wpAnyH_take (i := 3) (oi := ⟨_, _, _, _, _, _⟩) (v := ?_) rfl (by kernel_rfl) (by kernel_rfl) (by kernel_rfl) (fun _ _ _ h => h) (Or.inl ⟨by rfl, ?_⟩) hHL_0 ?_
    rotate_left
    · intro wS hSw; (try dsimp only at hSw); go_simp; try with_reducible rfl
    try simp only [Act.put, List.setIfInBounds_toArray, List.set_cons_zero, List.set_cons_succ]
    refine wpAnyH_take (i := 4) (oi := ⟨_, _, _, _, _, _⟩) (v := ?_) rfl (by kernel_rfl) (by kernel_rfl) (by kernel_rfl) (fun _ _ _ h => h) (Or.inl ⟨by rfl, ?_⟩) hHL_0 ?_
    rotate_left
    · intro wS hSw; (try dsimp only at hSw); go_simp; try with_reducible rfl
    try simp only [Act.put, List.setIfInBounds_toArray, List.set_cons_zero, List.set_cons_succ]
    refine wpAnyH_ready (rs := [2, 5]) (by kernel_rfl) (by simp) ?_
    refine AllReadyH.cons (o := ⟨_, _, _, _, _, _⟩) rfl (fun Kq hKq => ?_) ?_
    · rw [if_pos (by rfl)]
      refine op_make_sy hVL_0.out _ 3 _ _ rfl (.int .i64 0) rfl 8 (P.length) rfl rfl und_int info_int (by omega) (by omega) (fun gML_1 _ hc => ?_)
      refine stepY hKq (show Sy w _ [] [⟨.slice (some ⟨gML_1, 0, none⟩) P.length P.length, 3, 1, P.length, List.replicate P.length (.int .i64 0)⟩] [] from hc) (fun _ hX => trivial) ?_
      intro VL_1 hc2 hHL_1
      have hVL_1 := Lib.hid hc2
      clear hc2 hKq Kq hVL_0 hc hHL_0
      try simp only [Act.put, List.setIfInBounds_toArray, List.set_cons_zero, List.set_cons_succ]
      refine wpAnyH_ready (rs := [5, 6]) (by kernel_rfl) (by simp) ?_
      refine AllReadyH.cons (o := ⟨_, _, _, _, _, _⟩) rfl (fun Kq hKq => ?_) ?_
      · rw [if_pos (by rfl)]
        refine op_make_sy hVL_1.out _ 3 _ _ rfl (.int .i64 0) rfl 8 (N.length) rfl rfl und_int info_int (by omega) (by omega) (fun gML_2 _ hc => ?_)
        refine stepY hKq (show Sy w _ [] [⟨.slice (some ⟨gML_1, 0, none⟩) P.length P.length, 3, 1, P.length, List.replicate P.length (.int .i64 0)⟩, ⟨.slice (some ⟨gML_2, 0, none⟩) N.length N.length, 3, 1, N.length, List.replicate N.length (.int .i64 0)⟩] [] from hc) (fun _ hX => trivial) ?_
        intro VL_2 hc2 hHL_2
        have hVL_2 := Lib.hid hc2
        clear hc2 hKq Kq hVL_1 hc hHL_1
        try simp only [Act.put, List.setIfInBounds_toArray, List.set_cons_zero, List.set_cons_succ]
        refine wpAnyH_ready (rs := [6]) (by kernel_rfl) (by simp) ?_
        refine AllReadyH.cons (o := ⟨_, _, _, _, _, _⟩) rfl (fun Kq hKq => ?_) AllReadyH.nil
        go_simp
        refine stepY hKq (show Sy w _ [] [⟨.slice (some ⟨gML_1, 0, none⟩) P.length P.length, 3, 1, P.length, List.replicate P.length (.int .i64 0)⟩, ⟨.slice (some ⟨gML_2, 0, none⟩) N.length N.length, 3, 1, N.length, List.replicate N.length (.int .i64 0)⟩] [] from hVL_2.out) (fun _ hX => trivial) ?_
        intro VL_3 hc hHL_3
        have hVL_3 := Lib.hid hc
        clear hc hKq Kq hVL_2 hHL_2
        try simp only [Act.put, List.setIfInBounds_toArray, List.set_cons_zero, List.set_cons_succ]
        refine wpAnyH_ready (rs := [7]) (by kernel_rfl) (by simp) ?_
        refine AllReadyH.cons (o := ⟨_, _, _, _, _, _⟩) rfl (fun Kq hKq => ?_) AllReadyH.nil
        go_simp
        refine stepY hKq (show Sy w _ [] [⟨.slice (some ⟨gML_1, 0, none⟩) P.length P.length, 3, 1, P.length, List.replicate P.length (.int .i64 0)⟩, ⟨.slice (some ⟨gML_2, 0, none⟩) N.length N.length, 3, 1, N.length, List.replicate N.length (.int .i64 0)⟩] [] from hVL_3.out) (fun _ hX => trivial) ?_
        intro VL_4 hc hHL_4
        have hVL_4 := Lib.hid hc
        clear hc hKq Kq hVL_3 hHL_3
        try simp only [Act.put, List.setIfInBounds_toArray, List.set_cons_zero, List.set_cons_succ]
        refine wpAnyH_done (by kernel_rfl) ?_ _
        go_wp2_with fail
        go_meet
        exact ⟨gML_1, gML_2, rfl, rfl, hVL_4⟩
      refine AllReadyH.cons (o := ⟨_, _, _, _, _, _⟩) rfl (fun Kq hKq => ?_) ?_
      · go_simp
        refine stepY hKq (show Sy w _ [] [⟨.slice (some ⟨gML_1, 0, none⟩) P.length P.length, 3, 1, P.length, List.replicate P.length (.int .i64 0)⟩] [] from hVL_1.out) (fun _ hX => trivial) ?_
        intro VL_2 hc hHL_2
        have hVL_2 := Lib.hid hc
        clear hc hKq Kq hVL_1 hHL_1
        try simp only [Act.put, List.setIfInBounds_toArray, List.set_cons_zero, List.set_cons_succ]
        refine wpAnyH_ready (rs := [5]) (by kernel_rfl) (by simp) ?_
        refine AllReadyH.cons (o := ⟨_, _, _, _, _, _⟩) rfl (fun Kq hKq => ?_) AllReadyH.nil
        rw [if_pos (by rfl)]
        refine op_make_sy hVL_2.out _ 3 _ _ rfl (.int .i64 0) rfl 8 (N.length) rfl rfl und_int info_int (by omega) (by omega) (fun gML_3 _ hc => ?_)
        refine stepY hKq (show Sy w _ [] [⟨.slice (some ⟨gML_1, 0, none⟩) P.length P.length, 3, 1, P.length, List.replicate P.length (.int .i64 0)⟩, ⟨.slice (some ⟨gML_3, 0, none⟩) N.length N.length, 3, 1, N.length, List.replicate N.length (.int .i64 0)⟩] [] from hc) (fun _ hX => trivial) ?_
        intro VL_3 hc2 hHL_3
        have hVL_3 := Lib.hid hc2
        clear hc2 hKq Kq hVL_2 hc hHL_2
        try simp only [Act.put, List.setIfInBounds_toArray, List.set_cons_zero, List.set_cons_succ]
        refine wpAnyH_ready (rs := [7]) (by kernel_rfl) (by simp) ?_
        refine AllReadyH.cons (o := ⟨_, _, _, _, _, _⟩) rfl (fun Kq hKq => ?_) AllReadyH.nil
        go_simp
        refine stepY hKq (show Sy w _ [] [⟨.slice (some ⟨gML_1, 0, none⟩) P.length P.length, 3, 1, P.length, List.replicate P.length (.int .i64 0)⟩, ⟨.slice (some ⟨gML_3, 0, none⟩) N.length N.length, 3, 1, N.length, List.replicate N.length (.int .i64 0)⟩] [] from hVL_3.out) (fun _ hX => trivial) ?_
        intro VL_4 hc hHL_4
        have hVL_4 := Lib.hid hc
        clear hc hKq Kq hVL_3 hHL_3
        try simp only [Act.put, List.setIfInBounds_toArray, List.set_cons_zero, List.set_cons_succ]
        refine wpAnyH_done (by kernel_rfl) ?_ _
        go_wp2_with fail
        go_meet
        exact ⟨gML_1, gML_3, rfl, rfl, hVL_4⟩
      exact AllReadyH.nil
    refine AllReadyH.cons (o := ⟨_, _, _, _, _, _⟩) rfl (fun Kq hKq => ?_) ?_
    · rw [if_pos (by rfl)]
      refine op_make_sy hVL_0.out _ 3 _ _ rfl (.int .i64 0) rfl 8 (N.length) rfl rfl und_int info_int (by omega) (by omega) (fun gML_1 _ hc => ?_)
      refine stepY hKq (show Sy w _ [] [⟨.slice (some ⟨gML_1, 0, none⟩) N.length N.length, 3, 1, N.length, List.replicate N.length (.int .i64 0)⟩] [] from hc) (fun _ hX => trivial) ?_
      intro VL_1 hc2 hHL_1
      have hVL_1 := Lib.hid hc2
      clear hc2 hKq Kq hVL_0 hc hHL_0
      try simp only [Act.put, List.setIfInBounds_toArray, List.set_cons_zero, List.set_cons_succ]
      refine wpAnyH_ready (rs := [2]) (by kernel_rfl) (by simp) ?_
      refine AllReadyH.cons (o := ⟨_, _, _, _, _, _⟩) rfl (fun Kq hKq => ?_) AllReadyH.nil
      rw [if_pos (by rfl)]
      refine op_make_sy hVL_1.out _ 3 _ _ rfl (.int .i64 0) rfl 8 (P.length) rfl rfl und_int info_int (by omega) (by omega) (fun gML_2 _ hc => ?_)
      refine stepY hKq (show Sy w _ [] [⟨.slice (some ⟨gML_1, 0, none⟩) N.length N.length, 3, 1, N.length, List.replicate N.length (.int .i64 0)⟩, ⟨.slice (some ⟨gML_2, 0, none⟩) P.length P.length, 3, 1, P.length, List.replicate P.length (.int .i64 0)⟩] [] from hc) (fun _ hX => trivial) ?_
      intro VL_2 hc2 hHL_2
      have hVL_2 := Lib.hid hc2
      clear hc2 hKq Kq hVL_1 hc hHL_1
      try simp only [Act.put, List.setIfInBounds_toArray, List.set_cons_zero, List.set_cons_succ]
      refine wpAnyH_ready (rs := [6]) (by kernel_rfl) (by simp) ?_
      refine AllReadyH.cons (o := ⟨_, _, _, _, _, _⟩) rfl (fun Kq hKq => ?_) AllReadyH.nil
      go_simp
      refine stepY hKq (show Sy w _ [] [⟨.slice (some ⟨gML_1, 0, none⟩) N.length N.length, 3, 1, N.length, List.replicate N.length (.int .i64 0)⟩, ⟨.slice (some ⟨gML_2, 0, none⟩) P.length P.length, 3, 1, P.length, List.replicate P.length (.int .i64 0)⟩] [] from hVL_2.out) (fun _ hX => trivial) ?_
      intro VL_3 hc hHL_3
      have hVL_3 := Lib.hid hc
      clear hc hKq Kq hVL_2 hHL_2
      try simp only [Act.put, List.setIfInBounds_toArray, List.set_cons_zero, List.set_cons_succ]
      refine wpAnyH_ready (rs := [7]) (by kernel_rfl) (by simp) ?_
      refine AllReadyH.cons (o := ⟨_, _, _, _, _, _⟩) rfl (fun Kq hKq => ?_) AllReadyH.nil
      go_simp
      refine stepY hKq (show Sy w _ [] [⟨.slice (some ⟨gML_1, 0, none⟩) N.length N.length, 3, 1, N.length, List.replicate N.length (.int .i64 0)⟩, ⟨.slice (some ⟨gML_2, 0, none⟩) P.length P.length, 3, 1, P.length, List.replicate P.length (.int .i64 0)⟩] [] from hVL_3.out) (fun _ hX => trivial) ?_
      intro VL_4 hc hHL_4
      have hVL_4 := Lib.hid hc
      clear hc hKq Kq hVL_3 hHL_3
      try simp only [Act.put, List.setIfInBounds_toArray, List.set_cons_zero, List.set_cons_succ]
      refine wpAnyH_done (by kernel_rfl) ?_ _
      go_wp2_with fail
      go_meet
      exact ⟨gML_2, gML_1, rfl, rfl, Lib.hid hVL_4.out.oswap⟩
    exact AllReadyH.nil
  case rest =>
    obtain ⟨g1, g2, rfl, rfl, hE1⟩ := hcut
    have hS0 : Hid (Sy w wc [] [⟨.slice (some ⟨g1, 0, none⟩) P.length P.length, 3, 1, P.length, L1 (List.replicate P.length 0)⟩, ⟨.slice (some ⟨g2, 0, none⟩) N.length N.length, 3, 1, N.length, L1 (List.replicate N.length 0)⟩] []) := by
      unfold L1
      rw [List.map_replicate, List.map_replicate]
      exact hE1
    clear hE1 hC
    have hA := Lib.hid (hS0.out.al wc.heap.size #[.int .i64 (-1), .int .i64 (-1)] 143 rfl)
    clear hS0
    go_upto_region 7 with fail
    refine wp_geny hA.out ?_
    intro W1 hc
    have hS : Hid (Sy w W1 [(wc.heap.size, #[.int .i64 (-1), .int .i64 (-1)], 143)] [⟨.slice (some ⟨g1, 0, none⟩) P.length P.length, 3, 1, P.length, L1 (List.replicate P.length 0)⟩, ⟨.slice (some ⟨g2, 0, none⟩) N.length N.length, 3, 1, N.length, L1 (List.replicate N.length 0)⟩] []) := Lib.hid hc
    clear hc hA
    generalize wc.heap.size = bl at *
    go_wp2
    go_loopw [14, 61] (fun qv iv wr => ∃ (k : Nat) (q : Int) (G T : List Int) (y0 y1 : Int), k ≤ l.length ∧ qv = .int .i64 q ∧ iv = .int .i64 k ∧ (0 ≤ q ∧ q ≤ (k : Int) * 1200000000000) ∧ Hid (∀ i, i < k → ldOk P.length N.length l i = true) ∧
      Hid (q = costL P N (l.take k) ∧ G = givenL P.length (l.take k) ∧ T = gotL N.length (l.take k)) ∧ Hid (SmallL G P.length k ∧ SmallL T N.length k) ∧ Hid (LastIs l k y0 y1) ∧
      Hid (Sy w wr [(bl, #[.int .i64 y0, .int .i64 y1], 143)] [⟨.slice (some ⟨g1, 0, none⟩) P.length P.length, 3, 1, P.length, L1 G⟩, ⟨.slice (some ⟨g2, 0, none⟩) N.length N.length, 3, 1, N.length, L1 T⟩] [])) (fun _ iv _ => l.length - (intOf iv).toNat)
    case atStart => exact ⟨0, 0, _, _, -1, -1, Nat.zero_le _, rfl, rfl, ⟨Int.le_refl _, Int.le_refl _⟩, Lib.hid (fun i h => absurd h (Nat.not_lt_zero i)), Lib.hid ⟨rfl, rfl, rfl⟩, Lib.hid ⟨SmallL.start _, SmallL.start _⟩, Lib.hid (.inl ⟨rfl, rfl, rfl⟩), hS⟩
    case round =>
      clear hS
      obtain ⟨k, q, G, T, y0, y1, hk, rfl, rfl, hq, hOK, hD, hSM, hLA, hS⟩ := hrel
      by_cases hlt : k < l.length
      · have hkk : (k : Int) < (l.length : Int) := by omega
        have k0 : (0 : Int) ≤ (k : Int) := by omega
        obtain ⟨gl, ol, rfl⟩ := HSL.out.addr (by omega)
        obtain ⟨x0, x1, x2⟩ := (hS.out.sx HSL.out).at3 hlt
        have HGS := Lib.hid (givenL_succ P.length hlt)
        have HTS := Lib.hid (gotL_succ N.length hlt)
        have HCS := Lib.hid (costL_succ P N hlt)
        have HXK := Lib.hid (getD_at3 hlt)
        have HRJ := Lib.hid (fun h => HNO1.out (lds_no hlt h))
        generalize l[k] = x at *
        obtain ⟨X0, X1, X2⟩ := x
        dsimp only at x0 x1 x2 HGS HTS HCS
        have HLD := Lib.hid (fun h => last_ok (np := P.length) (nn := N.length) hLA.out HXK.out h)
        have hA := Lib.hid (hS.out.al wr.heap.size #[.int .i64 X0, .int .i64 X1, .int .i64 X2] 144 rfl)
        clear hS
        go_upto_region 10 with fail
        refine wp_geny hA.out ?_
        intro W2 hc
        have hS1 : Hid (Sy w W2 [(bl, #[.int .i64 y0, .int .i64 y1], 143), (wr.heap.size, #[.int .i64 X0, .int .i64 X1, .int .i64 X2], 144)] [⟨.slice (some ⟨g1, 0, none⟩) P.length P.length, 3, 1, P.length, L1 G⟩, ⟨.slice (some ⟨g2, 0, none⟩) N.length N.length, 3, 1, N.length, L1 T⟩] []) := Lib.hid hc
        clear hc hA x0 x1 x2
        generalize wr.heap.size = bx at *
        have b0 : W2.cell? ⟨bx, 0, none⟩ = some (.int .i64 X0) := hS1.out.cell 1 0 rfl rfl
        have b1 : W2.cell? ⟨bx, 1, none⟩ = some (.int .i64 X1) := hS1.out.cell 1 1 rfl rfl
        have hA := Lib.hid (hS1.out.al W2.heap.size #[.int .i64 X0, .int .i64 X1] 143 rfl)
        clear hS1
        go_upto_region 11 with fail
        refine wp_geny hA.out ?_
        intro W6 hc
        have hS : Hid (Sy w W6 [(bl, #[.int .i64 y0, .int .i64 y1], 143), (bx, #[.int .i64 X0, .int .i64 X1, .int .i64 X2], 144), (W2.heap.size, #[.int .i64 X0, .int .i64 X1], 143)] [⟨.slice (some ⟨g1, 0, none⟩) P.length P.length, 3, 1, P.length, L1 G⟩, ⟨.slice (some ⟨g2, 0, none⟩) N.length N.length, 3, 1, N.length, L1 T⟩] []) := Lib.hid hc
        clear hc hA b0 b1
        generalize W2.heap.size = bp at *
        have b2 : W6.cell? ⟨bx, 2, none⟩ = some (.int .i64 X2) := hS.out.cell 1 2 rfl rfl
        have bl0 : W6.cell? ⟨bl, 0, none⟩ = some (.int .i64 y0) := hS.out.cell 0 0 rfl rfl
        have bl1 : W6.cell? ⟨bl, 1, none⟩ = some (.int .i64 y1) := hS.out.cell 0 1 rfl rfl
        have bp0 : W6.cell? ⟨bp, 0, none⟩ = some (.int .i64 X0) := hS.out.cell 2 0 rfl rfl
        have bp1 : W6.cell? ⟨bp, 1, none⟩ = some (.int .i64 X1) := hS.out.cell 2 1 rfl rfl
        have b0 : W6.frozen? ⟨bl, 0, none⟩ = false := hS.out.free 0 0 rfl
        have b1 : W6.frozen? ⟨bl, 1, none⟩ = false := hS.out.free 0 1 rfl
        cases i0 : inB X0 0 ((P.length : Int) - 1)
        · have HF := Lib.hid (HRJ.out (show ldOk P.length N.length l k = false from by unfold ldOk; rw [HXK.out]; unfold ldIn; dsimp only; rw [i0]; rfl))
          go_wp2_with ((with_reducible refine (within_any _ _ _ _).mono ?_); rintro e w1 ⟨rfl, rfl⟩)
          go_ret
          exact ⟨ret_bool HF.out, hS.out.be⟩
        cases i1 : inB X1 0 ((N.length : Int) - 1)
        · have HF := Lib.hid (HRJ.out (show ldOk P.length N.length l k = false from by unfold ldOk; rw [HXK.out]; unfold ldIn; dsimp only; rw [i0, i1]; rfl))
          go_wp2_with ((with_reducible refine (within_any _ _ _ _).mono ?_); rintro e w1 ⟨rfl, rfl⟩)
          go_ret
          exact ⟨ret_bool HF.out, hS.out.be⟩
        have r0 := inB_iff.1 i0
        have r1 := inB_iff.1 i1
        have HLE := Lib.hid (HLD.out r0.1)
        clear HLD
        by_cases e0 : X0 < y0
        · have HF := Lib.hid (HRJ.out (show ldOk P.length N.length l k = false from by rw [HLE.out, decide_eq_true e0]; simp))
          clear HLE
          go_wp2_with ((with_reducible refine (within_any _ _ _ _).mono ?_); rintro e w1 ⟨rfl, rfl⟩)
          go_ret
          exact ⟨ret_bool HF.out, hS.out.be⟩
        have h3 : (X0 = y0 ∧ X1 ≤ y1) ∨ (X0 = y0 ∧ ¬ X1 ≤ y1) ∨ ¬ X0 = y0 := by omega
        rcases h3 with ⟨e1, e2⟩ | ⟨e1, e2⟩ | e1
        · have HF := Lib.hid (HRJ.out (show ldOk P.length N.length l k = false from by rw [HLE.out, decide_eq_true e1, decide_eq_true e2]; simp))
          have d3 : (X0 == y0) = true := by simpa using e1
          clear HLE e1
          go_wp2_with ((with_reducible refine (within_any _ _ _ _).mono ?_); rintro e w1 ⟨rfl, rfl⟩)
          go_ret
          exact ⟨ret_bool HF.out, hS.out.be⟩
        all_goals
          have HLF := Lib.hid (show ldOk P.length N.length l k = ldIn P.length N.length (X0, X1, X2) from by rw [HLE.out, decide_eq_false e0]; first | (rw [decide_eq_false e2]; simp) | (rw [decide_eq_false e1]; simp))
          clear HLE
          first | (have d3 : (X0 == y0) = true := by simpa using e1) | (have d3 : (X0 == y0) = false := by simpa using e1)
          clear e1
          cases i2 : inB X2 1 1000000
          · have HF := Lib.hid (HRJ.out (show ldOk P.length N.length l k = false from by rw [HLF.out]; unfold ldIn; dsimp only; rw [i2, Bool.and_false]))
            go_wp2_with ((with_reducible refine (within_any _ _ _ _).mono ?_); rintro e w1 ⟨rfl, rfl⟩)
            go_ret
            exact ⟨ret_bool HF.out, hS.out.be⟩
          have HL1 := Lib.hid (show ldOk P.length N.length l k = true from by rw [HLF.out]; unfold ldIn; dsimp only; rw [i0, i1, i2]; rfl)
          have r2 := inB_iff.1 i2
          clear HLF HRJ
          obtain ⟨J0, rfl⟩ : ∃ n : Nat, X0 = n := ⟨X0.toNat, by omega⟩
          obtain ⟨K0, rfl⟩ : ∃ n : Nat, X1 = n := ⟨X1.toNat, by omega⟩
          have hJ : J0 < P.length := by omega
          have hK : K0 < N.length := by omega
          have hJ1 : (J0 : Int) < (P.length : Int) := by omega
          have hK1 : (K0 : Int) < (N.length : Int) := by omega
          have hJ2 : (0 : Int) ≤ (J0 : Int) := by omega
          have hK2 : (0 : Int) ≤ (K0 : Int) := by omega
          rw [Int.toNat_natCast] at HGS HTS
          have HU := Lib.hid (show unitAt P N ((J0 : Int), (K0 : Int), X2) = unitI P[J0] N[K0] from by unfold unitAt; dsimp only; rw [Int.toNat_natCast, Int.toNat_natCast, getD_at3 hJ, getD_at2 hK])
          have hub := unit_bd HGD.out hJ hK
          have HUC := Lib.hid (fun W => costs_any W P[J0] N[K0] (by have := (HGD.out.2.2.1 _ (List.getElem_mem hJ)).1; omega) (by have := (HGD.out.2.2.2 _ (List.getElem_mem hK)).1; omega) (HGD.out.2.2.1 _ (List.getElem_mem hJ)).2.2)
          obtain ⟨gp, op, rfl⟩ := HSP.out.addr (by omega)
          obtain ⟨gn, on, rfl⟩ := HSN.out.addr (by omega)
          have HPJ := Lib.hid (fun W (hW : Below w.heap.size w W) => (HSP.out.below hW).at3 hJ)
          have HNK := Lib.hid (fun W (hW : Below w.heap.size w W) => (HSN.out.below hW).at2 hK)
          rw [HU.out] at HCS
          generalize P[J0] = p at *
          generalize N[K0] = n at *
          obtain ⟨p0, p1, p2⟩ := p
          obtain ⟨n0, n1⟩ := n
          generalize unitI (p0, p1, p2) (n0, n1) = un at *
          dsimp only at HPJ HNK HUC
          clear HU
          have hp0 : 0 ≤ X2 * un := Int.mul_nonneg (by omega) hub.1
          have hp1 : X2 * un ≤ 1000000 * 1200000 := Int.mul_le_mul r2.2 hub.2 hub.1 (by decide)
          have wu : IntKind.i64.wrap (X2 * un) = X2 * un := IntWalk.i64_in _ (by omega)
          have wq : IntKind.i64.wrap (q + X2 * un) = q + X2 * un := IntWalk.i64_in _ (by omega)
          have hA := Lib.hid ((hS.out.set 0 (j := 0) (v := .int .i64 (J0 : Int)) rfl).set 0 (j := 1) (v := .int .i64 (K0 : Int)) rfl)
          go_upto_region 14 with ((with_reducible refine (within_any _ _ _ _).mono ?_); rintro e w1 ⟨rfl, rfl⟩)
          refine wp_geny hA.out ?_
          intro W3 hc
          have hS2 : Hid (Sy w W3 [(bl, #[.int .i64 (J0 : Int), .int .i64 (K0 : Int)], 143), (bx, #[.int .i64 (J0 : Int), .int .i64 (K0 : Int), .int .i64 X2], 144), (bp, #[.int .i64 (J0 : Int), .int .i64 (K0 : Int)], 143)] [⟨.slice (some ⟨g1, 0, none⟩) P.length P.length, 3, 1, P.length, L1 G⟩, ⟨.slice (some ⟨g2, 0, none⟩) N.length N.length, 3, 1, N.length, L1 T⟩] []) := Lib.hid hc
          clear hc hA hS b0 b1 b2 bl0 bl1 bp0 bp1
          have b0 : W3.cell? ⟨bp, 0, none⟩ = some (.int .i64 (J0 : Int)) := hS2.out.cell 2 0 rfl rfl
          have b2 : W3.cell? ⟨bx, 2, none⟩ = some (.int .i64 X2) := hS2.out.cell 1 2 rfl rfl
          have y0 : W3.cell? ⟨g1, J0, none⟩ = some (.int .i64 (G.getD J0 0)) := small_cell hS2.out 0 rfl hSM.out.1.1 hJ
          have y1 : W3.frozen? ⟨g1, J0, none⟩ = false := hS2.out.rfree 0 rfl _
          have hgb := hSM.out.1.2 J0
          have HPG := Lib.hid (show putL G J0 X2 = G.set J0 (G.getD J0 0 + X2) from rfl)
          generalize G.getD J0 0 = gv at *
          have wg : IntKind.i64.wrap (gv + X2) = gv + X2 := by rw [IntKind.wrap_i64]; omega
          have hS3 := Lib.hid ((hS2.out.ostore 0 rfl J0 (.int .i64 (gv + X2))).drew)
          go_still_tail 9, (by kernel_rfl)
          change wpList _ _ _ _ _ _
          have e2 : W3.drew.cell? ⟨g1, J0, none⟩ = some (.int .i64 gv) := y0
          have e3 : W3.drew.frozen? ⟨g1, J0, none⟩ = false := y1
          go_upto_region 15 with fail
          refine wp_geny hS3.out ?_
          intro W4 hc
          rw [show (L1 G).set J0 (.int .i64 (gv + X2)) = L1 (putL G J0 X2) from by rw [HPG.out]; unfold L1; rw [List.map_set]] at hc
          have hS4 : Hid (Sy w W4 [(bl, #[.int .i64 (J0 : Int), .int .i64 (K0 : Int)], 143), (bx, #[.int .i64 (J0 : Int), .int .i64 (K0 : Int), .int .i64 X2], 144), (bp, #[.int .i64 (J0 : Int), .int .i64 (K0 : Int)], 143)] [⟨.slice (some ⟨g1, 0, none⟩) P.length P.length, 3, 1, P.length, L1 (putL G J0 X2)⟩, ⟨.slice (some ⟨g2, 0, none⟩) N.length N.length, 3, 1, N.length, L1 T⟩] []) := Lib.hid hc
          clear hc hS3 hS2 b0 b2 y0 y1 e2 e3 HPG hgb wg
          have b1 : W4.cell? ⟨bp, 1, none⟩ = some (.int .i64 (K0 : Int)) := hS4.out.cell 2 1 rfl rfl
          have b2 : W4.cell? ⟨bx, 2, none⟩ = some (.int .i64 X2) := hS4.out.cell 1 2 rfl rfl
          have y0 : W4.cell? ⟨g2, K0, none⟩ = some (.int .i64 (T.getD K0 0)) := small_cell hS4.out 1 rfl hSM.out.2.1 hK
          have y1 : W4.frozen? ⟨g2, K0, none⟩ = false := hS4.out.rfree 1 rfl _
          have hgb := hSM.out.2.2 K0
          have HPG := Lib.hid (show putL T K0 X2 = T.set K0 (T.getD K0 0 + X2) from rfl)
          generalize T.getD K0 0 = tv at *
          have wg : IntKind.i64.wrap (tv + X2) = tv + X2 := by rw [IntKind.wrap_i64]; omega
          have hS5 := Lib.hid ((hS4.out.ostore 1 rfl K0 (.int .i64 (tv + X2))).drew)
          go_still_tail 9, (by kernel_rfl)
          change wpList _ _ _ _ _ _
          have e2 : W4.drew.cell? ⟨g2, K0, none⟩ = some (.int .i64 tv) := y0
          have e3 : W4.drew.frozen? ⟨g2, K0, none⟩ = false := y1
          go_upto_region 16 with fail
          refine wp_geny hS5.out ?_
          intro W5 hc
          rw [show (L1 T).set K0 (.int .i64 (tv + X2)) = L1 (putL T K0 X2) from by rw [HPG.out]; unfold L1; rw [List.map_set]] at hc
          have hS : Hid (Sy w W5 [(bl, #[.int .i64 (J0 : Int), .int .i64 (K0 : Int)], 143), (bx, #[.int .i64 (J0 : Int), .int .i64 (K0 : Int), .int .i64 X2], 144), (bp, #[.int .i64 (J0 : Int), .int .i64 (K0 : Int)], 143)] [⟨.slice (some ⟨g1, 0, none⟩) P.length P.length, 3, 1, P.length, L1 (putL G J0 X2)⟩, ⟨.slice (some ⟨g2, 0, none⟩) N.length N.length, 3, 1, N.length, L1 (putL T K0 X2)⟩] []) := Lib.hid hc
          clear hc hS5 hS4 b1 b2 y0 y1 e2 e3 HPG hgb wg
          refine wp_region_held_drew (S := (fun w' => w'.cell? ⟨bx, 0, none⟩ = some (.int .i64 (J0 : Int)) ∧ w'.cell? ⟨bx, 1, none⟩ = some (.int .i64 (K0 : Int)) ∧ w'.cell? ⟨bx, 2, none⟩ = some (.int .i64 X2) ∧ w'.cell? ⟨bp, 0, none⟩ = some (.int .i64 (J0 : Int)) ∧ w'.cell? ⟨bp, 1, none⟩ = some (.int .i64 (K0 : Int)) ∧ w'.cell? ⟨gp, op + J0 * 3, none⟩ = some (.int .i64 p0) ∧ w'.cell? ⟨gp, op + J0 * 3 + 1, none⟩ = some (.int .i64 p1) ∧ w'.cell? ⟨gp, op + J0 * 3 + 2, none⟩ = some (.int .i64 p2) ∧ w'.cell? ⟨gn, on + K0 * 2, none⟩ = some (.int .i64 n0) ∧ w'.cell? ⟨gn, on + K0 * 2 + 1, none⟩ = some (.int .i64 n1) ∧ True)) (by kernel_rfl) ⟨hS.out.drew.cell 1 0 rfl rfl, hS.out.drew.cell 1 1 rfl rfl, hS.out.drew.cell 1 2 rfl rfl, hS.out.drew.cell 2 0 rfl rfl, hS.out.drew.cell 2 1 rfl rfl, (HPJ.out _ hS.out.drew.be).1, (HPJ.out _ hS.out.drew.be).2.1, (HPJ.out _ hS.out.drew.be).2.2, (HNK.out _ hS.out.drew.be).1, (HNK.out _ hS.out.drew.be).2, trivial⟩ (fun hH => ?_)
          refine wpAnyH_geny (show Sy w _ [(bl, #[.int .i64 (J0 : Int), .int .i64 (K0 : Int)], 143), (bx, #[.int .i64 (J0 : Int), .int .i64 (K0 : Int), .int .i64 X2], 144), (bp, #[.int .i64 (J0 : Int), .int .i64 (K0 : Int)], 143)] [⟨.slice (some ⟨g1, 0, none⟩) P.length P.length, 3, 1, P.length, L1 (putL G J0 X2)⟩, ⟨.slice (some ⟨g2, 0, none⟩) N.length N.length, 3, 1, N.length, L1 (putL T K0 X2)⟩] [] from hS.out.drew) hH ?_
          intro VR_0 hc hHR_0
          have hVR_0 := Lib.hid hc
          clear hc hH hS
          refine wpAnyH_take (i := 0) (oi := ⟨_, _, _, _, _, _⟩) (v := ?_) rfl (by kernel_rfl) (by kernel_rfl) (by kernel_rfl) (fun _ _ _ h => h) (Or.inl ⟨by rfl, ?_⟩) hHR_0 ?_
          rotate_left
          · intro wS hSw; (try dsimp only at hSw); go_simp; try with_reducible rfl
          try simp only [Act.put, List.setIfInBounds_toArray, List.set_cons_zero, List.set_cons_succ]
          refine wpAnyH_take (i := 1) (oi := ⟨_, _, _, _, _, _⟩) (v := ?_) rfl (by kernel_rfl) (by kernel_rfl) (by kernel_rfl) (fun _ _ _ h => h) (Or.inl ⟨by rfl, ?_⟩) hHR_0 ?_
          rotate_left
          · intro wS hSw; (try dsimp only at hSw); go_simp; try with_reducible rfl
          try simp only [Act.put, List.setIfInBounds_toArray, List.set_cons_zero, List.set_cons_succ]
          refine wpAnyH_take (i := 2) (oi := ⟨_, _, _, _, _, _⟩) (v := ?_) rfl (by kernel_rfl) (by kernel_rfl) (by kernel_rfl) (fun _ _ _ h => h) (Or.inl ⟨by rfl, ?_⟩) hHR_0 ?_
          rotate_left
          · intro wS hSw; (try dsimp only at hSw); go_simp; try with_reducible rfl
          try simp only [Act.put, List.setIfInBounds_toArray, List.set_cons_zero, List.set_cons_succ]
          refine wpAnyH_take (i := 3) (oi := ⟨_, _, _, _, _, _⟩) (v := ?_) rfl (by kernel_rfl) (by kernel_rfl) (by kernel_rfl) (fun _ _ _ h => h) (Or.inl ⟨by rfl, ?_⟩) hHR_0 ?_
          rotate_left
          · intro wS hSw; (try dsimp only at hSw); go_simp; try with_reducible rfl
          try simp only [Act.put, List.setIfInBounds_toArray, List.set_cons_zero, List.set_cons_succ]
          refine wpAnyH_take (i := 4) (oi := ⟨_, _, _, _, _, _⟩) (v := ?_) rfl (by kernel_rfl) (by kernel_rfl) (by kernel_rfl) (fun _ _ _ h => h) (Or.inl ⟨by rfl, ?_⟩) hHR_0 ?_
          rotate_left
          · intro wS hSw; (try dsimp only at hSw); go_simp; try with_reducible rfl
          try simp only [Act.put, List.setIfInBounds_toArray, List.set_cons_zero, List.set_cons_succ]
          refine wpAnyH_take (i := 5) (oi := ⟨_, _, _, _, _, _⟩) (v := ?_) rfl (by kernel_rfl) (by kernel_rfl) (by kernel_rfl) (fun _ _ _ h => h) (Or.inl ⟨by rfl, ?_⟩) hHR_0 ?_
          rotate_left
          · intro wS hSw; (try dsimp only at hSw); go_simp; try with_reducible rfl
          try simp only [Act.put, List.setIfInBounds_toArray, List.set_cons_zero, List.set_cons_succ]
          refine wpAnyH_take (i := 6) (oi := ⟨_, _, _, _, _, _⟩) (v := ?_) rfl (by kernel_rfl) (by kernel_rfl) (by kernel_rfl) (fun _ _ _ h => h) (Or.inl ⟨by rfl, ?_⟩) hHR_0 ?_
          rotate_left
          · intro wS hSw; (try dsimp only at hSw); go_simp; try with_reducible rfl
          try simp only [Act.put, List.setIfInBounds_toArray, List.set_cons_zero, List.set_cons_succ]
          refine wpAnyH_take (i := 7) (oi := ⟨_, _, _, _, _, _⟩) (v := ?_) rfl (by kernel_rfl) (by kernel_rfl) (by kernel_rfl) (fun _ _ _ h => h) (Or.inl ⟨by rfl, ?_⟩) hHR_0 ?_
          rotate_left
          · intro wS hSw; (try dsimp only at hSw); go_simp; try with_reducible rfl
          try simp only [Act.put, List.setIfInBounds_toArray, List.set_cons_zero, List.set_cons_succ]
          refine wpAnyH_take (i := 8) (oi := ⟨_, _, _, _, _, _⟩) (v := ?_) rfl (by kernel_rfl) (by kernel_rfl) (by kernel_rfl) (fun _ _ _ h => h) (Or.inl ⟨by rfl, ?_⟩) hHR_0 ?_
          rotate_left
          · intro wS hSw; (try dsimp only at hSw); go_simp; try with_reducible rfl
          try simp only [Act.put, List.setIfInBounds_toArray, List.set_cons_zero, List.set_cons_succ]
          refine wpAnyH_take (i := 9) (oi := ⟨_, _, _, _, _, _⟩) (v := ?_) rfl (by kernel_rfl) (by kernel_rfl) (by kernel_rfl) (fun _ _ _ h => h) (Or.inl ⟨by rfl, ?_⟩) hHR_0 ?_
          rotate_left
          · intro wS hSw; (try dsimp only at hSw); go_simp; try with_reducible rfl
          try simp only [Act.put, List.setIfInBounds_toArray, List.set_cons_zero, List.set_cons_succ]
          refine wpAnyH_take (i := 10) (oi := ⟨_, _, _, _, _, _⟩) (v := ?_) rfl (by kernel_rfl) (by kernel_rfl) (by kernel_rfl) (fun _ _ _ h => h) (Or.inl ⟨by rfl, ?_⟩) hHR_0 ?_
          rotate_left
          · intro wS hSw; (try dsimp only at hSw); go_simp; try with_reducible rfl
          try simp only [Act.put, List.setIfInBounds_toArray, List.set_cons_zero, List.set_cons_succ]
          refine wpAnyH_take (i := 11) (oi := ⟨_, _, _, _, _, _⟩) (v := ?_) rfl (by kernel_rfl) (by kernel_rfl) (by kernel_rfl) (fun _ _ _ h => h) (Or.inl ⟨by rfl, ?_⟩) hHR_0 ?_
          rotate_left
          · intro wS hSw; (try dsimp only at hSw); go_simp; try with_reducible rfl
          try simp only [Act.put, List.setIfInBounds_toArray, List.set_cons_zero, List.set_cons_succ]
          refine wpAnyH_take (i := 12) (oi := ⟨_, _, _, _, _, _⟩) (v := ?_) rfl (by kernel_rfl) (by kernel_rfl) (by kernel_rfl) (fun _ _ _ h => h) (Or.inl ⟨by rfl, ?_⟩) hHR_0 ?_
          rotate_left
          · intro wS hSw; (try dsimp only at hSw); go_simp; try with_reducible rfl
          try simp only [Act.put, List.setIfInBounds_toArray, List.set_cons_zero, List.set_cons_succ]
          refine wpAnyH_ready (rs := [13]) (by kernel_rfl) (by simp) ?_
          refine AllReadyH.cons (o := ⟨_, _, _, _, _, _⟩) rfl (fun Kq hKq => ?_) AllReadyH.nil
          go_simp
          go_at_call 73
          refine (HUC.out _).mono ?_
          rintro e wT ⟨rfl, hb⟩
          (try go_wp2_with fail)
          refine stepY hKq (show Sy w _ [(bl, #[.int .i64 (J0 : Int), .int .i64 (K0 : Int)], 143), (bx, #[.int .i64 (J0 : Int), .int .i64 (K0 : Int), .int .i64 X2], 144), (bp, #[.int .i64 (J0 : Int), .int .i64 (K0 : Int)], 143)] [⟨.slice (some ⟨g1, 0, none⟩) P.length P.length, 3, 1, P.length, L1 (putL G J0 X2)⟩, ⟨.slice (some ⟨g2, 0, none⟩) N.length N.length, 3, 1, N.length, L1 (putL T K0 X2)⟩] [] from (hVR_0.out.call hb)) (fun _ hX => ⟨hX.cell 1 0 rfl rfl, hX.cell 1 1 rfl rfl, hX.cell 1 2 rfl rfl, hX.cell 2 0 rfl rfl, hX.cell 2 1 rfl rfl, (HPJ.out _ hX.be).1, (HPJ.out _ hX.be).2.1, (HPJ.out _ hX.be).2.2, (HNK.out _ hX.be).1, (HNK.out _ hX.be).2, trivial⟩) ?_
          intro VR_1 hc hHR_1
          have hVR_1 := Lib.hid hc
          clear hc hKq Kq hVR_0 hb hHR_0
          try simp only [Act.put, List.setIfInBounds_toArray, List.set_cons_zero, List.set_cons_succ]
          refine wpAnyH_take (i := 14) (oi := ⟨_, _, _, _, _, _⟩) (v := ?_) rfl (by kernel_rfl) (by kernel_rfl) (by kernel_rfl) (fun _ _ _ h => h) (Or.inl ⟨by rfl, ?_⟩) hHR_1 ?_
          rotate_left
          · intro wS hSw; (try dsimp only at hSw); go_simp; try with_reducible rfl
          try simp only [Act.put, List.setIfInBounds_toArray, List.set_cons_zero, List.set_cons_succ]
          refine wpAnyH_take (i := 15) (oi := ⟨_, _, _, _, _, _⟩) (v := ?_) rfl (by kernel_rfl) (by kernel_rfl) (by kernel_rfl) (fun _ _ _ h => h) (Or.inl ⟨by rfl, ?_⟩) hHR_1 ?_
          rotate_left
          · intro wS hSw; (try dsimp only at hSw); go_simp; try with_reducible rfl
          try simp only [Act.put, List.setIfInBounds_toArray, List.set_cons_zero, List.set_cons_succ]
          refine wpAnyH_ready (rs := [16]) (by kernel_rfl) (by simp) ?_
          refine AllReadyH.cons (o := ⟨_, _, _, _, _, _⟩) rfl (fun Kq hKq => ?_) AllReadyH.nil
          go_simp
          refine stepY hKq (show Sy w _ [(bl, #[.int .i64 (J0 : Int), .int .i64 (K0 : Int)], 143), (bx, #[.int .i64 (J0 : Int), .int .i64 (K0 : Int), .int .i64 X2], 144), (bp, #[.int .i64 (J0 : Int), .int .i64 (K0 : Int)], 143)] [⟨.slice (some ⟨g1, 0, none⟩) P.length P.length, 3, 1, P.length, L1 (putL G J0 X2)⟩, ⟨.slice (some ⟨g2, 0, none⟩) N.length N.length, 3, 1, N.length, L1 (putL T K0 X2)⟩] [] from hVR_1.out) (fun _ hX => ⟨hX.cell 1 0 rfl rfl, hX.cell 1 1 rfl rfl, hX.cell 1 2 rfl rfl, hX.cell 2 0 rfl rfl, hX.cell 2 1 rfl rfl, (HPJ.out _ hX.be).1, (HPJ.out _ hX.be).2.1, (HPJ.out _ hX.be).2.2, (HNK.out _ hX.be).1, (HNK.out _ hX.be).2, trivial⟩) ?_
          intro VR_2 hc hHR_2
          have hVR_2 := Lib.hid hc
          clear hc hKq Kq hVR_1 hHR_1
          try simp only [Act.put, List.setIfInBounds_toArray, List.set_cons_zero, List.set_cons_succ]
          refine wpAnyH_done (by kernel_rfl) ?_ _
          go_wp2
          go_roundw
          case rel =>
            refine ⟨k + 1, q + X2 * un, putL G J0 X2, putL T K0 X2, (J0 : Int), (K0 : Int), by omega, rfl, by go_num, by omega, Lib.hid (fun i hi => ?_), Lib.hid ⟨by rw [HCS.out, ← hD.out.1], by rw [HGS.out, ← hD.out.2.1], by rw [HTS.out, ← hD.out.2.2]⟩, Lib.hid ⟨hSM.out.1.put hJ r2, hSM.out.2.put hK r2⟩, Lib.hid (.inr ⟨by omega, X2, HXK.out⟩), Lib.hid (hVR_2.out.thin (List.Sublist.cons_cons _ (List.nil_sublist _)) (List.Sublist.refl _))⟩
            rcases Nat.lt_or_ge i k with h | h
            · exact hOK.out i h
            · rw [show i = k by omega]; exact HL1.out
          case measure => simp [intOf]; omega
      · have hkk : ¬ (k : Int) < (l.length : Int) := by omega
        have ht : l.take k = l := List.take_of_length_le (by omega)
        rw [ht] at hD
        have HLY := Lib.hid (lds_yes fun i hi => hOK.out i (by omega))
        have HQ0 := Lib.hid hD.out.1
        have HGG := Lib.hid hD.out.2.1
        have HTT := Lib.hid hD.out.2.2
        have hq2 : 0 ≤ q ∧ q ≤ 1200000000000000 := by omega
        have hSZ := Lib.hid (hS.out.thin (List.nil_sublist _) (List.Sublist.refl _))
        clear ht hq hOK hLA hD hS
        have hS := hSZ
        clear hSZ
        go_wp2
        go_loopw [14, 151] (fun qv iv wr => ∃ (i : Nat) (r : Int), i ≤ P.length ∧ qv = .int .i64 r ∧ iv = .int .i64 i ∧ (0 ≤ r ∧ r ≤ 1200000000000000 + (i : Int) * 1000000000000000) ∧ Hid (r = costL P N l + suP P u i) ∧ Hid (∀ j, j < i → G.getD j 0 ≤ hA P j) ∧
          Hid (∀ j, j < i → ∀ m, m < N.length → vs.getD m 0 - u.getD j 0 ≤ unitI (P.getD j ld0) (N.getD m (0, 0))) ∧ Hid (Sy w wr [] [⟨.slice (some ⟨g1, 0, none⟩) P.length P.length, 3, 1, P.length, L1 G⟩, ⟨.slice (some ⟨g2, 0, none⟩) N.length N.length, 3, 1, N.length, L1 T⟩] [])) (fun _ iv _ => P.length - (intOf iv).toNat)
        case atStart => exact ⟨0, q, Nat.zero_le _, rfl, rfl, by omega, Lib.hid (by rw [HQ0.out]; show _ = _ + (0 : Int); omega), Lib.hid (fun j h => absurd h (Nat.not_lt_zero j)), Lib.hid (fun j h => absurd h (Nat.not_lt_zero j)), hS⟩
        case round =>
          clear hS hkk hlt hk hq2
          obtain ⟨i, r, hi, rfl, rfl, hr, hD, hGO, hPA, hS⟩ := hrel
          by_cases hil : i < P.length
          · have hii : (i : Int) < (P.length : Int) := by omega
            have i0 : (0 : Int) ≤ (i : Int) := by omega
            have hiu : i < u.length := by omega
            have hiu1 : (i : Int) < (u.length : Int) := by omega
            obtain ⟨gp, op, rfl⟩ := HSP.out.addr (by omega)
            obtain ⟨gu, ou, rfl⟩ := HSU.out.addr (by omega)
            obtain ⟨z0, z1, z2⟩ := (hS.out.sx HSP.out).at3 hil
            have HUX := Lib.hid (show ∀ W, Below w.heap.size w W → W.cell? ⟨gu, ou + i, none⟩ = some (.int .i64 (u.getD i 0)) from fun W hW => by rw [getD_at hiu]; exact (HSU.out.below hW).at1 hiu)
            have HSS := Lib.hid (show suP P u (i + 1) = suP P u i + hA P i * u.getD i 0 from rfl)
            have hub := HUA.out i hiu
            have HPD := Lib.hid (HGD.out.2.2.1 _ (List.getElem_mem hil))
            have HPG := Lib.hid (getD_at3 hil)
            have HAI := Lib.hid (hA_at hil)
            have HNOI := Lib.hid (fun h => HNO2.out (show givenOk P (givenL P.length l) = false from by rw [← HGG.out]; exact given_no (G := G) hil h))
            have HGI := Lib.hid (show ∀ v, G.getD i 0 = v → v ≤ hA P i → ∀ j, j < i + 1 → G.getD j 0 ≤ hA P j from fun v e h j hj => by
              rcases Nat.lt_or_ge j i with h1 | h1
              · exact hGO.out j h1
              · rw [show j = i by omega, e]; exact h)
            have HYC := Lib.hid (show ∀ W bs rs, Sy w W bs [⟨.slice (some ⟨g1, 0, none⟩) P.length P.length, 3, 1, P.length, L1 G⟩, ⟨.slice (some ⟨g2, 0, none⟩) N.length N.length, 3, 1, N.length, L1 T⟩] rs → W.cell? ⟨g1, i, none⟩ = some (.int .i64 (G.getD i 0)) from fun W bs rs h => small_cell h 0 rfl hSM.out.1.1 hil)
            obtain ⟨gv, hgv⟩ : ∃ v, G.getD i 0 = v := ⟨_, rfl⟩
            have HGV := Lib.hid (HGI.out gv hgv)
            obtain ⟨u0, hu0⟩ : ∃ x, u.getD i 0 = x := ⟨_, rfl⟩
            have HUE := Lib.hid hu0
            rw [hgv] at HNOI HYC
            rw [hu0] at HUX hub HSS
            rw [HAI.out] at HNOI HGV HSS
            clear hgv hu0 HGI HAI
            generalize P[i] = p at *
            obtain ⟨p0, p1, p2⟩ := p
            dsimp only at z0 z1 z2 HNOI HGV HSS HPD
            have hA := Lib.hid (hS.out.al wr.heap.size #[.int .i64 p0, .int .i64 p1, .int .i64 p2] 108 rfl)
            clear hS
            go_upto_region 21 with fail
            refine wp_geny hA.out ?_
            intro W2 hc
            have hS : Hid (Sy w W2 [(wr.heap.size, #[.int .i64 p0, .int .i64 p1, .int .i64 p2], 108)] [⟨.slice (some ⟨g1, 0, none⟩) P.length P.length, 3, 1, P.length, L1 G⟩, ⟨.slice (some ⟨g2, 0, none⟩) N.length N.length, 3, 1, N.length, L1 T⟩] []) := Lib.hid hc
            clear hc hA z0 z1 z2
            generalize wr.heap.size = bq at *
            have y0 := HYC.out _ _ _ hS.out
            have b1 : W2.cell? ⟨bq, 1, none⟩ = some (.int .i64 p1) := hS.out.cell 0 1 rfl rfl
            by_cases hgt : p1 < gv
            · have HF := Lib.hid (HNOI.out hgt)
              have d3 : decide (gv > p1) = true := decide_eq_true hgt
              go_quiet (fail)
              go_wp2
              go_ret
              exact ⟨ret_bool HF.out, hS.out.be.trans (below_dN (Below.refl _ _) nq)⟩
            have HGN := Lib.hid (HGV.out (by omega))
            have d3 : decide (gv > p1) = false := decide_eq_false hgt
            go_quiet (fail)
            have hS1 := Lib.hid (hS.out.call (below_dN (Below.refl _ _) nq))
            go_upto_region 23 with fail
            refine wp_geny hS1.out ?_
            intro W7 hc
            have hS := Lib.hid hc
            clear hc hS1 y0 b1 d3
            have ux := HUX.out _ hS.out.be
            have b1 : W7.cell? ⟨bq, 1, none⟩ = some (.int .i64 p1) := hS.out.cell 0 1 rfl rfl
            have hpd := HPD.out
            have p00 : 0 ≤ p1 * u0 := Int.mul_nonneg hpd.2.1.1 hub.1
            have p01 : p1 * u0 ≤ 1000000 * 1000000000 := Int.mul_le_mul hpd.2.1.2 hub.2 hub.1 (by decide)
            have wx1 : IntKind.i64.wrap (p1 * u0) = p1 * u0 := IntWalk.i64_in _ (by omega)
            have wx2 : IntKind.i64.wrap (r + p1 * u0) = r + p1 * u0 := IntWalk.i64_in _ (by omega)
            go_quiet (fail)
            have hS1 := Lib.hid (hS.out.call (below_dN (Below.refl _ _) nq))
            clear hS
            go_wp2
            go_loopw [174] (fun iv wr => ∃ m : Nat, m ≤ N.length ∧ iv = .int .i64 m ∧ Hid (∀ j, j < m → vs.getD j 0 - u.getD i 0 ≤ unitI (P.getD i ld0) (N.getD j (0, 0))) ∧ Hid (Sy w wr [(bq, #[.int .i64 p0, .int .i64 p1, .int .i64 p2], 108)] [⟨.slice (some ⟨g1, 0, none⟩) P.length P.length, 3, 1, P.length, L1 G⟩, ⟨.slice (some ⟨g2, 0, none⟩) N.length N.length, 3, 1, N.length, L1 T⟩] [])) (fun iv _ => N.length - (intOf iv).toNat)
            case atStart => exact ⟨0, Nat.zero_le _, rfl, Lib.hid (fun j h => absurd h (Nat.not_lt_zero j)), hS1⟩
            case round =>
              clear hS1 ux b1
              obtain ⟨m, hm, rfl, hPI, hS⟩ := hrel
              by_cases hml : m < N.length
              · have hmm : (m : Int) < (N.length : Int) := by omega
                have m0 : (0 : Int) ≤ (m : Int) := by omega
                have hmv : m < vs.length := by omega
                have hmv1 : (m : Int) < (vs.length : Int) := by omega
                obtain ⟨gn, on, rfl⟩ := HSN.out.addr (by omega)
                obtain ⟨gw, ov, rfl⟩ := HSV.out.addr (by omega)
                have HVX := Lib.hid (show ∀ W, Below w.heap.size w W → W.cell? ⟨gw, ov + m, none⟩ = some (.int .i64 (vs.getD m 0)) from fun W hW => by rw [getD_at hmv]; exact (HSV.out.below hW).at1 hmv)
                obtain ⟨z0, z1⟩ := (hS.out.sx HSN.out).at2 hml
                have hvb := HVA.out m hmv
                have HND := Lib.hid (HGD.out.2.2.2 _ (List.getElem_mem hml))
                have HNG := Lib.hid (getD_at2 hml)
                obtain ⟨v, hv0⟩ : ∃ x, vs.getD m 0 = x := ⟨_, rfl⟩
                have HVV := Lib.hid hv0
                rw [hv0] at HVX hvb
                clear hv0
                generalize N[m] = n at *
                obtain ⟨n0, n1⟩ := n
                dsimp only at z0 z1 HND
                have HUC := Lib.hid (fun W => costs_any W (p0, p1, p2) (n0, n1) (by have := hpd.1; dsimp only at this ⊢; omega) (by have := HND.out.1; dsimp only at this ⊢; omega) (by have := hpd.2.2; dsimp only at this ⊢; omega))
                have HUN := Lib.hid (show unitI (P.getD i ld0) (N.getD m (0, 0)) = unitI (p0, p1, p2) (n0, n1) from by rw [HPG.out, HNG.out])
                generalize unitI (p0, p1, p2) (n0, n1) = un at *
                dsimp only at HUC
                have wv : IntKind.i64.wrap (v - u0) = v - u0 := IntWalk.i64_in _ (by omega)
                have hA := Lib.hid (hS.out.al wr.heap.size #[.int .i64 n0, .int .i64 n1] 110 rfl)
                clear hS
                go_upto_region 27 with fail
                refine wp_geny hA.out ?_
                intro W2 hc
                have hS : Hid (Sy w W2 [(bq, #[.int .i64 p0, .int .i64 p1, .int .i64 p2], 108), (wr.heap.size, #[.int .i64 n0, .int .i64 n1], 110)] [⟨.slice (some ⟨g1, 0, none⟩) P.length P.length, 3, 1, P.length, L1 G⟩, ⟨.slice (some ⟨g2, 0, none⟩) N.length N.length, 3, 1, N.length, L1 T⟩] []) := Lib.hid hc
                clear hc hA z0 z1
                generalize wr.heap.size = bn at *
                refine wp_region_held_drew (S := (fun w' => w'.cell? ⟨bq, 0, none⟩ = some (.int .i64 p0) ∧ w'.cell? ⟨bq, 1, none⟩ = some (.int .i64 p1) ∧ w'.cell? ⟨bq, 2, none⟩ = some (.int .i64 p2) ∧ w'.cell? ⟨bn, 0, none⟩ = some (.int .i64 n0) ∧ w'.cell? ⟨bn, 1, none⟩ = some (.int .i64 n1) ∧ w'.cell? ⟨gu, ou + i, none⟩ = some (.int .i64 u0) ∧ w'.cell? ⟨gw, ov + m, none⟩ = some (.int .i64 v) ∧ True)) (by kernel_rfl) ⟨hS.out.drew.cell 0 0 rfl rfl, hS.out.drew.cell 0 1 rfl rfl, hS.out.drew.cell 0 2 rfl rfl, hS.out.drew.cell 1 0 rfl rfl, hS.out.drew.cell 1 1 rfl rfl, (HUX.out _ hS.out.drew.be), (HVX.out _ hS.out.drew.be), trivial⟩ (fun hH => ?_)
                refine wpAnyH_geny (show Sy w _ [(bq, #[.int .i64 p0, .int .i64 p1, .int .i64 p2], 108), (bn, #[.int .i64 n0, .int .i64 n1], 110)] [⟨.slice (some ⟨g1, 0, none⟩) P.length P.length, 3, 1, P.length, L1 G⟩, ⟨.slice (some ⟨g2, 0, none⟩) N.length N.length, 3, 1, N.length, L1 T⟩] [] from hS.out.drew) hH ?_
                intro VQ_0 hc hHQ_0
                have hVQ_0 := Lib.hid hc
                clear hc hH hS
                refine wpAnyH_take (i := 0) (oi := ⟨_, _, _, _, _, _⟩) (v := ?_) rfl (by kernel_rfl) (by kernel_rfl) (by kernel_rfl) (fun _ _ _ h => h) (Or.inl ⟨by rfl, ?_⟩) hHQ_0 ?_
                rotate_left
                · intro wS hSw; (try dsimp only at hSw); go_simp; try with_reducible rfl
                try simp only [Act.put, List.setIfInBounds_toArray, List.set_cons_zero, List.set_cons_succ]
                refine wpAnyH_take (i := 1) (oi := ⟨_, _, _, _, _, _⟩) (v := ?_) rfl (by kernel_rfl) (by kernel_rfl) (by kernel_rfl) (fun _ _ _ h => h) (Or.inl ⟨by rfl, ?_⟩) hHQ_0 ?_
                rotate_left
                · intro wS hSw; (try dsimp only at hSw); go_simp; try with_reducible rfl
                try simp only [Act.put, List.setIfInBounds_toArray, List.set_cons_zero, List.set_cons_succ]
                refine wpAnyH_take (i := 2) (oi := ⟨_, _, _, _, _, _⟩) (v := ?_) rfl (by kernel_rfl) (by kernel_rfl) (by kernel_rfl) (fun _ _ _ h => h) (Or.inl ⟨by rfl, ?_⟩) hHQ_0 ?_
                rotate_left
                · intro wS hSw; (try dsimp only at hSw); go_simp; try with_reducible rfl
                try simp only [Act.put, List.setIfInBounds_toArray, List.set_cons_zero, List.set_cons_succ]
                refine wpAnyH_take (i := 3) (oi := ⟨_, _, _, _, _, _⟩) (v := ?_) rfl (by kernel_rfl) (by kernel_rfl) (by kernel_rfl) (fun _ _ _ h => h) (Or.inl ⟨by rfl, ?_⟩) hHQ_0 ?_
                rotate_left
                · intro wS hSw; (try dsimp only at hSw); go_simp; try with_reducible rfl
                try simp only [Act.put, List.setIfInBounds_toArray, List.set_cons_zero, List.set_cons_succ]
                refine wpAnyH_take (i := 4) (oi := ⟨_, _, _, _, _, _⟩) (v := ?_) rfl (by kernel_rfl) (by kernel_rfl) (by kernel_rfl) (fun _ _ _ h => h) (Or.inl ⟨by rfl, ?_⟩) hHQ_0 ?_
                rotate_left
                · intro wS hSw; (try dsimp only at hSw); go_simp; try with_reducible rfl
                try simp only [Act.put, List.setIfInBounds_toArray, List.set_cons_zero, List.set_cons_succ]
                refine wpAnyH_take (i := 5) (oi := ⟨_, _, _, _, _, _⟩) (v := ?_) rfl (by kernel_rfl) (by kernel_rfl) (by kernel_rfl) (fun _ _ _ h => h) (Or.inl ⟨by rfl, ?_⟩) hHQ_0 ?_
                rotate_left
                · intro wS hSw; (try dsimp only at hSw); go_simp; try with_reducible rfl
                try simp only [Act.put, List.setIfInBounds_toArray, List.set_cons_zero, List.set_cons_succ]
                refine wpAnyH_take (i := 6) (oi := ⟨_, _, _, _, _, _⟩) (v := ?_) rfl (by kernel_rfl) (by kernel_rfl) (by kernel_rfl) (fun _ _ _ h => h) (Or.inl ⟨by rfl, ?_⟩) hHQ_0 ?_
                rotate_left
                · intro wS hSw; (try dsimp only at hSw); go_simp; try with_reducible rfl
                try simp only [Act.put, List.setIfInBounds_toArray, List.set_cons_zero, List.set_cons_succ]
                refine wpAnyH_take (i := 7) (oi := ⟨_, _, _, _, _, _⟩) (v := ?_) rfl (by kernel_rfl) (by kernel_rfl) (by kernel_rfl) (fun _ _ _ h => h) (Or.inl ⟨by rfl, ?_⟩) hHQ_0 ?_
                rotate_left
                · intro wS hSw; (try dsimp only at hSw); go_simp; try with_reducible rfl
                try simp only [Act.put, List.setIfInBounds_toArray, List.set_cons_zero, List.set_cons_succ]
                refine wpAnyH_take (i := 8) (oi := ⟨_, _, _, _, _, _⟩) (v := ?_) rfl (by kernel_rfl) (by kernel_rfl) (by kernel_rfl) (fun _ _ _ h => h) (Or.inl ⟨by rfl, ?_⟩) hHQ_0 ?_
                rotate_left
                · intro wS hSw; (try dsimp only at hSw); go_simp; try with_reducible rfl
                try simp only [Act.put, List.setIfInBounds_toArray, List.set_cons_zero, List.set_cons_succ]
                refine wpAnyH_take (i := 9) (oi := ⟨_, _, _, _, _, _⟩) (v := ?_) rfl (by kernel_rfl) (by kernel_rfl) (by kernel_rfl) (fun _ _ _ h => h) (Or.inl ⟨by rfl, ?_⟩) hHQ_0 ?_
                rotate_left
                · intro wS hSw; (try dsimp only at hSw); go_simp; try with_reducible rfl
                try simp only [Act.put, List.setIfInBounds_toArray, List.set_cons_zero, List.set_cons_succ]
                refine wpAnyH_take (i := 10) (oi := ⟨_, _, _, _, _, _⟩) (v := ?_) rfl (by kernel_rfl) (by kernel_rfl) (by kernel_rfl) (fun _ _ _ h => h) (Or.inl ⟨by rfl, ?_⟩) hHQ_0 ?_
                rotate_left
                · intro wS hSw; (try dsimp only at hSw); go_simp; try with_reducible rfl
                try simp only [Act.put, List.setIfInBounds_toArray, List.set_cons_zero, List.set_cons_succ]
                refine wpAnyH_ready (rs := [11]) (by kernel_rfl) (by simp) ?_
                refine AllReadyH.cons (o := ⟨_, _, _, _, _, _⟩) rfl (fun Kq hKq => ?_) AllReadyH.nil
                go_simp
                go_at_call 73
                refine (HUC.out _).mono ?_
                rintro e wT ⟨rfl, hb⟩
                (try go_wp2_with fail)
                refine stepY hKq (show Sy w _ [(bq, #[.int .i64 p0, .int .i64 p1, .int .i64 p2], 108), (bn, #[.int .i64 n0, .int .i64 n1], 110)] [⟨.slice (some ⟨g1, 0, none⟩) P.length P.length, 3, 1, P.length, L1 G⟩, ⟨.slice (some ⟨g2, 0, none⟩) N.length N.length, 3, 1, N.length, L1 T⟩] [] from (hVQ_0.out.call hb)) (fun _ hX => ⟨hX.cell 0 0 rfl rfl, hX.cell 0 1 rfl rfl, hX.cell 0 2 rfl rfl, hX.cell 1 0 rfl rfl, hX.cell 1 1 rfl rfl, (HUX.out _ hX.be), (HVX.out _ hX.be), trivial⟩) ?_
                intro VQ_1 hc hHQ_1
                have hVQ_1 := Lib.hid hc
                clear hc hKq Kq hVQ_0 hb hHQ_0
                try simp only [Act.put, List.setIfInBounds_toArray, List.set_cons_zero, List.set_cons_succ]
                refine wpAnyH_take (i := 12) (oi := ⟨_, _, _, _, _, _⟩) (v := ?_) rfl (by kernel_rfl) (by kernel_rfl) (by kernel_rfl) (fun _ _ _ h => h) (Or.inl ⟨by rfl, ?_⟩) hHQ_1 ?_
                rotate_left
                · intro wS hSw; (try dsimp only at hSw); go_simp; try with_reducible rfl
                try simp only [Act.put, List.setIfInBounds_toArray, List.set_cons_zero, List.set_cons_succ]
                refine wpAnyH_done (by kernel_rfl) ?_ _
                by_cases hgt : un < v - u0
                · have HF := Lib.hid (HNO4.out (pairs_no hil hml (by rw [HUE.out, HVV.out, HUN.out]; exact hgt)))
                  have d0 : v - u0 > un := hgt
                  go_wp2
                  go_ret
                  exact ⟨ret_bool HF.out, hVQ_1.out.be⟩
                · have d0 : ¬ (v - u0 > un) := hgt
                  have HGN := Lib.hid (show vs.getD m 0 - u.getD i 0 ≤ unitI (P.getD i ld0) (N.getD m (0, 0)) from by rw [HUE.out, HVV.out, HUN.out]; omega)
                  go_wp2
                  go_roundw
                  case rel =>
                    refine ⟨m + 1, by omega, by go_num, Lib.hid (fun j hj => ?_), Lib.hid (hVQ_1.out.thin (List.Sublist.cons_cons _ (List.nil_sublist _)) (List.Sublist.refl _))⟩
                    rcases Nat.lt_or_ge j m with h | h
                    · exact hPI.out j h
                    · rw [show j = m by omega]; exact HGN.out
                  case measure => simp [intOf]; omega
              · have hmm : ¬ (m : Int) < (N.length : Int) := by omega
                have HPK := Lib.hid (show ∀ j, j < i + 1 → ∀ m, m < N.length → vs.getD m 0 - u.getD j 0 ≤ unitI (P.getD j ld0) (N.getD m (0, 0)) from fun j hj t ht => by
                  rcases Nat.lt_or_ge j i with h1 | h1
                  · exact hPA.out j h1 t ht
                  · rw [show j = i by omega]; exact hPI.out t (by omega))
                go_wp2
                go_roundw
                case rel => exact ⟨i + 1, r + p1 * u0, by omega, rfl, by go_num, by omega, Lib.hid (by rw [HSS.out, hD.out]; omega), HGN, HPK, Lib.hid (hS.out.thin (List.nil_sublist _) (List.Sublist.refl _))⟩
                case measure => simp [intOf]; omega
          · have hii : ¬ (i : Int) < (P.length : Int) := by omega
            have HGY := Lib.hid (given_yes (P := P) (G := G) fun j hj => hGO.out j (by omega))
            have HPY := Lib.hid (pairs_yes (P := P) (N := N) (u := u) (v := vs) fun t ht j hj => hPA.out j (by omega) t ht)
            have HR0 := Lib.hid (show r = costL P N l + suP P u P.length from by rw [hD.out, show i = P.length from by omega])
            have hr2 : 0 ≤ r ∧ r ≤ 22000000000000000 := by omega
            clear hGO hPA hD hr
            go_wp2
            go_loopw [14, 196] (fun qv iv wr => ∃ (m : Nat) (r : Int), m ≤ N.length ∧ qv = .int .i64 r ∧ iv = .int .i64 m ∧ (-((m : Int) * 1000000000000000) ≤ r ∧ r ≤ 22000000000000000) ∧ Hid (r = costL P N l + suP P u P.length - svN N vs m) ∧ Hid (∀ j, j < m → T.getD j 0 = hB N j) ∧
              Hid (Sy w wr [] [⟨.slice (some ⟨g1, 0, none⟩) P.length P.length, 3, 1, P.length, L1 G⟩, ⟨.slice (some ⟨g2, 0, none⟩) N.length N.length, 3, 1, N.length, L1 T⟩] [])) (fun _ iv _ => N.length - (intOf iv).toNat)
            case atStart => exact ⟨0, r, Nat.zero_le _, rfl, rfl, by omega, Lib.hid (by rw [HR0.out]; show _ = _ - (0 : Int); omega), Lib.hid (fun j h => absurd h (Nat.not_lt_zero j)), hS⟩
            case round =>
              clear hS hii hil hi hr2 HR0
              obtain ⟨m, r, hm, rfl, rfl, hr, hD, hTO, hS⟩ := hrel
              by_cases hml : m < N.length
              · have hmm : (m : Int) < (N.length : Int) := by omega
                have m0 : (0 : Int) ≤ (m : Int) := by omega
                have hmv : m < vs.length := by omega
                have hmv1 : (m : Int) < (vs.length : Int) := by omega
                obtain ⟨gn, on, rfl⟩ := HSN.out.addr (by omega)
                obtain ⟨gw, ov, rfl⟩ := HSV.out.addr (by omega)
                have HVX := Lib.hid (show ∀ W, Below w.heap.size w W → W.cell? ⟨gw, ov + m, none⟩ = some (.int .i64 (vs.getD m 0)) from fun W hW => by rw [getD_at hmv]; exact (HSV.out.below hW).at1 hmv)
                obtain ⟨z0, z1⟩ := (hS.out.sx HSN.out).at2 hml
                have hvb := HVA.out m hmv
                have HND := Lib.hid (HGD.out.2.2.2 _ (List.getElem_mem hml))
                have HSS := Lib.hid (show svN N vs (m + 1) = svN N vs m + hB N m * vs.getD m 0 from rfl)
                have HAI := Lib.hid (hB_at hml)
                have HNOI := Lib.hid (fun h => HNO3.out (show gotOk N (gotL N.length l) = false from by rw [← HTT.out]; exact got_no (T := T) hml h))
                have HGI := Lib.hid (show ∀ v, T.getD m 0 = v → v = hB N m → ∀ j, j < m + 1 → T.getD j 0 = hB N j from fun v e h j hj => by
                  rcases Nat.lt_or_ge j m with h1 | h1
                  · exact hTO.out j h1
                  · rw [show j = m by omega, e]; exact h)
                have HYC := Lib.hid (show ∀ W bs rs, Sy w W bs [⟨.slice (some ⟨g1, 0, none⟩) P.length P.length, 3, 1, P.length, L1 G⟩, ⟨.slice (some ⟨g2, 0, none⟩) N.length N.length, 3, 1, N.length, L1 T⟩] rs → W.cell? ⟨g2, m, none⟩ = some (.int .i64 (T.getD m 0)) from fun W bs rs h => small_cell h 1 rfl hSM.out.2.1 hml)
                obtain ⟨gv, hgv⟩ : ∃ v, T.getD m 0 = v := ⟨_, rfl⟩
                have HGV := Lib.hid (HGI.out gv hgv)
                obtain ⟨v, hv0⟩ : ∃ x, vs.getD m 0 = x := ⟨_, rfl⟩
                rw [hgv] at HNOI HYC
                rw [hv0] at HVX hvb HSS
                rw [HAI.out] at HNOI HGV HSS
                clear hgv hv0 HGI HAI
                generalize N[m] = n at *
                obtain ⟨n0, n1⟩ := n
                dsimp only at z0 z1 HNOI HGV HSS HND
                have hA := Lib.hid (hS.out.al wr.heap.size #[.int .i64 n0, .int .i64 n1] 110 rfl)
                clear hS
                go_upto_region 34 with fail
                refine wp_geny hA.out ?_
                intro W2 hc
                have hS : Hid (Sy w W2 [(wr.heap.size, #[.int .i64 n0, .int .i64 n1], 110)] [⟨.slice (some ⟨g1, 0, none⟩) P.length P.length, 3, 1, P.length, L1 G⟩, ⟨.slice (some ⟨g2, 0, none⟩) N.length N.length, 3, 1, N.length, L1 T⟩] []) := Lib.hid hc
                clear hc hA z0 z1
                generalize wr.heap.size = bn at *
                have y0 := HYC.out _ _ _ hS.out
                have b1 : W2.cell? ⟨bn, 1, none⟩ = some (.int .i64 n1) := hS.out.cell 0 1 rfl rfl
                by_cases hgt : gv = n1
                rotate_left
                · have HF := Lib.hid (HNOI.out hgt)
                  have d3 : (gv != n1) = true := by simpa using hgt
                  clear hgt
                  go_quiet (fail)
                  go_wp2
                  go_ret
                  exact ⟨ret_bool HF.out, hS.out.be.trans (below_dN (Below.refl _ _) nq)⟩
                have HGN := Lib.hid (HGV.out hgt)
                have d3 : (gv != n1) = false := by simpa using hgt
                clear hgt HNOI HGV
                go_quiet (fail)
                have hS1 := Lib.hid (hS.out.call (below_dN (Below.refl _ _) nq))
                go_upto_region 36 with fail
                refine wp_geny hS1.out ?_
                intro W7 hc
                have hS := Lib.hid hc
                clear hc hS1 y0 b1 d3
                have ux := HVX.out _ hS.out.be
                have b1 : W7.cell? ⟨bn, 1, none⟩ = some (.int .i64 n1) := hS.out.cell 0 1 rfl rfl
                have hnd := HND.out
                have p00 : 0 ≤ n1 * v := Int.mul_nonneg hnd.2.1 hvb.1
                have p01 : n1 * v ≤ 1000000 * 1000000000 := Int.mul_le_mul hnd.2.2 hvb.2 hvb.1 (by decide)
                have wx1 : IntKind.i64.wrap (n1 * v) = n1 * v := IntWalk.i64_in _ (by omega)
                have wx2 : IntKind.i64.wrap (r - n1 * v) = r - n1 * v := IntWalk.i64_in _ (by omega)
                go_quiet (fail)
                have hS1 := Lib.hid (hS.out.call (below_dN (Below.refl _ _) nq))
                clear hS
                go_wp2
                go_roundw
                case rel => exact ⟨m + 1, r - n1 * v, by omega, rfl, by go_num, by omega, Lib.hid (by rw [HSS.out, hD.out]; omega), HGN, Lib.hid (hS1.out.thin (List.nil_sublist _) (List.Sublist.refl _))⟩
                case measure => simp [intOf]; omega
              · have hmm : ¬ (m : Int) < (N.length : Int) := by omega
                have HTY := Lib.hid (got_yes (N := N) (T := T) fun j hj => hTO.out j (by omega))
                have HFI := Lib.hid (show ans = decide (r = 0) from by
                  rw [HYES.out (ok_yes HLY.out (show givenOk P (givenL P.length l) = true from by rw [← HGG.out]; exact HGY.out) (show gotOk N (gotL N.length l) = true from by rw [← HTT.out]; exact HTY.out)) HPY.out, hD.out, show m = N.length from by omega]
                  exact decide_eq_decide.2 (by omega))
                clear hD
                go_wp2
                go_ret
                refine ⟨ret_bool (show _ = ans from ?_), hS.out.be⟩
                rw [HFI.out]
                by_cases h : r = 0 <;> simp [h]
end
end Go.Proofs.YteogibpmpppgmaaGreat

/- the law GangCarries, walked -/
import Derived.Test.YteogibpmpppgmaaGreatK11
import Derived.Test.YteogibpmpppgmaaGreatK14
import Derived.Test.YteogibpmpppgmaaGreatK17
import Derived.Test.YteogibpmpppgmaaGreatH21
import Derived.Test.YteogibpmpppgmaaGreatH3
namespace Go.Proofs.YteogibpmpppgmaaGreat
open Go.RowKit
theorem und_RLoad : Tryz.prog.underlying 56 = some (.slice 138) := Tryz.underlying56
theorem info_RLoad : (Tryz.prog.info? 138).map (fun i => (i.zero, i.size, i.bytes)) = some (some (.agg #[.int .i64 0, .int .i64 0, .int .i64 0]), 3, 24) := by kernel_rfl
set_option maxHeartbeats 4000000 in
set_option maxRecDepth 100000 in
theorem conv_RLoad (a : Option Addr) (n c : Nat) (l : List I3) (w : World) (hs : Sx 3 w a n c (L3 l)) (hn : n ≤ 100000) :
    Calls Tryz.prog 38 #[.slice a n c] w (RetRow w 138 3 l.length (L3 l)) := by
  have hlen := hs.n3
  have HS := Lib.hid hs
  obtain rfl : l.length = n := hlen.symm
  clear hs hlen
  go_enter Tryz.func38, Tryz.ntmps38
  go_wp2
  go_loopw [3, 4] (fun ov iv wr => ∃ (k : Nat) (a1 : Option Addr) (c1 : Nat), k ≤ l.length ∧ ov = .slice a1 k c1 ∧ iv = .int .i64 k ∧ Hid (Sy w wr [] [⟨.slice a1 k c1, 138, 3, k, L3 (l.take k)⟩] [])) (fun _ iv _ => l.length - (intOf iv).toNat)
  case atStart => exact ⟨0, none, 0, Nat.zero_le _, rfl, rfl, Lib.hid ((Sy.enter w).onil _ 3)⟩
  case round =>
    obtain ⟨k, a1, c1, hk, rfl, rfl, hC⟩ := hrel
    by_cases hlt : k < l.length
    · obtain ⟨g0, o0, rfl⟩ := HS.out.addr (by omega)
      have HF := Lib.hid (fun V (hV : Below w.heap.size w V) => (HS.out.below hV).at3 hlt)
      have HT := Lib.hid (L3_snoc l k hlt)
      generalize l[k] = x at *
      obtain ⟨u0, u1, u2⟩ := x
      go_upto_region 5 with fail
      refine wp_region_noPanic ?_
      refine wp_region_held_drew (S := (fun w' => w'.cell? ⟨g0, o0 + k * 3, none⟩ = some (.int .i64 u0) ∧ w'.cell? ⟨g0, o0 + k * 3 + 1, none⟩ = some (.int .i64 u1) ∧ w'.cell? ⟨g0, o0 + k * 3 + 2, none⟩ = some (.int .i64 u2) ∧ True)) (by kernel_rfl) ⟨(HF.out _ hC.out.drew.be).1, (HF.out _ hC.out.drew.be).2.1, (HF.out _ hC.out.drew.be).2.2, trivial⟩ (fun hH => ?_)
      refine wpAnyH_geny (show Sy w _ [] [⟨.slice a1 k c1, 138, 3, k, L3 (l.take k)⟩] [] from hC.out.drew) hH ?_
      intro VRLoad_0 hc hHRLoad_0
      have hVRLoad_0 := Lib.hid hc
      clear hc hH hC
      refine wpAnyH_take (i := 0) (oi := ⟨_, _, _, _, _, _⟩) (v := ?_) rfl (by kernel_rfl) (by kernel_rfl) (by kernel_rfl) (fun _ _ _ h => h) (Or.inl ⟨by rfl, ?_⟩) hHRLoad_0 ?_
      rotate_left
      · intro wS hSw; (try dsimp only at hSw); go_simp; try with_reducible rfl
      try simp only [Act.put, List.setIfInBounds_toArray, List.set_cons_zero, List.set_cons_succ]
      refine wpAnyH_take (i := 1) (oi := ⟨_, _, _, _, _, _⟩) (v := ?_) rfl (by kernel_rfl) (by kernel_rfl) (by kernel_rfl) (fun _ _ _ h => h) (Or.inl ⟨by rfl, ?_⟩) hHRLoad_0 ?_
      rotate_left
      · intro wS hSw; (try dsimp only at hSw); go_simp; try with_reducible rfl
      try simp only [Act.put, List.setIfInBounds_toArray, List.set_cons_zero, List.set_cons_succ]
      refine wpAnyH_take (i := 2) (oi := ⟨_, _, _, _, _, _⟩) (v := ?_) rfl (by kernel_rfl) (by kernel_rfl) (by kernel_rfl) (fun _ _ _ h => h) (Or.inl ⟨by rfl, ?_⟩) hHRLoad_0 ?_
      rotate_left
      · intro wS hSw; (try dsimp only at hSw); go_simp; try with_reducible rfl
      try simp only [Act.put, List.setIfInBounds_toArray, List.set_cons_zero, List.set_cons_succ]
      refine wpAnyH_take (i := 3) (oi := ⟨_, _, _, _, _, _⟩) (v := ?_) rfl (by kernel_rfl) (by kernel_rfl) (by kernel_rfl) (fun _ _ _ h => h) (Or.inl ⟨by rfl, ?_⟩) hHRLoad_0 ?_
      rotate_left
      · intro wS hSw; (try dsimp only at hSw); go_simp; try with_reducible rfl
      try simp only [Act.put, List.setIfInBounds_toArray, List.set_cons_zero, List.set_cons_succ]
      refine wpAnyH_take (i := 4) (oi := ⟨_, _, _, _, _, _⟩) (v := ?_) rfl (by kernel_rfl) (by kernel_rfl) (by kernel_rfl) (fun _ _ _ h => h) (Or.inl ⟨by rfl, ?_⟩) hHRLoad_0 ?_
      rotate_left
      · intro wS hSw; (try dsimp only at hSw); go_simp; try with_reducible rfl
      try simp only [Act.put, List.setIfInBounds_toArray, List.set_cons_zero, List.set_cons_succ]
      refine wpAnyH_take (i := 5) (oi := ⟨_, _, _, _, _, _⟩) (v := ?_) rfl (by kernel_rfl) (by kernel_rfl) (by kernel_rfl) (fun _ _ _ h => h) (Or.inl ⟨by rfl, ?_⟩) hHRLoad_0 ?_
      rotate_left
      · intro wS hSw; (try dsimp only at hSw); go_simp; try with_reducible rfl
      try simp only [Act.put, List.setIfInBounds_toArray, List.set_cons_zero, List.set_cons_succ]
      refine wpAnyH_take (i := 6) (oi := ⟨_, _, _, _, _, _⟩) (v := ?_) rfl (by kernel_rfl) (by kernel_rfl) (by kernel_rfl) (fun _ _ _ h => h) (Or.inl ⟨by rfl, ?_⟩) hHRLoad_0 ?_
      rotate_left
      · intro wS hSw; (try dsimp only at hSw); go_simp; try with_reducible rfl
      try simp only [Act.put, List.setIfInBounds_toArray, List.set_cons_zero, List.set_cons_succ]
      refine wpAnyH_take (i := 7) (oi := ⟨_, _, _, _, _, _⟩) (v := ?_) rfl (by kernel_rfl) (by kernel_rfl) (by kernel_rfl) (fun _ _ _ h => h) (Or.inl ⟨by rfl, ?_⟩) hHRLoad_0 ?_
      rotate_left
      · intro wS hSw; (try dsimp only at hSw); go_simp; try with_reducible rfl
      try simp only [Act.put, List.setIfInBounds_toArray, List.set_cons_zero, List.set_cons_succ]
      refine wpAnyH_take (i := 8) (oi := ⟨_, _, _, _, _, _⟩) (v := ?_) rfl (by kernel_rfl) (by kernel_rfl) (by kernel_rfl) (fun _ _ _ h => h) (Or.inl ⟨by rfl, ?_⟩) hHRLoad_0 ?_
      rotate_left
      · intro wS hSw; (try dsimp only at hSw); go_simp; try with_reducible rfl
      try simp only [Act.put, List.setIfInBounds_toArray, List.set_cons_zero, List.set_cons_succ]
      refine wpAnyH_take (i := 9) (oi := ⟨_, _, _, _, _, _⟩) (v := ?_) rfl (by kernel_rfl) (by kernel_rfl) (by kernel_rfl) (fun _ _ _ h => h) (Or.inl ⟨by rfl, ?_⟩) hHRLoad_0 ?_
      rotate_left
      · intro wS hSw; (try dsimp only at hSw); go_simp; try with_reducible rfl
      try simp only [Act.put, List.setIfInBounds_toArray, List.set_cons_zero, List.set_cons_succ]
      refine wpAnyH_take (i := 10) (oi := ⟨_, _, _, _, _, _⟩) (v := ?_) rfl (by kernel_rfl) (by kernel_rfl) (by kernel_rfl) (fun _ _ _ h => h) (Or.inl ⟨by rfl, ?_⟩) hHRLoad_0 ?_
      rotate_left
      · intro wS hSw; (try dsimp only at hSw); go_simp; try with_reducible rfl
      try simp only [Act.put, List.setIfInBounds_toArray, List.set_cons_zero, List.set_cons_succ]
      refine wpAnyH_take (i := 11) (oi := ⟨_, _, _, _, _, _⟩) (v := ?_) rfl (by kernel_rfl) (by kernel_rfl) (by kernel_rfl) (fun _ _ _ h => h) (Or.inl ⟨by rfl, ?_⟩) hHRLoad_0 ?_
      rotate_left
      · intro wS hSw; (try dsimp only at hSw); go_simp; try with_reducible rfl
      try simp only [Act.put, List.setIfInBounds_toArray, List.set_cons_zero, List.set_cons_succ]
      refine wpAnyH_take (i := 12) (oi := ⟨_, _, _, _, _, _⟩) (v := ?_) rfl (by kernel_rfl) (by kernel_rfl) (by kernel_rfl) (fun _ _ _ h => h) (Or.inl ⟨by rfl, ?_⟩) hHRLoad_0 ?_
      rotate_left
      · intro wS hSw; (try dsimp only at hSw); go_simp; try with_reducible rfl
      try simp only [Act.put, List.setIfInBounds_toArray, List.set_cons_zero, List.set_cons_succ]
      refine wpAnyH_take (i := 13) (oi := ⟨_, _, _, _, _, _⟩) (v := ?_) rfl (by kernel_rfl) (by kernel_rfl) (by kernel_rfl) (fun _ _ _ h => h) (Or.inl ⟨by rfl, ?_⟩) hHRLoad_0 ?_
      rotate_left
      · intro wS hSw; (try dsimp only at hSw); go_simp; try with_reducible rfl
      try simp only [Act.put, List.setIfInBounds_toArray, List.set_cons_zero, List.set_cons_succ]
      refine wpAnyH_take (i := 14) (oi := ⟨_, _, _, _, _, _⟩) (v := ?_) rfl (by kernel_rfl) (by kernel_rfl) (by kernel_rfl) (fun _ _ _ h => h) (Or.inl ⟨by rfl, ?_⟩) hHRLoad_0 ?_
      rotate_left
      · intro wS hSw; (try dsimp only at hSw); go_simp; try with_reducible rfl
      try simp only [Act.put, List.setIfInBounds_toArray, List.set_cons_zero, List.set_cons_succ]
      refine wpAnyH_take (i := 15) (oi := ⟨_, _, _, _, _, _⟩) (v := ?_) rfl (by kernel_rfl) (by kernel_rfl) (by kernel_rfl) (fun _ _ _ h => h) (Or.inl ⟨by rfl, ?_⟩) hHRLoad_0 ?_
      rotate_left
      · intro wS hSw; (try dsimp only at hSw); go_simp; try with_reducible rfl
      try simp only [Act.put, List.setIfInBounds_toArray, List.set_cons_zero, List.set_cons_succ]
      refine wpAnyH_take (i := 16) (oi := ⟨_, _, _, _, _, _⟩) (v := ?_) rfl (by kernel_rfl) (by kernel_rfl) (by kernel_rfl) (fun _ _ _ h => h) (Or.inl ⟨by rfl, ?_⟩) hHRLoad_0 ?_
      rotate_left
      · intro wS hSw; (try dsimp only at hSw); go_simp; try with_reducible rfl
      try simp only [Act.put, List.setIfInBounds_toArray, List.set_cons_zero, List.set_cons_succ]
      refine wpAnyH_ready (rs := [17]) (by kernel_rfl) (by simp) ?_
      refine AllReadyH.cons (o := ⟨_, _, _, _, _, _⟩) rfl (fun Kq hKq => ?_) AllReadyH.nil
      go_simp
      refine stepY hKq (show Sy w _ [] [⟨.slice a1 k c1, 138, 3, k, L3 (l.take k)⟩, ⟨.slice (some ⟨VRLoad_0.heap.size, 0, none⟩) 1 1, 138, 3, 1, [.int .i64 u0, .int .i64 u1, .int .i64 u2]⟩] [] from (hVRLoad_0.out.onew VRLoad_0.heap.size #[.int .i64 u0, .int .i64 u1, .int .i64 u2] 138 3 1 rfl (by omega) rfl)) (fun _ hX => ⟨(HF.out _ hX.be).1, (HF.out _ hX.be).2.1, (HF.out _ hX.be).2.2, trivial⟩) ?_
      intro VRLoad_1 hc hHRLoad_1
      have hVRLoad_1 := Lib.hid hc
      clear hc hKq Kq hVRLoad_0 hHRLoad_0
      try simp only [Act.put, List.setIfInBounds_toArray, List.set_cons_zero, List.set_cons_succ]
      refine wpAnyH_ready (rs := [18]) (by kernel_rfl) (by simp) ?_
      refine AllReadyH.cons (o := ⟨_, _, _, _, _, _⟩) rfl (fun Kq hKq => ?_) AllReadyH.nil
      rw [if_pos (by rfl)]
      refine op_append_sy hVRLoad_1.out 0 1 rfl rfl _ _ _ rfl und_RLoad info_RLoad rfl (by omega) rfl rfl (by intro u hu; simp at hu; rcases hu with rfl | rfl | rfl <;> rfl) (by omega) (by omega) (fun aARLoad_2 cARLoad_2 _ hc => ?_)
      refine stepY hKq (show Sy w _ [] [⟨.slice aARLoad_2 (k + 1) cARLoad_2, 138, 3, k + 1, L3 (l.take k) ++ [.int .i64 u0, .int .i64 u1, .int .i64 u2]⟩, ⟨.slice (some ⟨VRLoad_0.heap.size, 0, none⟩) 1 1, 138, 3, 1, [.int .i64 u0, .int .i64 u1, .int .i64 u2]⟩] [] from hc) (fun _ hX => ⟨(HF.out _ hX.be).1, (HF.out _ hX.be).2.1, (HF.out _ hX.be).2.2, trivial⟩) ?_
      intro VRLoad_2 hc2 hHRLoad_2
      have hVRLoad_2 := Lib.hid hc2
      clear hc2 hKq Kq hVRLoad_1 hc hHRLoad_1
      try simp only [Act.put, List.setIfInBounds_toArray, List.set_cons_zero, List.set_cons_succ]
      refine wpAnyH_ready (rs := [19]) (by kernel_rfl) (by simp) ?_
      refine AllReadyH.cons (o := ⟨_, _, _, _, _, _⟩) rfl (fun Kq hKq => ?_) AllReadyH.nil
      go_simp
      refine stepY hKq (show Sy w _ [] [⟨.slice aARLoad_2 (k + 1) cARLoad_2, 138, 3, k + 1, L3 (l.take k) ++ [.int .i64 u0, .int .i64 u1, .int .i64 u2]⟩, ⟨.slice (some ⟨VRLoad_0.heap.size, 0, none⟩) 1 1, 138, 3, 1, [.int .i64 u0, .int .i64 u1, .int .i64 u2]⟩] [] from hVRLoad_2.out) (fun _ hX => ⟨(HF.out _ hX.be).1, (HF.out _ hX.be).2.1, (HF.out _ hX.be).2.2, trivial⟩) ?_
      intro VRLoad_3 hc hHRLoad_3
      have hVRLoad_3 := Lib.hid hc
      clear hc hKq Kq hVRLoad_2 hHRLoad_2
      try simp only [Act.put, List.setIfInBounds_toArray, List.set_cons_zero, List.set_cons_succ]
      refine wpAnyH_done (by kernel_rfl) ?_ _
      refine NoPanic.normal ?_
      go_wp2
      go_roundw
      case rel =>
        refine ⟨k + 1, _, _, by omega, rfl, by go_num, ?_⟩
        rw [HT.out]
        exact Lib.hid (hVRLoad_3.out.thin (List.Sublist.refl _) (by exact List.Sublist.cons_cons _ (List.nil_sublist _)))
      case measure => simp [intOf]; omega
    · obtain rfl : k = l.length := by omega
      go_wp2
      go_ret
      exact ⟨_, _, rfl, by have h := hC.out.gives 0 rfl; rwa [List.take_length] at h, hC.out.be⟩
section
variable (w : World)
set_option maxRecDepth 100000 in
set_option maxHeartbeats 8000000 in
theorem gangCarries_walk (a0 a1 : Option Addr) (n0 c0 n1 c1 : Nat) (P : List I3) (N : List I2) (hsp : Sx 3 w a0 n0 c0 (L3 P)) (hsn : Sx 2 w a1 n1 c1 (L2 N)) :
    Calls Tryz.prog 8 #[.slice a0 n0 c0, .slice a1 n1 c1] w (Gives (.bool true) w) := by
  have cap0 := hsp.cap
  have cap1 := hsn.cap
  unfold maxLen at cap0 cap1
  obtain rfl := hsp.n3
  obtain rfl := hsn.n2
  have HW := Lib.hid wakes_any
  have HSP := Lib.hid hsp
  have HSN := Lib.hid hsn
  clear hsp hsn
  by_cases hbig : 30 < P.length ∨ 30 < N.length
  · have h5 : ((P.length : Int) > 30) ∨ (¬ ((P.length : Int) > 30) ∧ ((N.length : Int) > 30)) := by omega
    clear hbig
    rcases h5 with g0 | ⟨g0, g1⟩
    all_goals
      go_enter Tryz.func8, Tryz.ntmps8
      go_wp2_with fail
      refine (HW.out _).mono ?_
      rintro e V ⟨rfl, hb⟩
      have hC := Lib.hid ((Sy.enter w).call hb)
      clear hb
      go_wp2
      go_ret
      exact ⟨rfl, hC.out.be⟩
  · have g0 : ¬ ((P.length : Int) > 30) := by omega
    have g1 : ¬ ((N.length : Int) > 30) := by omega
    have HCP := Lib.hid (conv_Pile a0 _ c0 P w HSP.out (by omega))
    have HCN := Lib.hid (fun W (h : Below w.heap.size w W) => conv_Need a1 _ c1 N W (HSN.out.below h) (by omega))
    clear hbig
    by_cases hye : yardErr P N = 0
    · have hge := yardErr_zero hye
      have HYE := Lib.hid hye
      have HGD := Lib.hid hge.1
      have hyb : yardBad P N = false := by cases h : yardBad P N with | false => rfl | true => unfold yardErr at hye; rw [h] at hye; simp at hye
      have HYB := Lib.hid hyb
      have HRY := Lib.hid (fun W (h : Below w.heap.size w W) => refYard_any W a0 a1 _ c0 _ c1 P N (HSP.out.below h) (HSN.out.below h))
      have HRE := Lib.hid (fun W (h : Below w.heap.size w W) => refEnough_any W a0 a1 _ c0 _ c1 P N (HSP.out.below h) (HSN.out.below h) hyb)
      rw [hyb] at HRY
      rw [hge.2] at HRE
      clear hye hge hyb
      go_enter Tryz.func8, Tryz.ntmps8
      go_wp2_with fail
      refine HCP.out.mono ?_
      rintro e V1 ⟨a5, c5, rfl, hr, hb⟩
      have hD := Lib.hid ((Sy.enter w).adopt hb hr)
      clear hb hr
      go_wp2_with fail
      refine (HCN.out _ hD.out.be).mono ?_
      rintro e V2 ⟨a6, c6, rfl, hr, hb⟩
      have hE0 := hD.out.adopt hb hr
      have hE : Hid (Sy w V2 [] [⟨.slice a5 P.length c5, 108, 3, P.length, L3 P⟩, ⟨.slice a6 N.length c6, 110, 2, N.length, L2 N⟩] []) := Lib.hid hE0
      clear hb hr hD hE0 HCN
      have HCA := Lib.hid (carry_ok V2 a5 a6 _ c5 _ c6 P N (hE.out.osx 0 rfl) (hE.out.osx 1 rfl) HYE.out)
      go_wp2_with fail
      refine HCA.out.mono ?_
      rintro e V3 ⟨X, G, T, a7, c7, hY, hT, rfl, hr, hb⟩
      have HCY := Lib.hid (yinv_carry HGD.out hY hT)
      have hl4 : (loadsOf P.length N.length (XF X)).length ≤ 400 := by
        have h1 := loads_len N.length (XF X) P.length
        have h2 := Nat.mul_le_mul HGD.out.1 HGD.out.2.1
        omega
      have HLE := Lib.hid (fun (X' G' T' : List Int) (Y' : YInv P.length N.length (hA P) (hB N) (costC P N) (XF X') (fun i => G'.getD i 0) (fun k => T'.getD k 0)) (hT' : ∀ k, k < N.length → T'.getD k 0 = hB N k) =>
        (show costN P.length N.length (costC P N) (XF X) = costN P.length N.length (costC P N) (XF X') from Int.le_antisymm
          (least_le hY hT (fun i k hi hk => Y'.x0 i k hi hk) (fun i hi => by rw [← Y'.row i hi]; exact Y'.ga i hi) (fun k hk => by rw [← Y'.col k hk]; exact hT' k hk))
          (least_le Y' hT' (fun i k hi hk => hY.x0 i k hi hk) (fun i hi => by rw [← hY.row i hi]; exact hY.ga i hi) (fun k hk => by rw [← hY.col k hk]; exact hT k hk))))
      have hF0 := hE.out.adopt hb hr
      have hF : Hid (Sy w V3 [] [⟨.slice a5 P.length c5, 108, 3, P.length, L3 P⟩, ⟨.slice a6 N.length c6, 110, 2, N.length, L2 N⟩, ⟨.slice a7 (loadsOf P.length N.length (XF X)).length c7, 144, 3, (loadsOf P.length N.length (XF X)).length, L3 (loadsOf P.length N.length (XF X))⟩] []) := Lib.hid hF0
      clear hb hr hF0 hE HCA hY hT
      generalize loadsOf P.length N.length (XF X) = ll at *
      generalize costN P.length N.length (costC P N) (XF X) = cst at *
      have HPR := Lib.hid (prices_ok V3 a5 a6 _ c5 _ c6 P N (hF.out.osx 0 rfl) (hF.out.osx 1 rfl) HYE.out)
      go_wp2_with fail
      refine HPR.out.mono ?_
      rintro e V4 ⟨X', G', T', u, v, a8, a9, c8, c9, hY', hT', hu, hv, hp, rfl, hsu, hsv, hb⟩
      have hpf := priced_proof hu hv hp
      rw [← HLE.out X' G' T' hY' hT'] at hpf
      have HPF := Lib.hid hpf
      have HUL := Lib.hid hu
      have HVL := Lib.hid hv
      have hG4 := hF.out.call hb
      have HBE := Lib.hid hG4.be
      have HS5 := Lib.hid (hG4.osx 0 rfl)
      have HS6 := Lib.hid (hG4.osx 1 rfl)
      have HS7 := Lib.hid (hG4.osx 2 rfl)
      have HS8 := Lib.hid hsu
      have HS9 := Lib.hid hsv
      have HUP := Lib.hid (fun W (h : Below V4.heap.size V4 W) => (HBE.out.trans (h.mono HBE.out.size) : Below w.heap.size w W))
      clear hpf hu hv hp hsu hsv hb hY' hT' HLE hG4 hF HPR
      have HRC := Lib.hid (fun W b d (h : Below V4.heap.size V4 W) (hs : Sx 3 W b ll.length d (L3 ll)) => refCarrying_any W a0 a1 b _ c0 _ c1 _ d P N ll (HSP.out.below (HUP.out W h)) (HSN.out.below (HUP.out W h)) hs HGD.out (by omega))
      have HRP := Lib.hid (fun W (h : Below V4.heap.size V4 W) => refProof_any W a0 a1 a8 a9 _ c0 _ c1 _ c8 _ c9 P N cst u v (HSP.out.below (HUP.out W h)) (HSN.out.below (HUP.out W h)) (HS8.out.below h) (HS9.out.below h) HGD.out)
      have HPC := Lib.hid (fun W (h : Below V4.heap.size V4 W) => proveCarry_any W a5 a6 a7 a8 a9 _ c5 _ c6 _ c7 _ c8 _ c9 P N ll u v (HS5.out.below h) (HS6.out.below h) (HS7.out.below h) (HS8.out.below h) (HS9.out.below h) (by omega))
      have HCL := Lib.hid (fun W (h : Below V4.heap.size V4 W) => conv_RLoad a7 _ c7 ll W (HS7.out.below h) (by omega))
      rw [HPF.out] at HRP
      rw [show carryAns P N ll = (cst, true) from by unfold carryAns; rw [HCY.out.1, HCY.out.2]; rfl] at HRC
      rw [show pcB P N ll u v = true from by rw [pc_yes HYB.out HCY.out.1, HCY.out.2]; exact HPF.out] at HPC
      clear HPF HCY
      generalize ll.length = lln at *
      have hA := Lib.hid (Sy.enter V4)
      go_wp2_with fail
      refine (HRY.out _ (HUP.out _ hA.out.be)).mono ?_
      rintro e V5 ⟨rfl, hb⟩
      have hB := Lib.hid (hA.out.call hb)
      clear hb hA
      go_wp2_with fail
      refine (HRE.out _ (HUP.out _ hB.out.be)).mono ?_
      rintro e V6 ⟨rfl, hb⟩
      have hC := Lib.hid (hB.out.call hb)
      clear hb hB
      go_wp2_with fail
      refine (HCL.out _ hC.out.be).mono ?_
      rintro e V7 ⟨aa, ca, rfl, hr, hb⟩
      have hD := Lib.hid (hC.out.adopt hb hr)
      clear hb hr hC
      go_wp2_with fail
      refine (HRC.out _ _ _ hD.out.be (hD.out.osx 0 rfl)).mono ?_
      rintro e V8 ⟨rfl, hb⟩
      have hE := Lib.hid (hD.out.call hb)
      clear hb hD
      go_wp2_with fail
      refine (HRP.out _ hE.out.be).mono ?_
      rintro e V9 ⟨rfl, hb⟩
      have hF := Lib.hid (hE.out.call hb)
      clear hb hE
      go_wp2_with fail
      refine (HPC.out _ hF.out.be).mono ?_
      rintro e Va ⟨rfl, hb⟩
      have hG := Lib.hid (hF.out.call hb)
      clear hb hF
      go_wp2_with fail
      refine (HW.out _).mono ?_
      rintro e Vb ⟨rfl, hb⟩
      have hH := Lib.hid (hG.out.call hb)
      clear hb hG
      go_wp2
      go_ret
      exact ⟨rfl, HUP.out _ hH.out.be⟩
    · have hcase : (yardBad P N = true ∧ yardErr P N = 2) ∨ (yardBad P N = false ∧ enoughB P N = false ∧ yardErr P N = 14) := by
        unfold yardErr at hye ⊢
        cases hb : yardBad P N
        · cases he : enoughB P N
          · exact .inr ⟨rfl, rfl, by simp⟩
          · rw [hb, he] at hye; simp at hye
        · exact .inl ⟨rfl, by simp⟩
      have HCA := Lib.hid (fun W b0 b1 d0 d1 (h0 : Sx 3 W b0 P.length d0 (L3 P)) (h1 : Sx 2 W b1 N.length d1 (L2 N)) => carry_bad W b0 b1 _ d0 _ d1 P N h0 h1 hye)
      have HPR := Lib.hid (fun W b0 b1 d0 d1 (h0 : Sx 3 W b0 P.length d0 (L3 P)) (h1 : Sx 2 W b1 N.length d1 (L2 N)) => prices_bad W b0 b1 _ d0 _ d1 P N h0 h1 hye)
      have HRY := Lib.hid (fun W (h : Below w.heap.size w W) => refYard_any W a0 a1 _ c0 _ c1 P N (HSP.out.below h) (HSN.out.below h))
      have HRE := Lib.hid (fun W (h : Below w.heap.size w W) => refEnough_any W a0 a1 _ c0 _ c1 P N (HSP.out.below h) (HSN.out.below h))
      clear hye
      rcases hcase with ⟨hyb, hye⟩ | ⟨hyb, hen, hye⟩
      · rw [hye] at HCA HPR
        rw [hyb] at HRY
        clear hyb hye HRE
        go_enter Tryz.func8, Tryz.ntmps8
        go_wp2_with fail
        refine HCP.out.mono ?_
        rintro e V1 ⟨a5, c5, rfl, hr, hb⟩
        have hD := Lib.hid ((Sy.enter w).adopt hb hr)
        clear hb hr
        go_wp2_with fail
        refine (HCN.out _ hD.out.be).mono ?_
        rintro e V2 ⟨a6, c6, rfl, hr, hb⟩
        have hE := Lib.hid (hD.out.adopt hb hr)
        clear hb hr hD HCN
        go_wp2_with fail
        refine (HCA.out _ _ _ _ _ (hE.out.osx 0 rfl) (hE.out.osx 1 rfl)).mono ?_
        rintro e V3 ⟨rfl, hb⟩
        have hF := Lib.hid (hE.out.call hb)
        clear hb hE
        go_wp2_with fail
        refine (HPR.out _ _ _ _ _ (hF.out.osx 0 rfl) (hF.out.osx 1 rfl)).mono ?_
        rintro e V4 ⟨rfl, hb⟩
        have hG := Lib.hid (hF.out.call hb)
        clear hb hF
        go_wp2_with fail
        refine (HRY.out _ hG.out.be).mono ?_
        rintro e V5 ⟨rfl, hb⟩
        have hH := Lib.hid (hG.out.call hb)
        clear hb hG
        go_wp2_with fail
        refine (HW.out _).mono ?_
        rintro e V9 ⟨rfl, hb⟩
        have hI := Lib.hid (hH.out.call hb)
        clear hb hH
        go_wp2
        go_ret
        exact ⟨rfl, hI.out.be⟩
      · rw [hye] at HCA HPR
        have HRE2 := Lib.hid (fun W h => HRE.out W h hyb)
        rw [hyb] at HRY
        rw [hen] at HRE2
        clear hyb hye HRE hen
        go_enter Tryz.func8, Tryz.ntmps8
        go_wp2_with fail
        refine HCP.out.mono ?_
        rintro e V1 ⟨a5, c5, rfl, hr, hb⟩
        have hD := Lib.hid ((Sy.enter w).adopt hb hr)
        clear hb hr
        go_wp2_with fail
        refine (HCN.out _ hD.out.be).mono ?_
        rintro e V2 ⟨a6, c6, rfl, hr, hb⟩
        have hE := Lib.hid (hD.out.adopt hb hr)
        clear hb hr hD HCN
        go_wp2_with fail
        refine (HCA.out _ _ _ _ _ (hE.out.osx 0 rfl) (hE.out.osx 1 rfl)).mono ?_
        rintro e V3 ⟨rfl, hb⟩
        have hF := Lib.hid (hE.out.call hb)
        clear hb hE
        go_wp2_with fail
        refine (HPR.out _ _ _ _ _ (hF.out.osx 0 rfl) (hF.out.osx 1 rfl)).mono ?_
        rintro e V4 ⟨rfl, hb⟩
        have hG := Lib.hid (hF.out.call hb)
        clear hb hF
        go_wp2_with fail
        refine (HRY.out _ hG.out.be).mono ?_
        rintro e V5 ⟨rfl, hb⟩
        have hH := Lib.hid (hG.out.call hb)
        clear hb hG
        go_wp2_with fail
        refine (HRE2.out _ hH.out.be).mono ?_
        rintro e V6 ⟨rfl, hb⟩
        have hJ := Lib.hid (hH.out.call hb)
        clear hb hH
        go_wp2_with fail
        refine (HW.out _).mono ?_
        rintro e V9 ⟨rfl, hb⟩
        have hI := Lib.hid (hJ.out.call hb)
        clear hb hJ
        go_wp2
        go_ret
        exact ⟨rfl, hI.out.be⟩
end
end Go.Proofs.YteogibpmpppgmaaGreat

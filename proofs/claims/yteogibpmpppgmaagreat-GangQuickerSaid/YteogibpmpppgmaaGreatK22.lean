/- the law GangDays, walked -/
import Derived.Test.YteogibpmpppgmaaGreatK21
import Derived.Test.YteogibpmpppgmaaGreatH21
import Derived.Test.YteogibpmpppgmaaGreatH3
namespace Go.Proofs.YteogibpmpppgmaaGreat
open Go.RowKit
theorem und_Waller2 : Tryz.prog.underlying 25 = some (.slice 44) := Tryz.underlying25
theorem info_Waller2 : (Tryz.prog.info? 44).map (fun i => (i.zero, i.size, i.bytes)) = some (some (.agg #[.string ⟨#[]⟩, .int .i64 0, .int .i64 0]), 3, 32) := by kernel_rfl
set_option maxHeartbeats 4000000 in
set_option maxRecDepth 100000 in
theorem conv_Waller2 (a : Option Addr) (n c : Nat) (l : List WL) (w : World) (hs : Sx 3 w a n c (LW l)) (hn : n ≤ 100000) :
    Calls Tryz.prog 12 #[.slice a n c] w (RetRow w 44 3 l.length (LW l)) := by
  have hlen := hs.nW
  have HS := Lib.hid hs
  obtain rfl : l.length = n := hlen.symm
  clear hs hlen
  go_enter Tryz.func12, Tryz.ntmps12
  go_wp2
  go_loopw [3, 4] (fun ov iv wr => ∃ (k : Nat) (a1 : Option Addr) (c1 : Nat), k ≤ l.length ∧ ov = .slice a1 k c1 ∧ iv = .int .i64 k ∧ Hid (Sy w wr [] [⟨.slice a1 k c1, 44, 3, k, LW (l.take k)⟩] [])) (fun _ iv _ => l.length - (intOf iv).toNat)
  case atStart => exact ⟨0, none, 0, Nat.zero_le _, rfl, rfl, Lib.hid ((Sy.enter w).onil _ 3)⟩
  case round =>
    obtain ⟨k, a1, c1, hk, rfl, rfl, hC⟩ := hrel
    by_cases hlt : k < l.length
    · obtain ⟨g0, o0, rfl⟩ := HS.out.addr (by omega)
      have HF := Lib.hid (fun V (hV : Below w.heap.size w V) => (HS.out.below hV).atW hlt)
      have HT := Lib.hid (LW_snoc l k hlt)
      generalize l[k] = x at *
      obtain ⟨u0, u1, u2⟩ := x
      go_upto_region 5 with fail
      refine wp_region_noPanic ?_
      refine wp_region_held_drew (S := (fun w' => w'.cell? ⟨g0, o0 + k * 3, none⟩ = some (.string u0) ∧ w'.cell? ⟨g0, o0 + k * 3 + 1, none⟩ = some (.int .i64 u1) ∧ w'.cell? ⟨g0, o0 + k * 3 + 2, none⟩ = some (.int .i64 u2) ∧ True)) (by kernel_rfl) ⟨(HF.out _ hC.out.drew.be).1, (HF.out _ hC.out.drew.be).2.1, (HF.out _ hC.out.drew.be).2.2, trivial⟩ (fun hH => ?_)
      refine wpAnyH_geny (show Sy w _ [] [⟨.slice a1 k c1, 44, 3, k, LW (l.take k)⟩] [] from hC.out.drew) hH ?_
      intro VWaller2_0 hc hHWaller2_0
      have hVWaller2_0 := Lib.hid hc
      clear hc hH hC
      refine wpAnyH_take (i := 0) (oi := ⟨_, _, _, _, _, _⟩) (v := ?_) rfl (by kernel_rfl) (by kernel_rfl) (by kernel_rfl) (fun _ _ _ h => h) (Or.inl ⟨by rfl, ?_⟩) hHWaller2_0 ?_
      rotate_left
      · intro wS hSw; (try dsimp only at hSw); go_simp; try with_reducible rfl
      try simp only [Act.put, List.setIfInBounds_toArray, List.set_cons_zero, List.set_cons_succ]
      refine wpAnyH_take (i := 1) (oi := ⟨_, _, _, _, _, _⟩) (v := ?_) rfl (by kernel_rfl) (by kernel_rfl) (by kernel_rfl) (fun _ _ _ h => h) (Or.inl ⟨by rfl, ?_⟩) hHWaller2_0 ?_
      rotate_left
      · intro wS hSw; (try dsimp only at hSw); go_simp; try with_reducible rfl
      try simp only [Act.put, List.setIfInBounds_toArray, List.set_cons_zero, List.set_cons_succ]
      refine wpAnyH_take (i := 2) (oi := ⟨_, _, _, _, _, _⟩) (v := ?_) rfl (by kernel_rfl) (by kernel_rfl) (by kernel_rfl) (fun _ _ _ h => h) (Or.inl ⟨by rfl, ?_⟩) hHWaller2_0 ?_
      rotate_left
      · intro wS hSw; (try dsimp only at hSw); go_simp; try with_reducible rfl
      try simp only [Act.put, List.setIfInBounds_toArray, List.set_cons_zero, List.set_cons_succ]
      refine wpAnyH_take (i := 3) (oi := ⟨_, _, _, _, _, _⟩) (v := ?_) rfl (by kernel_rfl) (by kernel_rfl) (by kernel_rfl) (fun _ _ _ h => h) (Or.inl ⟨by rfl, ?_⟩) hHWaller2_0 ?_
      rotate_left
      · intro wS hSw; (try dsimp only at hSw); go_simp; try with_reducible rfl
      try simp only [Act.put, List.setIfInBounds_toArray, List.set_cons_zero, List.set_cons_succ]
      refine wpAnyH_take (i := 4) (oi := ⟨_, _, _, _, _, _⟩) (v := ?_) rfl (by kernel_rfl) (by kernel_rfl) (by kernel_rfl) (fun _ _ _ h => h) (Or.inl ⟨by rfl, ?_⟩) hHWaller2_0 ?_
      rotate_left
      · intro wS hSw; (try dsimp only at hSw); go_simp; try with_reducible rfl
      try simp only [Act.put, List.setIfInBounds_toArray, List.set_cons_zero, List.set_cons_succ]
      refine wpAnyH_take (i := 5) (oi := ⟨_, _, _, _, _, _⟩) (v := ?_) rfl (by kernel_rfl) (by kernel_rfl) (by kernel_rfl) (fun _ _ _ h => h) (Or.inl ⟨by rfl, ?_⟩) hHWaller2_0 ?_
      rotate_left
      · intro wS hSw; (try dsimp only at hSw); go_simp; try with_reducible rfl
      try simp only [Act.put, List.setIfInBounds_toArray, List.set_cons_zero, List.set_cons_succ]
      refine wpAnyH_take (i := 6) (oi := ⟨_, _, _, _, _, _⟩) (v := ?_) rfl (by kernel_rfl) (by kernel_rfl) (by kernel_rfl) (fun _ _ _ h => h) (Or.inl ⟨by rfl, ?_⟩) hHWaller2_0 ?_
      rotate_left
      · intro wS hSw; (try dsimp only at hSw); go_simp; try with_reducible rfl
      try simp only [Act.put, List.setIfInBounds_toArray, List.set_cons_zero, List.set_cons_succ]
      refine wpAnyH_take (i := 7) (oi := ⟨_, _, _, _, _, _⟩) (v := ?_) rfl (by kernel_rfl) (by kernel_rfl) (by kernel_rfl) (fun _ _ _ h => h) (Or.inl ⟨by rfl, ?_⟩) hHWaller2_0 ?_
      rotate_left
      · intro wS hSw; (try dsimp only at hSw); go_simp; try with_reducible rfl
      try simp only [Act.put, List.setIfInBounds_toArray, List.set_cons_zero, List.set_cons_succ]
      refine wpAnyH_take (i := 8) (oi := ⟨_, _, _, _, _, _⟩) (v := ?_) rfl (by kernel_rfl) (by kernel_rfl) (by kernel_rfl) (fun _ _ _ h => h) (Or.inl ⟨by rfl, ?_⟩) hHWaller2_0 ?_
      rotate_left
      · intro wS hSw; (try dsimp only at hSw); go_simp; try with_reducible rfl
      try simp only [Act.put, List.setIfInBounds_toArray, List.set_cons_zero, List.set_cons_succ]
      refine wpAnyH_take (i := 9) (oi := ⟨_, _, _, _, _, _⟩) (v := ?_) rfl (by kernel_rfl) (by kernel_rfl) (by kernel_rfl) (fun _ _ _ h => h) (Or.inl ⟨by rfl, ?_⟩) hHWaller2_0 ?_
      rotate_left
      · intro wS hSw; (try dsimp only at hSw); go_simp; try with_reducible rfl
      try simp only [Act.put, List.setIfInBounds_toArray, List.set_cons_zero, List.set_cons_succ]
      refine wpAnyH_take (i := 10) (oi := ⟨_, _, _, _, _, _⟩) (v := ?_) rfl (by kernel_rfl) (by kernel_rfl) (by kernel_rfl) (fun _ _ _ h => h) (Or.inl ⟨by rfl, ?_⟩) hHWaller2_0 ?_
      rotate_left
      · intro wS hSw; (try dsimp only at hSw); go_simp; try with_reducible rfl
      try simp only [Act.put, List.setIfInBounds_toArray, List.set_cons_zero, List.set_cons_succ]
      refine wpAnyH_take (i := 11) (oi := ⟨_, _, _, _, _, _⟩) (v := ?_) rfl (by kernel_rfl) (by kernel_rfl) (by kernel_rfl) (fun _ _ _ h => h) (Or.inl ⟨by rfl, ?_⟩) hHWaller2_0 ?_
      rotate_left
      · intro wS hSw; (try dsimp only at hSw); go_simp; try with_reducible rfl
      try simp only [Act.put, List.setIfInBounds_toArray, List.set_cons_zero, List.set_cons_succ]
      refine wpAnyH_take (i := 12) (oi := ⟨_, _, _, _, _, _⟩) (v := ?_) rfl (by kernel_rfl) (by kernel_rfl) (by kernel_rfl) (fun _ _ _ h => h) (Or.inl ⟨by rfl, ?_⟩) hHWaller2_0 ?_
      rotate_left
      · intro wS hSw; (try dsimp only at hSw); go_simp; try with_reducible rfl
      try simp only [Act.put, List.setIfInBounds_toArray, List.set_cons_zero, List.set_cons_succ]
      refine wpAnyH_take (i := 13) (oi := ⟨_, _, _, _, _, _⟩) (v := ?_) rfl (by kernel_rfl) (by kernel_rfl) (by kernel_rfl) (fun _ _ _ h => h) (Or.inl ⟨by rfl, ?_⟩) hHWaller2_0 ?_
      rotate_left
      · intro wS hSw; (try dsimp only at hSw); go_simp; try with_reducible rfl
      try simp only [Act.put, List.setIfInBounds_toArray, List.set_cons_zero, List.set_cons_succ]
      refine wpAnyH_take (i := 14) (oi := ⟨_, _, _, _, _, _⟩) (v := ?_) rfl (by kernel_rfl) (by kernel_rfl) (by kernel_rfl) (fun _ _ _ h => h) (Or.inl ⟨by rfl, ?_⟩) hHWaller2_0 ?_
      rotate_left
      · intro wS hSw; (try dsimp only at hSw); go_simp; try with_reducible rfl
      try simp only [Act.put, List.setIfInBounds_toArray, List.set_cons_zero, List.set_cons_succ]
      refine wpAnyH_take (i := 15) (oi := ⟨_, _, _, _, _, _⟩) (v := ?_) rfl (by kernel_rfl) (by kernel_rfl) (by kernel_rfl) (fun _ _ _ h => h) (Or.inl ⟨by rfl, ?_⟩) hHWaller2_0 ?_
      rotate_left
      · intro wS hSw; (try dsimp only at hSw); go_simp; try with_reducible rfl
      try simp only [Act.put, List.setIfInBounds_toArray, List.set_cons_zero, List.set_cons_succ]
      refine wpAnyH_take (i := 16) (oi := ⟨_, _, _, _, _, _⟩) (v := ?_) rfl (by kernel_rfl) (by kernel_rfl) (by kernel_rfl) (fun _ _ _ h => h) (Or.inl ⟨by rfl, ?_⟩) hHWaller2_0 ?_
      rotate_left
      · intro wS hSw; (try dsimp only at hSw); go_simp; try with_reducible rfl
      try simp only [Act.put, List.setIfInBounds_toArray, List.set_cons_zero, List.set_cons_succ]
      refine wpAnyH_ready (rs := [17]) (by kernel_rfl) (by simp) ?_
      refine AllReadyH.cons (o := ⟨_, _, _, _, _, _⟩) rfl (fun Kq hKq => ?_) AllReadyH.nil
      go_simp
      refine stepY hKq (show Sy w _ [] [⟨.slice a1 k c1, 44, 3, k, LW (l.take k)⟩, ⟨.slice (some ⟨VWaller2_0.heap.size, 0, none⟩) 1 1, 44, 3, 1, [.string u0, .int .i64 u1, .int .i64 u2]⟩] [] from (hVWaller2_0.out.onew VWaller2_0.heap.size #[.string u0, .int .i64 u1, .int .i64 u2] 44 3 1 rfl (by omega) rfl)) (fun _ hX => ⟨(HF.out _ hX.be).1, (HF.out _ hX.be).2.1, (HF.out _ hX.be).2.2, trivial⟩) ?_
      intro VWaller2_1 hc hHWaller2_1
      have hVWaller2_1 := Lib.hid hc
      clear hc hKq Kq hVWaller2_0 hHWaller2_0
      try simp only [Act.put, List.setIfInBounds_toArray, List.set_cons_zero, List.set_cons_succ]
      refine wpAnyH_ready (rs := [18]) (by kernel_rfl) (by simp) ?_
      refine AllReadyH.cons (o := ⟨_, _, _, _, _, _⟩) rfl (fun Kq hKq => ?_) AllReadyH.nil
      rw [if_pos (by rfl)]
      refine op_append_sy hVWaller2_1.out 0 1 rfl rfl _ _ _ rfl und_Waller2 info_Waller2 rfl (by omega) rfl rfl (by intro u hu; simp at hu; rcases hu with rfl | rfl | rfl <;> rfl) (by omega) (by omega) (fun aAWaller2_2 cAWaller2_2 _ hc => ?_)
      refine stepY hKq (show Sy w _ [] [⟨.slice aAWaller2_2 (k + 1) cAWaller2_2, 44, 3, k + 1, LW (l.take k) ++ [.string u0, .int .i64 u1, .int .i64 u2]⟩, ⟨.slice (some ⟨VWaller2_0.heap.size, 0, none⟩) 1 1, 44, 3, 1, [.string u0, .int .i64 u1, .int .i64 u2]⟩] [] from hc) (fun _ hX => ⟨(HF.out _ hX.be).1, (HF.out _ hX.be).2.1, (HF.out _ hX.be).2.2, trivial⟩) ?_
      intro VWaller2_2 hc2 hHWaller2_2
      have hVWaller2_2 := Lib.hid hc2
      clear hc2 hKq Kq hVWaller2_1 hc hHWaller2_1
      try simp only [Act.put, List.setIfInBounds_toArray, List.set_cons_zero, List.set_cons_succ]
      refine wpAnyH_ready (rs := [19]) (by kernel_rfl) (by simp) ?_
      refine AllReadyH.cons (o := ⟨_, _, _, _, _, _⟩) rfl (fun Kq hKq => ?_) AllReadyH.nil
      go_simp
      refine stepY hKq (show Sy w _ [] [⟨.slice aAWaller2_2 (k + 1) cAWaller2_2, 44, 3, k + 1, LW (l.take k) ++ [.string u0, .int .i64 u1, .int .i64 u2]⟩, ⟨.slice (some ⟨VWaller2_0.heap.size, 0, none⟩) 1 1, 44, 3, 1, [.string u0, .int .i64 u1, .int .i64 u2]⟩] [] from hVWaller2_2.out) (fun _ hX => ⟨(HF.out _ hX.be).1, (HF.out _ hX.be).2.1, (HF.out _ hX.be).2.2, trivial⟩) ?_
      intro VWaller2_3 hc hHWaller2_3
      have hVWaller2_3 := Lib.hid hc
      clear hc hKq Kq hVWaller2_2 hHWaller2_2
      try simp only [Act.put, List.setIfInBounds_toArray, List.set_cons_zero, List.set_cons_succ]
      refine wpAnyH_done (by kernel_rfl) ?_ _
      refine NoPanic.normal ?_
      go_wp2
      go_roundw
      case rel =>
        refine ⟨k + 1, _, _, by omega, rfl, by go_num, ?_⟩
        rw [HT.out]
        exact Lib.hid (hVWaller2_3.out.thin (List.Sublist.refl _) (by exact List.Sublist.cons_cons _ (List.nil_sublist _)))
      case measure => simp [intOf]; omega
    · obtain rfl : k = l.length := by omega
      go_wp2
      go_ret
      exact ⟨_, _, rfl, by have h := hC.out.gives 0 rfl; rwa [List.take_length] at h, hC.out.be⟩
theorem und_Stint2 : Tryz.prog.underlying 27 = some (.slice 99) := Tryz.underlying27
theorem info_Stint2 : (Tryz.prog.info? 99).map (fun i => (i.zero, i.size, i.bytes)) = some (some (.agg #[.int .i64 0, .int .i64 0, .int .i64 0]), 3, 24) := by kernel_rfl
set_option maxHeartbeats 4000000 in
set_option maxRecDepth 100000 in
theorem conv_Stint2 (a : Option Addr) (n c : Nat) (l : List I3) (w : World) (hs : Sx 3 w a n c (L3 l)) (hn : n ≤ 100000) :
    Calls Tryz.prog 22 #[.slice a n c] w (RetRow w 99 3 l.length (L3 l)) := by
  have hlen := hs.n3
  have HS := Lib.hid hs
  obtain rfl : l.length = n := hlen.symm
  clear hs hlen
  go_enter Tryz.func22, Tryz.ntmps22
  go_wp2
  go_loopw [3, 4] (fun ov iv wr => ∃ (k : Nat) (a1 : Option Addr) (c1 : Nat), k ≤ l.length ∧ ov = .slice a1 k c1 ∧ iv = .int .i64 k ∧ Hid (Sy w wr [] [⟨.slice a1 k c1, 99, 3, k, L3 (l.take k)⟩] [])) (fun _ iv _ => l.length - (intOf iv).toNat)
  case atStart => exact ⟨0, none, 0, Nat.zero_le _, rfl, rfl, Lib.hid ((Sy.enter w).onil _ 3)⟩
  case round =>
    obtain ⟨k, a1, c1, hk, rfl, rfl, hC⟩ := hrel
    by_cases hlt : k < l.length
    · obtain ⟨g0, o0, rfl⟩ := HS.out.addr (by omega)
      have HF := Lib.hid (fun V (hV : Below w.heap.size w V) => (HS.out.below hV).at3 hlt)
      have HT := Lib.hid (L3_snoc l k hlt)
      generalize l[k] = x at *
      obtain ⟨u0, u1, u2⟩ := x
      go_upto_region 5 with fail
      refine wp_region_noPanic ?_
      refine wp_region_held_drew (S := (fun w' => w'.cell? ⟨g0, o0 + k * 3, none⟩ = some (.int .i64 u0) ∧ w'.cell? ⟨g0, o0 + k * 3 + 1, none⟩ = some (.int .i64 u1) ∧ w'.cell? ⟨g0, o0 + k * 3 + 2, none⟩ = some (.int .i64 u2) ∧ True)) (by kernel_rfl) ⟨(HF.out _ hC.out.drew.be).1, (HF.out _ hC.out.drew.be).2.1, (HF.out _ hC.out.drew.be).2.2, trivial⟩ (fun hH => ?_)
      refine wpAnyH_geny (show Sy w _ [] [⟨.slice a1 k c1, 99, 3, k, L3 (l.take k)⟩] [] from hC.out.drew) hH ?_
      intro VStint2_0 hc hHStint2_0
      have hVStint2_0 := Lib.hid hc
      clear hc hH hC
      refine wpAnyH_take (i := 0) (oi := ⟨_, _, _, _, _, _⟩) (v := ?_) rfl (by kernel_rfl) (by kernel_rfl) (by kernel_rfl) (fun _ _ _ h => h) (Or.inl ⟨by rfl, ?_⟩) hHStint2_0 ?_
      rotate_left
      · intro wS hSw; (try dsimp only at hSw); go_simp; try with_reducible rfl
      try simp only [Act.put, List.setIfInBounds_toArray, List.set_cons_zero, List.set_cons_succ]
      refine wpAnyH_take (i := 1) (oi := ⟨_, _, _, _, _, _⟩) (v := ?_) rfl (by kernel_rfl) (by kernel_rfl) (by kernel_rfl) (fun _ _ _ h => h) (Or.inl ⟨by rfl, ?_⟩) hHStint2_0 ?_
      rotate_left
      · intro wS hSw; (try dsimp only at hSw); go_simp; try with_reducible rfl
      try simp only [Act.put, List.setIfInBounds_toArray, List.set_cons_zero, List.set_cons_succ]
      refine wpAnyH_take (i := 2) (oi := ⟨_, _, _, _, _, _⟩) (v := ?_) rfl (by kernel_rfl) (by kernel_rfl) (by kernel_rfl) (fun _ _ _ h => h) (Or.inl ⟨by rfl, ?_⟩) hHStint2_0 ?_
      rotate_left
      · intro wS hSw; (try dsimp only at hSw); go_simp; try with_reducible rfl
      try simp only [Act.put, List.setIfInBounds_toArray, List.set_cons_zero, List.set_cons_succ]
      refine wpAnyH_take (i := 3) (oi := ⟨_, _, _, _, _, _⟩) (v := ?_) rfl (by kernel_rfl) (by kernel_rfl) (by kernel_rfl) (fun _ _ _ h => h) (Or.inl ⟨by rfl, ?_⟩) hHStint2_0 ?_
      rotate_left
      · intro wS hSw; (try dsimp only at hSw); go_simp; try with_reducible rfl
      try simp only [Act.put, List.setIfInBounds_toArray, List.set_cons_zero, List.set_cons_succ]
      refine wpAnyH_take (i := 4) (oi := ⟨_, _, _, _, _, _⟩) (v := ?_) rfl (by kernel_rfl) (by kernel_rfl) (by kernel_rfl) (fun _ _ _ h => h) (Or.inl ⟨by rfl, ?_⟩) hHStint2_0 ?_
      rotate_left
      · intro wS hSw; (try dsimp only at hSw); go_simp; try with_reducible rfl
      try simp only [Act.put, List.setIfInBounds_toArray, List.set_cons_zero, List.set_cons_succ]
      refine wpAnyH_take (i := 5) (oi := ⟨_, _, _, _, _, _⟩) (v := ?_) rfl (by kernel_rfl) (by kernel_rfl) (by kernel_rfl) (fun _ _ _ h => h) (Or.inl ⟨by rfl, ?_⟩) hHStint2_0 ?_
      rotate_left
      · intro wS hSw; (try dsimp only at hSw); go_simp; try with_reducible rfl
      try simp only [Act.put, List.setIfInBounds_toArray, List.set_cons_zero, List.set_cons_succ]
      refine wpAnyH_take (i := 6) (oi := ⟨_, _, _, _, _, _⟩) (v := ?_) rfl (by kernel_rfl) (by kernel_rfl) (by kernel_rfl) (fun _ _ _ h => h) (Or.inl ⟨by rfl, ?_⟩) hHStint2_0 ?_
      rotate_left
      · intro wS hSw; (try dsimp only at hSw); go_simp; try with_reducible rfl
      try simp only [Act.put, List.setIfInBounds_toArray, List.set_cons_zero, List.set_cons_succ]
      refine wpAnyH_take (i := 7) (oi := ⟨_, _, _, _, _, _⟩) (v := ?_) rfl (by kernel_rfl) (by kernel_rfl) (by kernel_rfl) (fun _ _ _ h => h) (Or.inl ⟨by rfl, ?_⟩) hHStint2_0 ?_
      rotate_left
      · intro wS hSw; (try dsimp only at hSw); go_simp; try with_reducible rfl
      try simp only [Act.put, List.setIfInBounds_toArray, List.set_cons_zero, List.set_cons_succ]
      refine wpAnyH_take (i := 8) (oi := ⟨_, _, _, _, _, _⟩) (v := ?_) rfl (by kernel_rfl) (by kernel_rfl) (by kernel_rfl) (fun _ _ _ h => h) (Or.inl ⟨by rfl, ?_⟩) hHStint2_0 ?_
      rotate_left
      · intro wS hSw; (try dsimp only at hSw); go_simp; try with_reducible rfl
      try simp only [Act.put, List.setIfInBounds_toArray, List.set_cons_zero, List.set_cons_succ]
      refine wpAnyH_take (i := 9) (oi := ⟨_, _, _, _, _, _⟩) (v := ?_) rfl (by kernel_rfl) (by kernel_rfl) (by kernel_rfl) (fun _ _ _ h => h) (Or.inl ⟨by rfl, ?_⟩) hHStint2_0 ?_
      rotate_left
      · intro wS hSw; (try dsimp only at hSw); go_simp; try with_reducible rfl
      try simp only [Act.put, List.setIfInBounds_toArray, List.set_cons_zero, List.set_cons_succ]
      refine wpAnyH_take (i := 10) (oi := ⟨_, _, _, _, _, _⟩) (v := ?_) rfl (by kernel_rfl) (by kernel_rfl) (by kernel_rfl) (fun _ _ _ h => h) (Or.inl ⟨by rfl, ?_⟩) hHStint2_0 ?_
      rotate_left
      · intro wS hSw; (try dsimp only at hSw); go_simp; try with_reducible rfl
      try simp only [Act.put, List.setIfInBounds_toArray, List.set_cons_zero, List.set_cons_succ]
      refine wpAnyH_take (i := 11) (oi := ⟨_, _, _, _, _, _⟩) (v := ?_) rfl (by kernel_rfl) (by kernel_rfl) (by kernel_rfl) (fun _ _ _ h => h) (Or.inl ⟨by rfl, ?_⟩) hHStint2_0 ?_
      rotate_left
      · intro wS hSw; (try dsimp only at hSw); go_simp; try with_reducible rfl
      try simp only [Act.put, List.setIfInBounds_toArray, List.set_cons_zero, List.set_cons_succ]
      refine wpAnyH_take (i := 12) (oi := ⟨_, _, _, _, _, _⟩) (v := ?_) rfl (by kernel_rfl) (by kernel_rfl) (by kernel_rfl) (fun _ _ _ h => h) (Or.inl ⟨by rfl, ?_⟩) hHStint2_0 ?_
      rotate_left
      · intro wS hSw; (try dsimp only at hSw); go_simp; try with_reducible rfl
      try simp only [Act.put, List.setIfInBounds_toArray, List.set_cons_zero, List.set_cons_succ]
      refine wpAnyH_take (i := 13) (oi := ⟨_, _, _, _, _, _⟩) (v := ?_) rfl (by kernel_rfl) (by kernel_rfl) (by kernel_rfl) (fun _ _ _ h => h) (Or.inl ⟨by rfl, ?_⟩) hHStint2_0 ?_
      rotate_left
      · intro wS hSw; (try dsimp only at hSw); go_simp; try with_reducible rfl
      try simp only [Act.put, List.setIfInBounds_toArray, List.set_cons_zero, List.set_cons_succ]
      refine wpAnyH_take (i := 14) (oi := ⟨_, _, _, _, _, _⟩) (v := ?_) rfl (by kernel_rfl) (by kernel_rfl) (by kernel_rfl) (fun _ _ _ h => h) (Or.inl ⟨by rfl, ?_⟩) hHStint2_0 ?_
      rotate_left
      · intro wS hSw; (try dsimp only at hSw); go_simp; try with_reducible rfl
      try simp only [Act.put, List.setIfInBounds_toArray, List.set_cons_zero, List.set_cons_succ]
      refine wpAnyH_take (i := 15) (oi := ⟨_, _, _, _, _, _⟩) (v := ?_) rfl (by kernel_rfl) (by kernel_rfl) (by kernel_rfl) (fun _ _ _ h => h) (Or.inl ⟨by rfl, ?_⟩) hHStint2_0 ?_
      rotate_left
      · intro wS hSw; (try dsimp only at hSw); go_simp; try with_reducible rfl
      try simp only [Act.put, List.setIfInBounds_toArray, List.set_cons_zero, List.set_cons_succ]
      refine wpAnyH_take (i := 16) (oi := ⟨_, _, _, _, _, _⟩) (v := ?_) rfl (by kernel_rfl) (by kernel_rfl) (by kernel_rfl) (fun _ _ _ h => h) (Or.inl ⟨by rfl, ?_⟩) hHStint2_0 ?_
      rotate_left
      · intro wS hSw; (try dsimp only at hSw); go_simp; try with_reducible rfl
      try simp only [Act.put, List.setIfInBounds_toArray, List.set_cons_zero, List.set_cons_succ]
      refine wpAnyH_ready (rs := [17]) (by kernel_rfl) (by simp) ?_
      refine AllReadyH.cons (o := ⟨_, _, _, _, _, _⟩) rfl (fun Kq hKq => ?_) AllReadyH.nil
      go_simp
      refine stepY hKq (show Sy w _ [] [⟨.slice a1 k c1, 99, 3, k, L3 (l.take k)⟩, ⟨.slice (some ⟨VStint2_0.heap.size, 0, none⟩) 1 1, 99, 3, 1, [.int .i64 u0, .int .i64 u1, .int .i64 u2]⟩] [] from (hVStint2_0.out.onew VStint2_0.heap.size #[.int .i64 u0, .int .i64 u1, .int .i64 u2] 99 3 1 rfl (by omega) rfl)) (fun _ hX => ⟨(HF.out _ hX.be).1, (HF.out _ hX.be).2.1, (HF.out _ hX.be).2.2, trivial⟩) ?_
      intro VStint2_1 hc hHStint2_1
      have hVStint2_1 := Lib.hid hc
      clear hc hKq Kq hVStint2_0 hHStint2_0
      try simp only [Act.put, List.setIfInBounds_toArray, List.set_cons_zero, List.set_cons_succ]
      refine wpAnyH_ready (rs := [18]) (by kernel_rfl) (by simp) ?_
      refine AllReadyH.cons (o := ⟨_, _, _, _, _, _⟩) rfl (fun Kq hKq => ?_) AllReadyH.nil
      rw [if_pos (by rfl)]
      refine op_append_sy hVStint2_1.out 0 1 rfl rfl _ _ _ rfl und_Stint2 info_Stint2 rfl (by omega) rfl rfl (by intro u hu; simp at hu; rcases hu with rfl | rfl | rfl <;> rfl) (by omega) (by omega) (fun aAStint2_2 cAStint2_2 _ hc => ?_)
      refine stepY hKq (show Sy w _ [] [⟨.slice aAStint2_2 (k + 1) cAStint2_2, 99, 3, k + 1, L3 (l.take k) ++ [.int .i64 u0, .int .i64 u1, .int .i64 u2]⟩, ⟨.slice (some ⟨VStint2_0.heap.size, 0, none⟩) 1 1, 99, 3, 1, [.int .i64 u0, .int .i64 u1, .int .i64 u2]⟩] [] from hc) (fun _ hX => ⟨(HF.out _ hX.be).1, (HF.out _ hX.be).2.1, (HF.out _ hX.be).2.2, trivial⟩) ?_
      intro VStint2_2 hc2 hHStint2_2
      have hVStint2_2 := Lib.hid hc2
      clear hc2 hKq Kq hVStint2_1 hc hHStint2_1
      try simp only [Act.put, List.setIfInBounds_toArray, List.set_cons_zero, List.set_cons_succ]
      refine wpAnyH_ready (rs := [19]) (by kernel_rfl) (by simp) ?_
      refine AllReadyH.cons (o := ⟨_, _, _, _, _, _⟩) rfl (fun Kq hKq => ?_) AllReadyH.nil
      go_simp
      refine stepY hKq (show Sy w _ [] [⟨.slice aAStint2_2 (k + 1) cAStint2_2, 99, 3, k + 1, L3 (l.take k) ++ [.int .i64 u0, .int .i64 u1, .int .i64 u2]⟩, ⟨.slice (some ⟨VStint2_0.heap.size, 0, none⟩) 1 1, 99, 3, 1, [.int .i64 u0, .int .i64 u1, .int .i64 u2]⟩] [] from hVStint2_2.out) (fun _ hX => ⟨(HF.out _ hX.be).1, (HF.out _ hX.be).2.1, (HF.out _ hX.be).2.2, trivial⟩) ?_
      intro VStint2_3 hc hHStint2_3
      have hVStint2_3 := Lib.hid hc
      clear hc hKq Kq hVStint2_2 hHStint2_2
      try simp only [Act.put, List.setIfInBounds_toArray, List.set_cons_zero, List.set_cons_succ]
      refine wpAnyH_done (by kernel_rfl) ?_ _
      refine NoPanic.normal ?_
      go_wp2
      go_roundw
      case rel =>
        refine ⟨k + 1, _, _, by omega, rfl, by go_num, ?_⟩
        rw [HT.out]
        exact Lib.hid (hVStint2_3.out.thin (List.Sublist.refl _) (by exact List.Sublist.cons_cons _ (List.nil_sublist _)))
      case measure => simp [intOf]; omega
    · obtain rfl : k = l.length := by omega
      go_wp2
      go_ret
      exact ⟨_, _, rfl, by have h := hC.out.gives 0 rfl; rwa [List.take_length] at h, hC.out.be⟩
section
variable (w : World)
set_option maxRecDepth 100000 in
set_option maxHeartbeats 4000000 in
theorem sameStints_same (a a' : Option Addr) (n c n' c' : Nat) (x : List I3) (hs : Sx 3 w a n c (L3 x)) (hs' : Sx 3 w a' n' c' (L3 x)) : Calls Tryz.prog 19 #[.slice a n c, .slice a' n' c'] w (Gives (.bool true) w) := by
  obtain rfl := hs.n3
  obtain rfl := hs'.n3
  have hcap := hs.cap
  unfold maxLen at hcap
  have HS := Lib.hid hs
  have HS' := Lib.hid hs'
  clear hs hs'
  go_enter Tryz.func19, Tryz.ntmps19
  go_wp2
  go_loopw [5] (fun iv wr => ∃ k : Nat, k ≤ x.length ∧ iv = .int .i64 k ∧ Hid (Sy w wr [] [] [])) (fun iv _ => x.length - (intOf iv).toNat)
  case atStart => exact ⟨0, Nat.zero_le _, rfl, Lib.hid (Sy.enter w)⟩
  case round =>
    obtain ⟨k, hk, rfl, hC⟩ := hrel
    by_cases hlt : k < x.length
    · have hkk : (k : Int) < (x.length : Int) := by omega
      have k0 : (0 : Int) ≤ (k : Int) := by omega
      obtain ⟨g0, o0, rfl⟩ := HS.out.addr (by omega)
      obtain ⟨g1, o1, rfl⟩ := HS'.out.addr (by omega)
      obtain ⟨x0, x1, x2⟩ := (hC.out.sx HS.out).at3 hlt
      obtain ⟨y0, y1, y2⟩ := (hC.out.sx HS'.out).at3 hlt
      generalize x[k] = u at *
      obtain ⟨u0, u1, u2⟩ := u
      dsimp only at x0 x1 x2 y0 y1 y2
      go_wp2
      go_quiet (fail)
      have hS1 := Lib.hid (hC.out.call (below_dN (Below.refl _ _) nq))
      go_wp2
      go_roundw
      case rel => exact ⟨k + 1, by omega, by go_num, hS1⟩
      case measure => simp [intOf]; omega
    · have hkk : ¬ (k : Int) < (x.length : Int) := by omega
      go_wp2
      go_ret
      exact ⟨rfl, hC.out.be⟩
set_option maxRecDepth 100000 in
set_option maxHeartbeats 8000000 in
theorem gangDays_walk (a1 a2 : Option Addr) (n1 c1 n2 c2 : Nat) (L : Int) (F : List Int) (l : List WL) (hs1 : Sx 1 w a1 n1 c1 (L1 F)) (hs2 : Sx 3 w a2 n2 c2 (LW l)) (hn : ∀ x ∈ l, x.1.size ≤ maxLen) :
    Calls Tryz.prog 3 #[.int .i64 L, .slice a1 n1 c1, .slice a2 n2 c2] w (Gives (.bool true) w) := by
  have cap1 := hs1.cap
  have cap2 := hs2.cap
  unfold maxLen at cap1 cap2
  obtain rfl := hs1.n1
  obtain rfl := hs2.nW
  have HW := Lib.hid wakes_any
  have HS1 := Lib.hid hs1
  have HS2 := Lib.hid hs2
  have HN := Lib.hid hn
  clear hs1 hs2 hn
  have hcase : (L > 3000 ∧ L ≤ 100000) ∨ ((¬ L > 3000 ∨ (L > 3000 ∧ ¬ L ≤ 100000)) ∧ (((F.length : Int) > 70) ∨ (¬ ((F.length : Int) > 70) ∧ ((l.length : Int) > 20)))) ∨ ((¬ L > 3000 ∨ (L > 3000 ∧ ¬ L ≤ 100000)) ∧ ¬ ((F.length : Int) > 70) ∧ ¬ ((l.length : Int) > 20)) := by omega
  rcases hcase with ⟨g0, g1⟩ | ⟨g0 | ⟨g0, g1⟩, g2 | ⟨g2, g3⟩⟩ | ⟨g0 | ⟨g0, g1⟩, g2, g3⟩
  · go_enter Tryz.func3, Tryz.ntmps3
    have hC := Lib.hid (Sy.enter w)
    go_wp2_with fail
    refine (HW.out _).mono ?_
    rintro e V ⟨rfl, hb⟩
    have hZ := Lib.hid (hC.out.call hb)
    clear hb
    go_wp2
    go_ret
    exact ⟨rfl, hZ.out.be⟩
  · go_enter Tryz.func3, Tryz.ntmps3
    have hC := Lib.hid (Sy.enter w)
    go_wp2_with fail
    refine (HW.out _).mono ?_
    rintro e V ⟨rfl, hb⟩
    have hZ := Lib.hid (hC.out.call hb)
    clear hb
    go_wp2
    go_ret
    exact ⟨rfl, hZ.out.be⟩
  · go_enter Tryz.func3, Tryz.ntmps3
    have hC := Lib.hid (Sy.enter w)
    go_wp2_with fail
    refine (HW.out _).mono ?_
    rintro e V ⟨rfl, hb⟩
    have hZ := Lib.hid (hC.out.call hb)
    clear hb
    go_wp2
    go_ret
    exact ⟨rfl, hZ.out.be⟩
  · go_enter Tryz.func3, Tryz.ntmps3
    have hC := Lib.hid (Sy.enter w)
    go_wp2_with fail
    refine (HW.out _).mono ?_
    rintro e V ⟨rfl, hb⟩
    have hZ := Lib.hid (hC.out.call hb)
    clear hb
    go_wp2
    go_ret
    exact ⟨rfl, hZ.out.be⟩
  · go_enter Tryz.func3, Tryz.ntmps3
    have hC := Lib.hid (Sy.enter w)
    go_wp2_with fail
    refine (HW.out _).mono ?_
    rintro e V ⟨rfl, hb⟩
    have hZ := Lib.hid (hC.out.call hb)
    clear hb
    go_wp2
    go_ret
    exact ⟨rfl, hZ.out.be⟩
  · have HCG := Lib.hid (conv_Waller2 a2 _ c2 l w HS2.out (by omega))
    have HCK := Lib.hid (fun W b d (h0 : Sx 3 W b l.length d (LW l)) => check_any W b _ d l h0 HN.out)
    have HRG := Lib.hid (fun W (h : Below w.heap.size w W) => refGang_any W a2 _ c2 l (HS2.out.below h) HN.out)
    have HRF := Lib.hid (fun W (h : Below w.heap.size w W) => refFrames_any W a1 _ c1 L F (HS1.out.below h))
    cases hrb : rightB L F l
    · have HDB := Lib.hid (fun W b d (h0 : Sx 3 W b l.length d (LW l)) (h : Below w.heap.size w W) => days_bad W a1 b _ c1 _ d L F l (HS1.out.below h) h0 HN.out hrb)
      have hsp := rightB_split L F l
      rw [hrb] at hsp
      clear hrb
      cases hg : gangB l
      · rw [hg] at HRG
        have HGE := Lib.hid (show gangErr l = 2 from by unfold gangErr; rw [hg]; rfl)
        rw [HGE.out] at HCK
        clear hg hsp HGE HRF
        go_enter Tryz.func3, Tryz.ntmps3
        go_wp2_with fail
        refine (HCG.out).mono ?_
        rintro e V1 ⟨a5, c5, rfl, hr, hb⟩
        have hA := Lib.hid ((Sy.enter w).adopt hb hr)
        clear hb hr
        go_wp2_with fail
        refine (HDB.out _ _ _ (hA.out.osx 0 rfl) hA.out.be).mono ?_
        rintro e V2 ⟨rfl, hb⟩
        have hB := Lib.hid (hA.out.call hb)
        clear hb hA
        go_wp2_with fail
        refine (HCK.out _ _ _ (hB.out.osx 0 rfl)).mono ?_
        rintro e V3 ⟨rfl, hb⟩
        have hC := Lib.hid (hB.out.call hb)
        clear hb hB
        go_wp2_with fail
        refine (HRG.out _ hC.out.be).mono ?_
        rintro e V4 ⟨rfl, hb⟩
        have hD := Lib.hid (hC.out.call hb)
        clear hb hC
        go_wp2_with fail
        refine (HRG.out _ hD.out.be).mono ?_
        rintro e V5 ⟨rfl, hb⟩
        have hE := Lib.hid (hD.out.call hb)
        clear hb hD
        go_wp2_with fail
        refine (HW.out _).mono ?_
        rintro e V ⟨rfl, hb⟩
        have hZ := Lib.hid (hE.out.call hb)
        clear hb
        go_wp2
        go_ret
        exact ⟨rfl, hZ.out.be⟩
      · have hf : framesB L F = false := by rw [hg] at hsp; exact hsp.symm
        rw [hg] at HRG
        rw [hf] at HRF
        have HGE := Lib.hid (show gangErr l = 0 from by unfold gangErr; rw [hg]; rfl)
        rw [HGE.out] at HCK
        clear hg hsp HGE hf
        go_enter Tryz.func3, Tryz.ntmps3
        go_wp2_with fail
        refine (HCG.out).mono ?_
        rintro e V1 ⟨a5, c5, rfl, hr, hb⟩
        have hA := Lib.hid ((Sy.enter w).adopt hb hr)
        clear hb hr
        go_wp2_with fail
        refine (HDB.out _ _ _ (hA.out.osx 0 rfl) hA.out.be).mono ?_
        rintro e V2 ⟨rfl, hb⟩
        have hB := Lib.hid (hA.out.call hb)
        clear hb hA
        go_wp2_with fail
        refine (HCK.out _ _ _ (hB.out.osx 0 rfl)).mono ?_
        rintro e V3 ⟨rfl, hb⟩
        have hC := Lib.hid (hB.out.call hb)
        clear hb hB
        go_wp2_with fail
        refine (HRG.out _ hC.out.be).mono ?_
        rintro e V4 ⟨rfl, hb⟩
        have hD := Lib.hid (hC.out.call hb)
        clear hb hC
        go_wp2_with fail
        refine (HRG.out _ hD.out.be).mono ?_
        rintro e V5 ⟨rfl, hb⟩
        have hE := Lib.hid (hD.out.call hb)
        clear hb hD
        go_wp2_with fail
        refine (HRF.out _ hE.out.be).mono ?_
        rintro e V6 ⟨rfl, hb⟩
        have hF := Lib.hid (hE.out.call hb)
        clear hb hE
        go_wp2_with fail
        refine (HW.out _).mono ?_
        rintro e V ⟨rfl, hb⟩
        have hZ := Lib.hid (hF.out.call hb)
        clear hb
        go_wp2
        go_ret
        exact ⟨rfl, hZ.out.be⟩
    · obtain ⟨hR, hF6, hg⟩ := rightB_iff.1 hrb
      have hl := (gangB_len hg).2
      have hp : ∀ x ∈ l, 1 ≤ x.2.1 ∧ x.2.1 ≤ 20000 := fun x hx => (gangB_row hg x hx).1
      have hRP := gangB_paces hg
      have hf : framesB L F = true := by have h := rightB_split L F l; rw [hrb, hg] at h; exact h.symm
      have HDO := Lib.hid (fun W b d (h0 : Sx 3 W b l.length d (LW l)) (h : Below w.heap.size w W) => days_ok W a1 b _ c1 _ d L F l (HS1.out.below h) h0 HN.out hrb)
      have hsp := daysOf_spec hR hRP
      have hLL := hR.2.1
      have HRD := Lib.hid (fun W (h : Below w.heap.size w W) => refDays_any W a1 a2 _ c1 _ c2 L F l (HS1.out.below h) (HS2.out.below h) hR hF6 hl hp hRP)
      have HRE := Lib.hid (fun W (h : Below w.heap.size w W) => refEager_any W a1 a2 _ c1 _ c2 L (daysOf F L (pacesOf l)) F l (HS1.out.below h) (HS2.out.below h) hR hF6 hl hp (by omega) (by omega))
      rw [hg] at HRG
      rw [hf] at HRF
      have HGE := Lib.hid (show gangErr l = 0 from by unfold gangErr; rw [hg]; rfl)
      rw [HGE.out] at HCK
      unfold RetDays at HDO
      unfold RetEagerR at HRE
      clear hg HGE hf hrb hsp hLL hR hp hRP
      generalize (reachOf (endsOf F L) (pacesOf l) (daysOf F L (pacesOf l))) = rch at *
      generalize (stintsOf (endsOf F L) (pacesOf l) (daysOf F L (pacesOf l))) = st at *
      generalize daysOf F L (pacesOf l) = D at *
      have HSS := Lib.hid (fun W b b' d d' (h0 : Sx 3 W b st.length d (L3 st)) (h1 : Sx 3 W b' st.length d' (L3 st)) => sameStints_same W b b' _ d _ d' st h0 h1)
      go_enter Tryz.func3, Tryz.ntmps3
      go_wp2_with fail
      refine (HCG.out).mono ?_
      rintro e V1 ⟨a5, c5, rfl, hr, hb⟩
      have hA := Lib.hid ((Sy.enter w).adopt hb hr)
      clear hb hr
      go_wp2_with fail
      refine (HDO.out _ _ _ (hA.out.osx 0 rfl) hA.out.be).mono ?_
      rintro e V2 ⟨a6, c6, rfl, hr, hb⟩
      have hB := Lib.hid (hA.out.adopt hb hr)
      clear hb hA hr
      go_wp2_with fail
      refine (HCK.out _ _ _ (hB.out.osx 0 rfl)).mono ?_
      rintro e V3 ⟨rfl, hb⟩
      have hC := Lib.hid (hB.out.call hb)
      clear hb hB
      go_wp2_with fail
      refine (HRG.out _ hC.out.be).mono ?_
      rintro e V4 ⟨rfl, hb⟩
      have hD := Lib.hid (hC.out.call hb)
      clear hb hC
      go_wp2_with fail
      refine (HRG.out _ hD.out.be).mono ?_
      rintro e V5 ⟨rfl, hb⟩
      have hE := Lib.hid (hD.out.call hb)
      clear hb hD
      go_wp2_with fail
      refine (HRF.out _ hE.out.be).mono ?_
      rintro e V6 ⟨rfl, hb⟩
      have hF := Lib.hid (hE.out.call hb)
      clear hb hE
      go_wp2_with fail
      refine (HRD.out _ hF.out.be).mono ?_
      rintro e V7 ⟨rfl, hb⟩
      have hG := Lib.hid (hF.out.call hb)
      clear hb hF
      go_wp2_with fail
      refine (HRE.out _ hG.out.be).mono ?_
      rintro e V8 ⟨a7, c7, rfl, hr, hb⟩
      have hH := Lib.hid (hG.out.adopt hb hr)
      clear hb hG hr
      go_wp2_with fail
      refine (HSS.out _ _ _ _ _ (hH.out.osx 1 rfl) (hH.out.osx 2 rfl)).mono ?_
      rintro e V9 ⟨rfl, hb⟩
      have hI := Lib.hid (hH.out.call hb)
      clear hb hH
      go_wp2_with fail
      refine (HW.out _).mono ?_
      rintro e V ⟨rfl, hb⟩
      have hZ := Lib.hid (hI.out.call hb)
      clear hb
      go_wp2
      go_ret
      exact ⟨rfl, hZ.out.be⟩
  · have HCG := Lib.hid (conv_Waller2 a2 _ c2 l w HS2.out (by omega))
    have HCK := Lib.hid (fun W b d (h0 : Sx 3 W b l.length d (LW l)) => check_any W b _ d l h0 HN.out)
    have HRG := Lib.hid (fun W (h : Below w.heap.size w W) => refGang_any W a2 _ c2 l (HS2.out.below h) HN.out)
    have HRF := Lib.hid (fun W (h : Below w.heap.size w W) => refFrames_any W a1 _ c1 L F (HS1.out.below h))
    cases hrb : rightB L F l
    · have HDB := Lib.hid (fun W b d (h0 : Sx 3 W b l.length d (LW l)) (h : Below w.heap.size w W) => days_bad W a1 b _ c1 _ d L F l (HS1.out.below h) h0 HN.out hrb)
      have hsp := rightB_split L F l
      rw [hrb] at hsp
      clear hrb
      cases hg : gangB l
      · rw [hg] at HRG
        have HGE := Lib.hid (show gangErr l = 2 from by unfold gangErr; rw [hg]; rfl)
        rw [HGE.out] at HCK
        clear hg hsp HGE HRF
        go_enter Tryz.func3, Tryz.ntmps3
        go_wp2_with fail
        refine (HCG.out).mono ?_
        rintro e V1 ⟨a5, c5, rfl, hr, hb⟩
        have hA := Lib.hid ((Sy.enter w).adopt hb hr)
        clear hb hr
        go_wp2_with fail
        refine (HDB.out _ _ _ (hA.out.osx 0 rfl) hA.out.be).mono ?_
        rintro e V2 ⟨rfl, hb⟩
        have hB := Lib.hid (hA.out.call hb)
        clear hb hA
        go_wp2_with fail
        refine (HCK.out _ _ _ (hB.out.osx 0 rfl)).mono ?_
        rintro e V3 ⟨rfl, hb⟩
        have hC := Lib.hid (hB.out.call hb)
        clear hb hB
        go_wp2_with fail
        refine (HRG.out _ hC.out.be).mono ?_
        rintro e V4 ⟨rfl, hb⟩
        have hD := Lib.hid (hC.out.call hb)
        clear hb hC
        go_wp2_with fail
        refine (HRG.out _ hD.out.be).mono ?_
        rintro e V5 ⟨rfl, hb⟩
        have hE := Lib.hid (hD.out.call hb)
        clear hb hD
        go_wp2_with fail
        refine (HW.out _).mono ?_
        rintro e V ⟨rfl, hb⟩
        have hZ := Lib.hid (hE.out.call hb)
        clear hb
        go_wp2
        go_ret
        exact ⟨rfl, hZ.out.be⟩
      · have hf : framesB L F = false := by rw [hg] at hsp; exact hsp.symm
        rw [hg] at HRG
        rw [hf] at HRF
        have HGE := Lib.hid (show gangErr l = 0 from by unfold gangErr; rw [hg]; rfl)
        rw [HGE.out] at HCK
        clear hg hsp HGE hf
        go_enter Tryz.func3, Tryz.ntmps3
        go_wp2_with fail
        refine (HCG.out).mono ?_
        rintro e V1 ⟨a5, c5, rfl, hr, hb⟩
        have hA := Lib.hid ((Sy.enter w).adopt hb hr)
        clear hb hr
        go_wp2_with fail
        refine (HDB.out _ _ _ (hA.out.osx 0 rfl) hA.out.be).mono ?_
        rintro e V2 ⟨rfl, hb⟩
        have hB := Lib.hid (hA.out.call hb)
        clear hb hA
        go_wp2_with fail
        refine (HCK.out _ _ _ (hB.out.osx 0 rfl)).mono ?_
        rintro e V3 ⟨rfl, hb⟩
        have hC := Lib.hid (hB.out.call hb)
        clear hb hB
        go_wp2_with fail
        refine (HRG.out _ hC.out.be).mono ?_
        rintro e V4 ⟨rfl, hb⟩
        have hD := Lib.hid (hC.out.call hb)
        clear hb hC
        go_wp2_with fail
        refine (HRG.out _ hD.out.be).mono ?_
        rintro e V5 ⟨rfl, hb⟩
        have hE := Lib.hid (hD.out.call hb)
        clear hb hD
        go_wp2_with fail
        refine (HRF.out _ hE.out.be).mono ?_
        rintro e V6 ⟨rfl, hb⟩
        have hF := Lib.hid (hE.out.call hb)
        clear hb hE
        go_wp2_with fail
        refine (HW.out _).mono ?_
        rintro e V ⟨rfl, hb⟩
        have hZ := Lib.hid (hF.out.call hb)
        clear hb
        go_wp2
        go_ret
        exact ⟨rfl, hZ.out.be⟩
    · obtain ⟨hR, hF6, hg⟩ := rightB_iff.1 hrb
      have hl := (gangB_len hg).2
      have hp : ∀ x ∈ l, 1 ≤ x.2.1 ∧ x.2.1 ≤ 20000 := fun x hx => (gangB_row hg x hx).1
      have hRP := gangB_paces hg
      have hf : framesB L F = true := by have h := rightB_split L F l; rw [hrb, hg] at h; exact h.symm
      have HDO := Lib.hid (fun W b d (h0 : Sx 3 W b l.length d (LW l)) (h : Below w.heap.size w W) => days_ok W a1 b _ c1 _ d L F l (HS1.out.below h) h0 HN.out hrb)
      have hsp := daysOf_spec hR hRP
      have hLL := hR.2.1
      have HRD := Lib.hid (fun W (h : Below w.heap.size w W) => refDays_any W a1 a2 _ c1 _ c2 L F l (HS1.out.below h) (HS2.out.below h) hR hF6 hl hp hRP)
      have HRE := Lib.hid (fun W (h : Below w.heap.size w W) => refEager_any W a1 a2 _ c1 _ c2 L (daysOf F L (pacesOf l)) F l (HS1.out.below h) (HS2.out.below h) hR hF6 hl hp (by omega) (by omega))
      rw [hg] at HRG
      rw [hf] at HRF
      have HGE := Lib.hid (show gangErr l = 0 from by unfold gangErr; rw [hg]; rfl)
      rw [HGE.out] at HCK
      unfold RetDays at HDO
      unfold RetEagerR at HRE
      clear hg HGE hf hrb hsp hLL hR hp hRP
      generalize (reachOf (endsOf F L) (pacesOf l) (daysOf F L (pacesOf l))) = rch at *
      generalize (stintsOf (endsOf F L) (pacesOf l) (daysOf F L (pacesOf l))) = st at *
      generalize daysOf F L (pacesOf l) = D at *
      have HSS := Lib.hid (fun W b b' d d' (h0 : Sx 3 W b st.length d (L3 st)) (h1 : Sx 3 W b' st.length d' (L3 st)) => sameStints_same W b b' _ d _ d' st h0 h1)
      go_enter Tryz.func3, Tryz.ntmps3
      go_wp2_with fail
      refine (HCG.out).mono ?_
      rintro e V1 ⟨a5, c5, rfl, hr, hb⟩
      have hA := Lib.hid ((Sy.enter w).adopt hb hr)
      clear hb hr
      go_wp2_with fail
      refine (HDO.out _ _ _ (hA.out.osx 0 rfl) hA.out.be).mono ?_
      rintro e V2 ⟨a6, c6, rfl, hr, hb⟩
      have hB := Lib.hid (hA.out.adopt hb hr)
      clear hb hA hr
      go_wp2_with fail
      refine (HCK.out _ _ _ (hB.out.osx 0 rfl)).mono ?_
      rintro e V3 ⟨rfl, hb⟩
      have hC := Lib.hid (hB.out.call hb)
      clear hb hB
      go_wp2_with fail
      refine (HRG.out _ hC.out.be).mono ?_
      rintro e V4 ⟨rfl, hb⟩
      have hD := Lib.hid (hC.out.call hb)
      clear hb hC
      go_wp2_with fail
      refine (HRG.out _ hD.out.be).mono ?_
      rintro e V5 ⟨rfl, hb⟩
      have hE := Lib.hid (hD.out.call hb)
      clear hb hD
      go_wp2_with fail
      refine (HRF.out _ hE.out.be).mono ?_
      rintro e V6 ⟨rfl, hb⟩
      have hF := Lib.hid (hE.out.call hb)
      clear hb hE
      go_wp2_with fail
      refine (HRD.out _ hF.out.be).mono ?_
      rintro e V7 ⟨rfl, hb⟩
      have hG := Lib.hid (hF.out.call hb)
      clear hb hF
      go_wp2_with fail
      refine (HRE.out _ hG.out.be).mono ?_
      rintro e V8 ⟨a7, c7, rfl, hr, hb⟩
      have hH := Lib.hid (hG.out.adopt hb hr)
      clear hb hG hr
      go_wp2_with fail
      refine (HSS.out _ _ _ _ _ (hH.out.osx 1 rfl) (hH.out.osx 2 rfl)).mono ?_
      rintro e V9 ⟨rfl, hb⟩
      have hI := Lib.hid (hH.out.call hb)
      clear hb hH
      go_wp2_with fail
      refine (HW.out _).mono ?_
      rintro e V ⟨rfl, hb⟩
      have hZ := Lib.hid (hI.out.call hb)
      clear hb
      go_wp2
      go_ret
      exact ⟨rfl, hZ.out.be⟩
end
end Go.Proofs.YteogibpmpppgmaaGreat

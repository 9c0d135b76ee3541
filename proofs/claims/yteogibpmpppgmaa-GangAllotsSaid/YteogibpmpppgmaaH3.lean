/- the laws' conversions: a list of the reference's type becomes one of the program's, cell by cell -/
import Derived.Test.YteogibpmpppgmaaH0
import Derived.Test.YteogibpmpppgmaaG3
namespace Go.Proofs.Yteogibpmpppgmaa
open Go.RowKit
/-- a row that the call has made -/
def RetRow (w : World) (t : TypeId) (size n : Nat) (xs : List Value) (e : Ending) (w' : World) : Prop := ∃ a c, e = .returned (.slice a n c) ∧ w'.ownsRow w.heap.size t size (.slice a n c) n xs ∧ Below w.heap.size w w'
theorem L2_snoc (l : List I2) (k : Nat) (h : k < l.length) : L2 (l.take (k + 1)) = L2 (l.take k) ++ c2 l[k] := by rw [List.take_succ_eq_append_getElem h, L2_append]; simp [L2]
theorem L3_snoc (l : List I3) (k : Nat) (h : k < l.length) : L3 (l.take (k + 1)) = L3 (l.take k) ++ c3 l[k] := by rw [List.take_succ_eq_append_getElem h, L3_append]; simp [L3]
theorem LW_snoc (l : List WL) (k : Nat) (h : k < l.length) : LW (l.take (k + 1)) = LW (l.take k) ++ cW l[k] := by rw [List.take_succ_eq_append_getElem h, LW_append]; simp [LW]
theorem L1_snoc (l : List Int) (k : Nat) (h : k < l.length) : L1 (l.take (k + 1)) = L1 (l.take k) ++ c1 l[k] := by rw [List.take_succ_eq_append_getElem h, L1_append]; rfl
theorem und_Use : Try.prog.underlying 42 = some (.slice 75) := Try.underlying42
theorem info_Use : (Try.prog.info? 75).map (fun i => (i.zero, i.size, i.bytes)) = some (some (.agg #[.int .i64 0, .int .i64 0]), 2, 16) := by kernel_rfl
set_option maxHeartbeats 4000000 in
set_option maxRecDepth 100000 in
theorem conv_Use (a : Option Addr) (n c : Nat) (l : List I2) (w : World) (hs : Sx 2 w a n c (L2 l)) (hn : n ≤ 100000) :
    Calls Try.prog 18 #[.slice a n c] w (RetRow w 75 2 l.length (L2 l)) := by
  have hlen := hs.n2
  have HS := Lib.hid hs
  obtain rfl : l.length = n := hlen.symm
  clear hs hlen
  go_enter Try.func18, Try.ntmps18
  go_wp2
  go_loopw [3, 4] (fun ov iv wr => ∃ (k : Nat) (a1 : Option Addr) (c1 : Nat), k ≤ l.length ∧ ov = .slice a1 k c1 ∧ iv = .int .i64 k ∧ Hid (Sy w wr [] [⟨.slice a1 k c1, 75, 2, k, L2 (l.take k)⟩] [])) (fun _ iv _ => l.length - (intOf iv).toNat)
  case atStart => exact ⟨0, none, 0, Nat.zero_le _, rfl, rfl, Lib.hid ((Sy.enter w).onil _ 2)⟩
  case round =>
    obtain ⟨k, a1, c1, hk, rfl, rfl, hC⟩ := hrel
    by_cases hlt : k < l.length
    · obtain ⟨g0, o0, rfl⟩ := HS.out.addr (by omega)
      have HF := Lib.hid (fun V (hV : Below w.heap.size w V) => (HS.out.below hV).at2 hlt)
      have HT := Lib.hid (L2_snoc l k hlt)
      generalize l[k] = x at *
      obtain ⟨u0, u1⟩ := x
      go_upto_region 5 with fail
      refine wp_region_noPanic ?_
      refine wp_region_held_drew (S := (fun w' => w'.cell? ⟨g0, o0 + k * 2, none⟩ = some (.int .i64 u0) ∧ w'.cell? ⟨g0, o0 + k * 2 + 1, none⟩ = some (.int .i64 u1) ∧ True)) (by kernel_rfl) ⟨(HF.out _ hC.out.drew.be).1, (HF.out _ hC.out.drew.be).2, trivial⟩ (fun hH => ?_)
      refine wpAnyH_geny (show Sy w _ [] [⟨.slice a1 k c1, 75, 2, k, L2 (l.take k)⟩] [] from hC.out.drew) hH ?_
      intro VUse_0 hc hHUse_0
      have hVUse_0 := Lib.hid hc
      clear hc hH hC
      refine wpAnyH_take (i := 0) (oi := ⟨_, _, _, _, _, _⟩) (v := ?_) rfl (by kernel_rfl) (by kernel_rfl) (by kernel_rfl) (fun _ _ _ h => h) (Or.inl ⟨by rfl, ?_⟩) hHUse_0 ?_
      rotate_left
      · intro wS hSw; (try dsimp only at hSw); go_simp; try with_reducible rfl
      try simp only [Act.put, List.setIfInBounds_toArray, List.set_cons_zero, List.set_cons_succ]
      refine wpAnyH_take (i := 1) (oi := ⟨_, _, _, _, _, _⟩) (v := ?_) rfl (by kernel_rfl) (by kernel_rfl) (by kernel_rfl) (fun _ _ _ h => h) (Or.inl ⟨by rfl, ?_⟩) hHUse_0 ?_
      rotate_left
      · intro wS hSw; (try dsimp only at hSw); go_simp; try with_reducible rfl
      try simp only [Act.put, List.setIfInBounds_toArray, List.set_cons_zero, List.set_cons_succ]
      refine wpAnyH_take (i := 2) (oi := ⟨_, _, _, _, _, _⟩) (v := ?_) rfl (by kernel_rfl) (by kernel_rfl) (by kernel_rfl) (fun _ _ _ h => h) (Or.inl ⟨by rfl, ?_⟩) hHUse_0 ?_
      rotate_left
      · intro wS hSw; (try dsimp only at hSw); go_simp; try with_reducible rfl
      try simp only [Act.put, List.setIfInBounds_toArray, List.set_cons_zero, List.set_cons_succ]
      refine wpAnyH_take (i := 3) (oi := ⟨_, _, _, _, _, _⟩) (v := ?_) rfl (by kernel_rfl) (by kernel_rfl) (by kernel_rfl) (fun _ _ _ h => h) (Or.inl ⟨by rfl, ?_⟩) hHUse_0 ?_
      rotate_left
      · intro wS hSw; (try dsimp only at hSw); go_simp; try with_reducible rfl
      try simp only [Act.put, List.setIfInBounds_toArray, List.set_cons_zero, List.set_cons_succ]
      refine wpAnyH_take (i := 4) (oi := ⟨_, _, _, _, _, _⟩) (v := ?_) rfl (by kernel_rfl) (by kernel_rfl) (by kernel_rfl) (fun _ _ _ h => h) (Or.inl ⟨by rfl, ?_⟩) hHUse_0 ?_
      rotate_left
      · intro wS hSw; (try dsimp only at hSw); go_simp; try with_reducible rfl
      try simp only [Act.put, List.setIfInBounds_toArray, List.set_cons_zero, List.set_cons_succ]
      refine wpAnyH_take (i := 5) (oi := ⟨_, _, _, _, _, _⟩) (v := ?_) rfl (by kernel_rfl) (by kernel_rfl) (by kernel_rfl) (fun _ _ _ h => h) (Or.inl ⟨by rfl, ?_⟩) hHUse_0 ?_
      rotate_left
      · intro wS hSw; (try dsimp only at hSw); go_simp; try with_reducible rfl
      try simp only [Act.put, List.setIfInBounds_toArray, List.set_cons_zero, List.set_cons_succ]
      refine wpAnyH_take (i := 6) (oi := ⟨_, _, _, _, _, _⟩) (v := ?_) rfl (by kernel_rfl) (by kernel_rfl) (by kernel_rfl) (fun _ _ _ h => h) (Or.inl ⟨by rfl, ?_⟩) hHUse_0 ?_
      rotate_left
      · intro wS hSw; (try dsimp only at hSw); go_simp; try with_reducible rfl
      try simp only [Act.put, List.setIfInBounds_toArray, List.set_cons_zero, List.set_cons_succ]
      refine wpAnyH_take (i := 7) (oi := ⟨_, _, _, _, _, _⟩) (v := ?_) rfl (by kernel_rfl) (by kernel_rfl) (by kernel_rfl) (fun _ _ _ h => h) (Or.inl ⟨by rfl, ?_⟩) hHUse_0 ?_
      rotate_left
      · intro wS hSw; (try dsimp only at hSw); go_simp; try with_reducible rfl
      try simp only [Act.put, List.setIfInBounds_toArray, List.set_cons_zero, List.set_cons_succ]
      refine wpAnyH_take (i := 8) (oi := ⟨_, _, _, _, _, _⟩) (v := ?_) rfl (by kernel_rfl) (by kernel_rfl) (by kernel_rfl) (fun _ _ _ h => h) (Or.inl ⟨by rfl, ?_⟩) hHUse_0 ?_
      rotate_left
      · intro wS hSw; (try dsimp only at hSw); go_simp; try with_reducible rfl
      try simp only [Act.put, List.setIfInBounds_toArray, List.set_cons_zero, List.set_cons_succ]
      refine wpAnyH_take (i := 9) (oi := ⟨_, _, _, _, _, _⟩) (v := ?_) rfl (by kernel_rfl) (by kernel_rfl) (by kernel_rfl) (fun _ _ _ h => h) (Or.inl ⟨by rfl, ?_⟩) hHUse_0 ?_
      rotate_left
      · intro wS hSw; (try dsimp only at hSw); go_simp; try with_reducible rfl
      try simp only [Act.put, List.setIfInBounds_toArray, List.set_cons_zero, List.set_cons_succ]
      refine wpAnyH_take (i := 10) (oi := ⟨_, _, _, _, _, _⟩) (v := ?_) rfl (by kernel_rfl) (by kernel_rfl) (by kernel_rfl) (fun _ _ _ h => h) (Or.inl ⟨by rfl, ?_⟩) hHUse_0 ?_
      rotate_left
      · intro wS hSw; (try dsimp only at hSw); go_simp; try with_reducible rfl
      try simp only [Act.put, List.setIfInBounds_toArray, List.set_cons_zero, List.set_cons_succ]
      refine wpAnyH_take (i := 11) (oi := ⟨_, _, _, _, _, _⟩) (v := ?_) rfl (by kernel_rfl) (by kernel_rfl) (by kernel_rfl) (fun _ _ _ h => h) (Or.inl ⟨by rfl, ?_⟩) hHUse_0 ?_
      rotate_left
      · intro wS hSw; (try dsimp only at hSw); go_simp; try with_reducible rfl
      try simp only [Act.put, List.setIfInBounds_toArray, List.set_cons_zero, List.set_cons_succ]
      refine wpAnyH_ready (rs := [12]) (by kernel_rfl) (by simp) ?_
      refine AllReadyH.cons (o := ⟨_, _, _, _, _, _⟩) rfl (fun Kq hKq => ?_) AllReadyH.nil
      go_simp
      refine stepY hKq (show Sy w _ [] [⟨.slice a1 k c1, 75, 2, k, L2 (l.take k)⟩, ⟨.slice (some ⟨VUse_0.heap.size, 0, none⟩) 1 1, 75, 2, 1, [.int .i64 u0, .int .i64 u1]⟩] [] from (hVUse_0.out.onew VUse_0.heap.size #[.int .i64 u0, .int .i64 u1] 75 2 1 rfl (by omega) rfl)) (fun _ hX => ⟨(HF.out _ hX.be).1, (HF.out _ hX.be).2, trivial⟩) ?_
      intro VUse_1 hc hHUse_1
      have hVUse_1 := Lib.hid hc
      clear hc hKq Kq hVUse_0 hHUse_0
      try simp only [Act.put, List.setIfInBounds_toArray, List.set_cons_zero, List.set_cons_succ]
      refine wpAnyH_ready (rs := [13]) (by kernel_rfl) (by simp) ?_
      refine AllReadyH.cons (o := ⟨_, _, _, _, _, _⟩) rfl (fun Kq hKq => ?_) AllReadyH.nil
      rw [if_pos (by rfl)]
      refine op_append_sy hVUse_1.out 0 1 rfl rfl _ _ _ rfl und_Use info_Use rfl (by omega) rfl rfl (by intro u hu; simp at hu; rcases hu with rfl | rfl <;> rfl) (by omega) (by omega) (fun aAUse_2 cAUse_2 _ hc => ?_)
      refine stepY hKq (show Sy w _ [] [⟨.slice aAUse_2 (k + 1) cAUse_2, 75, 2, k + 1, L2 (l.take k) ++ [.int .i64 u0, .int .i64 u1]⟩, ⟨.slice (some ⟨VUse_0.heap.size, 0, none⟩) 1 1, 75, 2, 1, [.int .i64 u0, .int .i64 u1]⟩] [] from hc) (fun _ hX => ⟨(HF.out _ hX.be).1, (HF.out _ hX.be).2, trivial⟩) ?_
      intro VUse_2 hc2 hHUse_2
      have hVUse_2 := Lib.hid hc2
      clear hc2 hKq Kq hVUse_1 hc hHUse_1
      try simp only [Act.put, List.setIfInBounds_toArray, List.set_cons_zero, List.set_cons_succ]
      refine wpAnyH_ready (rs := [14]) (by kernel_rfl) (by simp) ?_
      refine AllReadyH.cons (o := ⟨_, _, _, _, _, _⟩) rfl (fun Kq hKq => ?_) AllReadyH.nil
      go_simp
      refine stepY hKq (show Sy w _ [] [⟨.slice aAUse_2 (k + 1) cAUse_2, 75, 2, k + 1, L2 (l.take k) ++ [.int .i64 u0, .int .i64 u1]⟩, ⟨.slice (some ⟨VUse_0.heap.size, 0, none⟩) 1 1, 75, 2, 1, [.int .i64 u0, .int .i64 u1]⟩] [] from hVUse_2.out) (fun _ hX => ⟨(HF.out _ hX.be).1, (HF.out _ hX.be).2, trivial⟩) ?_
      intro VUse_3 hc hHUse_3
      have hVUse_3 := Lib.hid hc
      clear hc hKq Kq hVUse_2 hHUse_2
      try simp only [Act.put, List.setIfInBounds_toArray, List.set_cons_zero, List.set_cons_succ]
      refine wpAnyH_done (by kernel_rfl) ?_ _
      refine NoPanic.normal ?_
      go_wp2
      go_roundw
      case rel =>
        refine ⟨k + 1, _, _, by omega, rfl, by go_num, ?_⟩
        rw [HT.out]
        exact Lib.hid (hVUse_3.out.thin (List.Sublist.refl _) (by exact List.Sublist.cons_cons _ (List.nil_sublist _)))
      case measure => simp [intOf]; omega
    · obtain rfl : k = l.length := by omega
      go_wp2
      go_ret
      exact ⟨_, _, rfl, by have h := hC.out.gives 0 rfl; rwa [List.take_length] at h, hC.out.be⟩
theorem und_Load : Try.prog.underlying 34 = some (.slice 86) := Try.underlying34
theorem info_Load : (Try.prog.info? 86).map (fun i => (i.zero, i.size, i.bytes)) = some (some (.agg #[.int .i64 0, .int .i64 0, .int .i64 0]), 3, 24) := by kernel_rfl
set_option maxHeartbeats 4000000 in
set_option maxRecDepth 100000 in
theorem conv_Load (a : Option Addr) (n c : Nat) (l : List I3) (w : World) (hs : Sx 3 w a n c (L3 l)) (hn : n ≤ 100000) :
    Calls Try.prog 16 #[.slice a n c] w (RetRow w 86 3 l.length (L3 l)) := by
  have hlen := hs.n3
  have HS := Lib.hid hs
  obtain rfl : l.length = n := hlen.symm
  clear hs hlen
  go_enter Try.func16, Try.ntmps16
  go_wp2
  go_loopw [3, 4] (fun ov iv wr => ∃ (k : Nat) (a1 : Option Addr) (c1 : Nat), k ≤ l.length ∧ ov = .slice a1 k c1 ∧ iv = .int .i64 k ∧ Hid (Sy w wr [] [⟨.slice a1 k c1, 86, 3, k, L3 (l.take k)⟩] [])) (fun _ iv _ => l.length - (intOf iv).toNat)
  case atStart => exact ⟨0, none, 0, Nat.zero_le _, rfl, rfl, Lib.hid ((Sy.enter w).onil _ 3)⟩
  case round =>
    obtain ⟨k, a1, c1, hk, rfl, rfl, hC⟩ := hrel
    by_cases hlt : k < l.length
    · obtain ⟨g0, o0, rfl⟩ := HS.out.addr (by omega)
      have HF := Lib.hid (fun V (hV : Below w.heap.size w V) => (HS.out.below hV).at3 hlt)
      have HT := Lib.hid (L3_snoc l k hlt)
      generalize l[k] = x at *
      obtain ⟨u0, u1, u2⟩ := x
      go_upto_region 5 with fail
      refine wp_region_noPanic ?_
      refine wp_region_held_drew (S := (fun w' => w'.cell? ⟨g0, o0 + k * 3, none⟩ = some (.int .i64 u0) ∧ w'.cell? ⟨g0, o0 + k * 3 + 1, none⟩ = some (.int .i64 u1) ∧ w'.cell? ⟨g0, o0 + k * 3 + 2, none⟩ = some (.int .i64 u2) ∧ True)) (by kernel_rfl) ⟨(HF.out _ hC.out.drew.be).1, (HF.out _ hC.out.drew.be).2.1, (HF.out _ hC.out.drew.be).2.2, trivial⟩ (fun hH => ?_)
      refine wpAnyH_geny (show Sy w _ [] [⟨.slice a1 k c1, 86, 3, k, L3 (l.take k)⟩] [] from hC.out.drew) hH ?_
      intro VLoad_0 hc hHLoad_0
      have hVLoad_0 := Lib.hid hc
      clear hc hH hC
      refine wpAnyH_take (i := 0) (oi := ⟨_, _, _, _, _, _⟩) (v := ?_) rfl (by kernel_rfl) (by kernel_rfl) (by kernel_rfl) (fun _ _ _ h => h) (Or.inl ⟨by rfl, ?_⟩) hHLoad_0 ?_
      rotate_left
      · intro wS hSw; (try dsimp only at hSw); go_simp; try with_reducible rfl
      try simp only [Act.put, List.setIfInBounds_toArray, List.set_cons_zero, List.set_cons_succ]
      refine wpAnyH_take (i := 1) (oi := ⟨_, _, _, _, _, _⟩) (v := ?_) rfl (by kernel_rfl) (by kernel_rfl) (by kernel_rfl) (fun _ _ _ h => h) (Or.inl ⟨by rfl, ?_⟩) hHLoad_0 ?_
      rotate_left
      · intro wS hSw; (try dsimp only at hSw); go_simp; try with_reducible rfl
      try simp only [Act.put, List.setIfInBounds_toArray, List.set_cons_zero, List.set_cons_succ]
      refine wpAnyH_take (i := 2) (oi := ⟨_, _, _, _, _, _⟩) (v := ?_) rfl (by kernel_rfl) (by kernel_rfl) (by kernel_rfl) (fun _ _ _ h => h) (Or.inl ⟨by rfl, ?_⟩) hHLoad_0 ?_
      rotate_left
      · intro wS hSw; (try dsimp only at hSw); go_simp; try with_reducible rfl
      try simp only [Act.put, List.setIfInBounds_toArray, List.set_cons_zero, List.set_cons_succ]
      refine wpAnyH_take (i := 3) (oi := ⟨_, _, _, _, _, _⟩) (v := ?_) rfl (by kernel_rfl) (by kernel_rfl) (by kernel_rfl) (fun _ _ _ h => h) (Or.inl ⟨by rfl, ?_⟩) hHLoad_0 ?_
      rotate_left
      · intro wS hSw; (try dsimp only at hSw); go_simp; try with_reducible rfl
      try simp only [Act.put, List.setIfInBounds_toArray, List.set_cons_zero, List.set_cons_succ]
      refine wpAnyH_take (i := 4) (oi := ⟨_, _, _, _, _, _⟩) (v := ?_) rfl (by kernel_rfl) (by kernel_rfl) (by kernel_rfl) (fun _ _ _ h => h) (Or.inl ⟨by rfl, ?_⟩) hHLoad_0 ?_
      rotate_left
      · intro wS hSw; (try dsimp only at hSw); go_simp; try with_reducible rfl
      try simp only [Act.put, List.setIfInBounds_toArray, List.set_cons_zero, List.set_cons_succ]
      refine wpAnyH_take (i := 5) (oi := ⟨_, _, _, _, _, _⟩) (v := ?_) rfl (by kernel_rfl) (by kernel_rfl) (by kernel_rfl) (fun _ _ _ h => h) (Or.inl ⟨by rfl, ?_⟩) hHLoad_0 ?_
      rotate_left
      · intro wS hSw; (try dsimp only at hSw); go_simp; try with_reducible rfl
      try simp only [Act.put, List.setIfInBounds_toArray, List.set_cons_zero, List.set_cons_succ]
      refine wpAnyH_take (i := 6) (oi := ⟨_, _, _, _, _, _⟩) (v := ?_) rfl (by kernel_rfl) (by kernel_rfl) (by kernel_rfl) (fun _ _ _ h => h) (Or.inl ⟨by rfl, ?_⟩) hHLoad_0 ?_
      rotate_left
      · intro wS hSw; (try dsimp only at hSw); go_simp; try with_reducible rfl
      try simp only [Act.put, List.setIfInBounds_toArray, List.set_cons_zero, List.set_cons_succ]
      refine wpAnyH_take (i := 7) (oi := ⟨_, _, _, _, _, _⟩) (v := ?_) rfl (by kernel_rfl) (by kernel_rfl) (by kernel_rfl) (fun _ _ _ h => h) (Or.inl ⟨by rfl, ?_⟩) hHLoad_0 ?_
      rotate_left
      · intro wS hSw; (try dsimp only at hSw); go_simp; try with_reducible rfl
      try simp only [Act.put, List.setIfInBounds_toArray, List.set_cons_zero, List.set_cons_succ]
      refine wpAnyH_take (i := 8) (oi := ⟨_, _, _, _, _, _⟩) (v := ?_) rfl (by kernel_rfl) (by kernel_rfl) (by kernel_rfl) (fun _ _ _ h => h) (Or.inl ⟨by rfl, ?_⟩) hHLoad_0 ?_
      rotate_left
      · intro wS hSw; (try dsimp only at hSw); go_simp; try with_reducible rfl
      try simp only [Act.put, List.setIfInBounds_toArray, List.set_cons_zero, List.set_cons_succ]
      refine wpAnyH_take (i := 9) (oi := ⟨_, _, _, _, _, _⟩) (v := ?_) rfl (by kernel_rfl) (by kernel_rfl) (by kernel_rfl) (fun _ _ _ h => h) (Or.inl ⟨by rfl, ?_⟩) hHLoad_0 ?_
      rotate_left
      · intro wS hSw; (try dsimp only at hSw); go_simp; try with_reducible rfl
      try simp only [Act.put, List.setIfInBounds_toArray, List.set_cons_zero, List.set_cons_succ]
      refine wpAnyH_take (i := 10) (oi := ⟨_, _, _, _, _, _⟩) (v := ?_) rfl (by kernel_rfl) (by kernel_rfl) (by kernel_rfl) (fun _ _ _ h => h) (Or.inl ⟨by rfl, ?_⟩) hHLoad_0 ?_
      rotate_left
      · intro wS hSw; (try dsimp only at hSw); go_simp; try with_reducible rfl
      try simp only [Act.put, List.setIfInBounds_toArray, List.set_cons_zero, List.set_cons_succ]
      refine wpAnyH_take (i := 11) (oi := ⟨_, _, _, _, _, _⟩) (v := ?_) rfl (by kernel_rfl) (by kernel_rfl) (by kernel_rfl) (fun _ _ _ h => h) (Or.inl ⟨by rfl, ?_⟩) hHLoad_0 ?_
      rotate_left
      · intro wS hSw; (try dsimp only at hSw); go_simp; try with_reducible rfl
      try simp only [Act.put, List.setIfInBounds_toArray, List.set_cons_zero, List.set_cons_succ]
      refine wpAnyH_take (i := 12) (oi := ⟨_, _, _, _, _, _⟩) (v := ?_) rfl (by kernel_rfl) (by kernel_rfl) (by kernel_rfl) (fun _ _ _ h => h) (Or.inl ⟨by rfl, ?_⟩) hHLoad_0 ?_
      rotate_left
      · intro wS hSw; (try dsimp only at hSw); go_simp; try with_reducible rfl
      try simp only [Act.put, List.setIfInBounds_toArray, List.set_cons_zero, List.set_cons_succ]
      refine wpAnyH_take (i := 13) (oi := ⟨_, _, _, _, _, _⟩) (v := ?_) rfl (by kernel_rfl) (by kernel_rfl) (by kernel_rfl) (fun _ _ _ h => h) (Or.inl ⟨by rfl, ?_⟩) hHLoad_0 ?_
      rotate_left
      · intro wS hSw; (try dsimp only at hSw); go_simp; try with_reducible rfl
      try simp only [Act.put, List.setIfInBounds_toArray, List.set_cons_zero, List.set_cons_succ]
      refine wpAnyH_take (i := 14) (oi := ⟨_, _, _, _, _, _⟩) (v := ?_) rfl (by kernel_rfl) (by kernel_rfl) (by kernel_rfl) (fun _ _ _ h => h) (Or.inl ⟨by rfl, ?_⟩) hHLoad_0 ?_
      rotate_left
      · intro wS hSw; (try dsimp only at hSw); go_simp; try with_reducible rfl
      try simp only [Act.put, List.setIfInBounds_toArray, List.set_cons_zero, List.set_cons_succ]
      refine wpAnyH_take (i := 15) (oi := ⟨_, _, _, _, _, _⟩) (v := ?_) rfl (by kernel_rfl) (by kernel_rfl) (by kernel_rfl) (fun _ _ _ h => h) (Or.inl ⟨by rfl, ?_⟩) hHLoad_0 ?_
      rotate_left
      · intro wS hSw; (try dsimp only at hSw); go_simp; try with_reducible rfl
      try simp only [Act.put, List.setIfInBounds_toArray, List.set_cons_zero, List.set_cons_succ]
      refine wpAnyH_take (i := 16) (oi := ⟨_, _, _, _, _, _⟩) (v := ?_) rfl (by kernel_rfl) (by kernel_rfl) (by kernel_rfl) (fun _ _ _ h => h) (Or.inl ⟨by rfl, ?_⟩) hHLoad_0 ?_
      rotate_left
      · intro wS hSw; (try dsimp only at hSw); go_simp; try with_reducible rfl
      try simp only [Act.put, List.setIfInBounds_toArray, List.set_cons_zero, List.set_cons_succ]
      refine wpAnyH_ready (rs := [17]) (by kernel_rfl) (by simp) ?_
      refine AllReadyH.cons (o := ⟨_, _, _, _, _, _⟩) rfl (fun Kq hKq => ?_) AllReadyH.nil
      go_simp
      refine stepY hKq (show Sy w _ [] [⟨.slice a1 k c1, 86, 3, k, L3 (l.take k)⟩, ⟨.slice (some ⟨VLoad_0.heap.size, 0, none⟩) 1 1, 86, 3, 1, [.int .i64 u0, .int .i64 u1, .int .i64 u2]⟩] [] from (hVLoad_0.out.onew VLoad_0.heap.size #[.int .i64 u0, .int .i64 u1, .int .i64 u2] 86 3 1 rfl (by omega) rfl)) (fun _ hX => ⟨(HF.out _ hX.be).1, (HF.out _ hX.be).2.1, (HF.out _ hX.be).2.2, trivial⟩) ?_
      intro VLoad_1 hc hHLoad_1
      have hVLoad_1 := Lib.hid hc
      clear hc hKq Kq hVLoad_0 hHLoad_0
      try simp only [Act.put, List.setIfInBounds_toArray, List.set_cons_zero, List.set_cons_succ]
      refine wpAnyH_ready (rs := [18]) (by kernel_rfl) (by simp) ?_
      refine AllReadyH.cons (o := ⟨_, _, _, _, _, _⟩) rfl (fun Kq hKq => ?_) AllReadyH.nil
      rw [if_pos (by rfl)]
      refine op_append_sy hVLoad_1.out 0 1 rfl rfl _ _ _ rfl und_Load info_Load rfl (by omega) rfl rfl (by intro u hu; simp at hu; rcases hu with rfl | rfl | rfl <;> rfl) (by omega) (by omega) (fun aALoad_2 cALoad_2 _ hc => ?_)
      refine stepY hKq (show Sy w _ [] [⟨.slice aALoad_2 (k + 1) cALoad_2, 86, 3, k + 1, L3 (l.take k) ++ [.int .i64 u0, .int .i64 u1, .int .i64 u2]⟩, ⟨.slice (some ⟨VLoad_0.heap.size, 0, none⟩) 1 1, 86, 3, 1, [.int .i64 u0, .int .i64 u1, .int .i64 u2]⟩] [] from hc) (fun _ hX => ⟨(HF.out _ hX.be).1, (HF.out _ hX.be).2.1, (HF.out _ hX.be).2.2, trivial⟩) ?_
      intro VLoad_2 hc2 hHLoad_2
      have hVLoad_2 := Lib.hid hc2
      clear hc2 hKq Kq hVLoad_1 hc hHLoad_1
      try simp only [Act.put, List.setIfInBounds_toArray, List.set_cons_zero, List.set_cons_succ]
      refine wpAnyH_ready (rs := [19]) (by kernel_rfl) (by simp) ?_
      refine AllReadyH.cons (o := ⟨_, _, _, _, _, _⟩) rfl (fun Kq hKq => ?_) AllReadyH.nil
      go_simp
      refine stepY hKq (show Sy w _ [] [⟨.slice aALoad_2 (k + 1) cALoad_2, 86, 3, k + 1, L3 (l.take k) ++ [.int .i64 u0, .int .i64 u1, .int .i64 u2]⟩, ⟨.slice (some ⟨VLoad_0.heap.size, 0, none⟩) 1 1, 86, 3, 1, [.int .i64 u0, .int .i64 u1, .int .i64 u2]⟩] [] from hVLoad_2.out) (fun _ hX => ⟨(HF.out _ hX.be).1, (HF.out _ hX.be).2.1, (HF.out _ hX.be).2.2, trivial⟩) ?_
      intro VLoad_3 hc hHLoad_3
      have hVLoad_3 := Lib.hid hc
      clear hc hKq Kq hVLoad_2 hHLoad_2
      try simp only [Act.put, List.setIfInBounds_toArray, List.set_cons_zero, List.set_cons_succ]
      refine wpAnyH_done (by kernel_rfl) ?_ _
      refine NoPanic.normal ?_
      go_wp2
      go_roundw
      case rel =>
        refine ⟨k + 1, _, _, by omega, rfl, by go_num, ?_⟩
        rw [HT.out]
        exact Lib.hid (hVLoad_3.out.thin (List.Sublist.refl _) (by exact List.Sublist.cons_cons _ (List.nil_sublist _)))
      case measure => simp [intOf]; omega
    · obtain rfl : k = l.length := by omega
      go_wp2
      go_ret
      exact ⟨_, _, rfl, by have h := hC.out.gives 0 rfl; rwa [List.take_length] at h, hC.out.be⟩
theorem und_Pile : Try.prog.underlying 51 = some (.slice 60) := Try.underlying51
theorem info_Pile : (Try.prog.info? 60).map (fun i => (i.zero, i.size, i.bytes)) = some (some (.agg #[.int .i64 0, .int .i64 0, .int .i64 0]), 3, 24) := by kernel_rfl
set_option maxHeartbeats 4000000 in
set_option maxRecDepth 100000 in
theorem conv_Pile (a : Option Addr) (n c : Nat) (l : List I3) (w : World) (hs : Sx 3 w a n c (L3 l)) (hn : n ≤ 100000) :
    Calls Try.prog 23 #[.slice a n c] w (RetRow w 60 3 l.length (L3 l)) := by
  have hlen := hs.n3
  have HS := Lib.hid hs
  obtain rfl : l.length = n := hlen.symm
  clear hs hlen
  go_enter Try.func23, Try.ntmps23
  go_wp2
  go_loopw [3, 4] (fun ov iv wr => ∃ (k : Nat) (a1 : Option Addr) (c1 : Nat), k ≤ l.length ∧ ov = .slice a1 k c1 ∧ iv = .int .i64 k ∧ Hid (Sy w wr [] [⟨.slice a1 k c1, 60, 3, k, L3 (l.take k)⟩] [])) (fun _ iv _ => l.length - (intOf iv).toNat)
  case atStart => exact ⟨0, none, 0, Nat.zero_le _, rfl, rfl, Lib.hid ((Sy.enter w).onil _ 3)⟩
  case round =>
    obtain ⟨k, a1, c1, hk, rfl, rfl, hC⟩ := hrel
    by_cases hlt : k < l.length
    · obtain ⟨g0, o0, rfl⟩ := HS.out.addr (by omega)
      have HF := Lib.hid (fun V (hV : Below w.heap.size w V) => (HS.out.below hV).at3 hlt)
      have HT := Lib.hid (L3_snoc l k hlt)
      generalize l[k] = x at *
      obtain ⟨u0, u1, u2⟩ := x
      go_upto_region 5 with fail
      refine wp_region_noPanic ?_
      refine wp_region_held_drew (S := (fun w' => w'.cell? ⟨g0, o0 + k * 3, none⟩ = some (.int .i64 u0) ∧ w'.cell? ⟨g0, o0 + k * 3 + 1, none⟩ = some (.int .i64 u1) ∧ w'.cell? ⟨g0, o0 + k * 3 + 2, none⟩ = some (.int .i64 u2) ∧ True)) (by kernel_rfl) ⟨(HF.out _ hC.out.drew.be).1, (HF.out _ hC.out.drew.be).2.1, (HF.out _ hC.out.drew.be).2.2, trivial⟩ (fun hH => ?_)
      refine wpAnyH_geny (show Sy w _ [] [⟨.slice a1 k c1, 60, 3, k, L3 (l.take k)⟩] [] from hC.out.drew) hH ?_
      intro VPile_0 hc hHPile_0
      have hVPile_0 := Lib.hid hc
      clear hc hH hC
      refine wpAnyH_take (i := 0) (oi := ⟨_, _, _, _, _, _⟩) (v := ?_) rfl (by kernel_rfl) (by kernel_rfl) (by kernel_rfl) (fun _ _ _ h => h) (Or.inl ⟨by rfl, ?_⟩) hHPile_0 ?_
      rotate_left
      · intro wS hSw; (try dsimp only at hSw); go_simp; try with_reducible rfl
      try simp only [Act.put, List.setIfInBounds_toArray, List.set_cons_zero, List.set_cons_succ]
      refine wpAnyH_take (i := 1) (oi := ⟨_, _, _, _, _, _⟩) (v := ?_) rfl (by kernel_rfl) (by kernel_rfl) (by kernel_rfl) (fun _ _ _ h => h) (Or.inl ⟨by rfl, ?_⟩) hHPile_0 ?_
      rotate_left
      · intro wS hSw; (try dsimp only at hSw); go_simp; try with_reducible rfl
      try simp only [Act.put, List.setIfInBounds_toArray, List.set_cons_zero, List.set_cons_succ]
      refine wpAnyH_take (i := 2) (oi := ⟨_, _, _, _, _, _⟩) (v := ?_) rfl (by kernel_rfl) (by kernel_rfl) (by kernel_rfl) (fun _ _ _ h => h) (Or.inl ⟨by rfl, ?_⟩) hHPile_0 ?_
      rotate_left
      · intro wS hSw; (try dsimp only at hSw); go_simp; try with_reducible rfl
      try simp only [Act.put, List.setIfInBounds_toArray, List.set_cons_zero, List.set_cons_succ]
      refine wpAnyH_take (i := 3) (oi := ⟨_, _, _, _, _, _⟩) (v := ?_) rfl (by kernel_rfl) (by kernel_rfl) (by kernel_rfl) (fun _ _ _ h => h) (Or.inl ⟨by rfl, ?_⟩) hHPile_0 ?_
      rotate_left
      · intro wS hSw; (try dsimp only at hSw); go_simp; try with_reducible rfl
      try simp only [Act.put, List.setIfInBounds_toArray, List.set_cons_zero, List.set_cons_succ]
      refine wpAnyH_take (i := 4) (oi := ⟨_, _, _, _, _, _⟩) (v := ?_) rfl (by kernel_rfl) (by kernel_rfl) (by kernel_rfl) (fun _ _ _ h => h) (Or.inl ⟨by rfl, ?_⟩) hHPile_0 ?_
      rotate_left
      · intro wS hSw; (try dsimp only at hSw); go_simp; try with_reducible rfl
      try simp only [Act.put, List.setIfInBounds_toArray, List.set_cons_zero, List.set_cons_succ]
      refine wpAnyH_take (i := 5) (oi := ⟨_, _, _, _, _, _⟩) (v := ?_) rfl (by kernel_rfl) (by kernel_rfl) (by kernel_rfl) (fun _ _ _ h => h) (Or.inl ⟨by rfl, ?_⟩) hHPile_0 ?_
      rotate_left
      · intro wS hSw; (try dsimp only at hSw); go_simp; try with_reducible rfl
      try simp only [Act.put, List.setIfInBounds_toArray, List.set_cons_zero, List.set_cons_succ]
      refine wpAnyH_take (i := 6) (oi := ⟨_, _, _, _, _, _⟩) (v := ?_) rfl (by kernel_rfl) (by kernel_rfl) (by kernel_rfl) (fun _ _ _ h => h) (Or.inl ⟨by rfl, ?_⟩) hHPile_0 ?_
      rotate_left
      · intro wS hSw; (try dsimp only at hSw); go_simp; try with_reducible rfl
      try simp only [Act.put, List.setIfInBounds_toArray, List.set_cons_zero, List.set_cons_succ]
      refine wpAnyH_take (i := 7) (oi := ⟨_, _, _, _, _, _⟩) (v := ?_) rfl (by kernel_rfl) (by kernel_rfl) (by kernel_rfl) (fun _ _ _ h => h) (Or.inl ⟨by rfl, ?_⟩) hHPile_0 ?_
      rotate_left
      · intro wS hSw; (try dsimp only at hSw); go_simp; try with_reducible rfl
      try simp only [Act.put, List.setIfInBounds_toArray, List.set_cons_zero, List.set_cons_succ]
      refine wpAnyH_take (i := 8) (oi := ⟨_, _, _, _, _, _⟩) (v := ?_) rfl (by kernel_rfl) (by kernel_rfl) (by kernel_rfl) (fun _ _ _ h => h) (Or.inl ⟨by rfl, ?_⟩) hHPile_0 ?_
      rotate_left
      · intro wS hSw; (try dsimp only at hSw); go_simp; try with_reducible rfl
      try simp only [Act.put, List.setIfInBounds_toArray, List.set_cons_zero, List.set_cons_succ]
      refine wpAnyH_take (i := 9) (oi := ⟨_, _, _, _, _, _⟩) (v := ?_) rfl (by kernel_rfl) (by kernel_rfl) (by kernel_rfl) (fun _ _ _ h => h) (Or.inl ⟨by rfl, ?_⟩) hHPile_0 ?_
      rotate_left
      · intro wS hSw; (try dsimp only at hSw); go_simp; try with_reducible rfl
      try simp only [Act.put, List.setIfInBounds_toArray, List.set_cons_zero, List.set_cons_succ]
      refine wpAnyH_take (i := 10) (oi := ⟨_, _, _, _, _, _⟩) (v := ?_) rfl (by kernel_rfl) (by kernel_rfl) (by kernel_rfl) (fun _ _ _ h => h) (Or.inl ⟨by rfl, ?_⟩) hHPile_0 ?_
      rotate_left
      · intro wS hSw; (try dsimp only at hSw); go_simp; try with_reducible rfl
      try simp only [Act.put, List.setIfInBounds_toArray, List.set_cons_zero, List.set_cons_succ]
      refine wpAnyH_take (i := 11) (oi := ⟨_, _, _, _, _, _⟩) (v := ?_) rfl (by kernel_rfl) (by kernel_rfl) (by kernel_rfl) (fun _ _ _ h => h) (Or.inl ⟨by rfl, ?_⟩) hHPile_0 ?_
      rotate_left
      · intro wS hSw; (try dsimp only at hSw); go_simp; try with_reducible rfl
      try simp only [Act.put, List.setIfInBounds_toArray, List.set_cons_zero, List.set_cons_succ]
      refine wpAnyH_take (i := 12) (oi := ⟨_, _, _, _, _, _⟩) (v := ?_) rfl (by kernel_rfl) (by kernel_rfl) (by kernel_rfl) (fun _ _ _ h => h) (Or.inl ⟨by rfl, ?_⟩) hHPile_0 ?_
      rotate_left
      · intro wS hSw; (try dsimp only at hSw); go_simp; try with_reducible rfl
      try simp only [Act.put, List.setIfInBounds_toArray, List.set_cons_zero, List.set_cons_succ]
      refine wpAnyH_take (i := 13) (oi := ⟨_, _, _, _, _, _⟩) (v := ?_) rfl (by kernel_rfl) (by kernel_rfl) (by kernel_rfl) (fun _ _ _ h => h) (Or.inl ⟨by rfl, ?_⟩) hHPile_0 ?_
      rotate_left
      · intro wS hSw; (try dsimp only at hSw); go_simp; try with_reducible rfl
      try simp only [Act.put, List.setIfInBounds_toArray, List.set_cons_zero, List.set_cons_succ]
      refine wpAnyH_take (i := 14) (oi := ⟨_, _, _, _, _, _⟩) (v := ?_) rfl (by kernel_rfl) (by kernel_rfl) (by kernel_rfl) (fun _ _ _ h => h) (Or.inl ⟨by rfl, ?_⟩) hHPile_0 ?_
      rotate_left
      · intro wS hSw; (try dsimp only at hSw); go_simp; try with_reducible rfl
      try simp only [Act.put, List.setIfInBounds_toArray, List.set_cons_zero, List.set_cons_succ]
      refine wpAnyH_take (i := 15) (oi := ⟨_, _, _, _, _, _⟩) (v := ?_) rfl (by kernel_rfl) (by kernel_rfl) (by kernel_rfl) (fun _ _ _ h => h) (Or.inl ⟨by rfl, ?_⟩) hHPile_0 ?_
      rotate_left
      · intro wS hSw; (try dsimp only at hSw); go_simp; try with_reducible rfl
      try simp only [Act.put, List.setIfInBounds_toArray, List.set_cons_zero, List.set_cons_succ]
      refine wpAnyH_take (i := 16) (oi := ⟨_, _, _, _, _, _⟩) (v := ?_) rfl (by kernel_rfl) (by kernel_rfl) (by kernel_rfl) (fun _ _ _ h => h) (Or.inl ⟨by rfl, ?_⟩) hHPile_0 ?_
      rotate_left
      · intro wS hSw; (try dsimp only at hSw); go_simp; try with_reducible rfl
      try simp only [Act.put, List.setIfInBounds_toArray, List.set_cons_zero, List.set_cons_succ]
      refine wpAnyH_ready (rs := [17]) (by kernel_rfl) (by simp) ?_
      refine AllReadyH.cons (o := ⟨_, _, _, _, _, _⟩) rfl (fun Kq hKq => ?_) AllReadyH.nil
      go_simp
      refine stepY hKq (show Sy w _ [] [⟨.slice a1 k c1, 60, 3, k, L3 (l.take k)⟩, ⟨.slice (some ⟨VPile_0.heap.size, 0, none⟩) 1 1, 60, 3, 1, [.int .i64 u0, .int .i64 u1, .int .i64 u2]⟩] [] from (hVPile_0.out.onew VPile_0.heap.size #[.int .i64 u0, .int .i64 u1, .int .i64 u2] 60 3 1 rfl (by omega) rfl)) (fun _ hX => ⟨(HF.out _ hX.be).1, (HF.out _ hX.be).2.1, (HF.out _ hX.be).2.2, trivial⟩) ?_
      intro VPile_1 hc hHPile_1
      have hVPile_1 := Lib.hid hc
      clear hc hKq Kq hVPile_0 hHPile_0
      try simp only [Act.put, List.setIfInBounds_toArray, List.set_cons_zero, List.set_cons_succ]
      refine wpAnyH_ready (rs := [18]) (by kernel_rfl) (by simp) ?_
      refine AllReadyH.cons (o := ⟨_, _, _, _, _, _⟩) rfl (fun Kq hKq => ?_) AllReadyH.nil
      rw [if_pos (by rfl)]
      refine op_append_sy hVPile_1.out 0 1 rfl rfl _ _ _ rfl und_Pile info_Pile rfl (by omega) rfl rfl (by intro u hu; simp at hu; rcases hu with rfl | rfl | rfl <;> rfl) (by omega) (by omega) (fun aAPile_2 cAPile_2 _ hc => ?_)
      refine stepY hKq (show Sy w _ [] [⟨.slice aAPile_2 (k + 1) cAPile_2, 60, 3, k + 1, L3 (l.take k) ++ [.int .i64 u0, .int .i64 u1, .int .i64 u2]⟩, ⟨.slice (some ⟨VPile_0.heap.size, 0, none⟩) 1 1, 60, 3, 1, [.int .i64 u0, .int .i64 u1, .int .i64 u2]⟩] [] from hc) (fun _ hX => ⟨(HF.out _ hX.be).1, (HF.out _ hX.be).2.1, (HF.out _ hX.be).2.2, trivial⟩) ?_
      intro VPile_2 hc2 hHPile_2
      have hVPile_2 := Lib.hid hc2
      clear hc2 hKq Kq hVPile_1 hc hHPile_1
      try simp only [Act.put, List.setIfInBounds_toArray, List.set_cons_zero, List.set_cons_succ]
      refine wpAnyH_ready (rs := [19]) (by kernel_rfl) (by simp) ?_
      refine AllReadyH.cons (o := ⟨_, _, _, _, _, _⟩) rfl (fun Kq hKq => ?_) AllReadyH.nil
      go_simp
      refine stepY hKq (show Sy w _ [] [⟨.slice aAPile_2 (k + 1) cAPile_2, 60, 3, k + 1, L3 (l.take k) ++ [.int .i64 u0, .int .i64 u1, .int .i64 u2]⟩, ⟨.slice (some ⟨VPile_0.heap.size, 0, none⟩) 1 1, 60, 3, 1, [.int .i64 u0, .int .i64 u1, .int .i64 u2]⟩] [] from hVPile_2.out) (fun _ hX => ⟨(HF.out _ hX.be).1, (HF.out _ hX.be).2.1, (HF.out _ hX.be).2.2, trivial⟩) ?_
      intro VPile_3 hc hHPile_3
      have hVPile_3 := Lib.hid hc
      clear hc hKq Kq hVPile_2 hHPile_2
      try simp only [Act.put, List.setIfInBounds_toArray, List.set_cons_zero, List.set_cons_succ]
      refine wpAnyH_done (by kernel_rfl) ?_ _
      refine NoPanic.normal ?_
      go_wp2
      go_roundw
      case rel =>
        refine ⟨k + 1, _, _, by omega, rfl, by go_num, ?_⟩
        rw [HT.out]
        exact Lib.hid (hVPile_3.out.thin (List.Sublist.refl _) (by exact List.Sublist.cons_cons _ (List.nil_sublist _)))
      case measure => simp [intOf]; omega
    · obtain rfl : k = l.length := by omega
      go_wp2
      go_ret
      exact ⟨_, _, rfl, by have h := hC.out.gives 0 rfl; rwa [List.take_length] at h, hC.out.be⟩
theorem und_Need : Try.prog.underlying 53 = some (.slice 62) := Try.underlying53
theorem info_Need : (Try.prog.info? 62).map (fun i => (i.zero, i.size, i.bytes)) = some (some (.agg #[.int .i64 0, .int .i64 0]), 2, 16) := by kernel_rfl
set_option maxHeartbeats 4000000 in
set_option maxRecDepth 100000 in
theorem conv_Need (a : Option Addr) (n c : Nat) (l : List I2) (w : World) (hs : Sx 2 w a n c (L2 l)) (hn : n ≤ 100000) :
    Calls Try.prog 24 #[.slice a n c] w (RetRow w 62 2 l.length (L2 l)) := by
  have hlen := hs.n2
  have HS := Lib.hid hs
  obtain rfl : l.length = n := hlen.symm
  clear hs hlen
  go_enter Try.func24, Try.ntmps24
  go_wp2
  go_loopw [3, 4] (fun ov iv wr => ∃ (k : Nat) (a1 : Option Addr) (c1 : Nat), k ≤ l.length ∧ ov = .slice a1 k c1 ∧ iv = .int .i64 k ∧ Hid (Sy w wr [] [⟨.slice a1 k c1, 62, 2, k, L2 (l.take k)⟩] [])) (fun _ iv _ => l.length - (intOf iv).toNat)
  case atStart => exact ⟨0, none, 0, Nat.zero_le _, rfl, rfl, Lib.hid ((Sy.enter w).onil _ 2)⟩
  case round =>
    obtain ⟨k, a1, c1, hk, rfl, rfl, hC⟩ := hrel
    by_cases hlt : k < l.length
    · obtain ⟨g0, o0, rfl⟩ := HS.out.addr (by omega)
      have HF := Lib.hid (fun V (hV : Below w.heap.size w V) => (HS.out.below hV).at2 hlt)
      have HT := Lib.hid (L2_snoc l k hlt)
      generalize l[k] = x at *
      obtain ⟨u0, u1⟩ := x
      go_upto_region 5 with fail
      refine wp_region_noPanic ?_
      refine wp_region_held_drew (S := (fun w' => w'.cell? ⟨g0, o0 + k * 2, none⟩ = some (.int .i64 u0) ∧ w'.cell? ⟨g0, o0 + k * 2 + 1, none⟩ = some (.int .i64 u1) ∧ True)) (by kernel_rfl) ⟨(HF.out _ hC.out.drew.be).1, (HF.out _ hC.out.drew.be).2, trivial⟩ (fun hH => ?_)
      refine wpAnyH_geny (show Sy w _ [] [⟨.slice a1 k c1, 62, 2, k, L2 (l.take k)⟩] [] from hC.out.drew) hH ?_
      intro VNeed_0 hc hHNeed_0
      have hVNeed_0 := Lib.hid hc
      clear hc hH hC
      refine wpAnyH_take (i := 0) (oi := ⟨_, _, _, _, _, _⟩) (v := ?_) rfl (by kernel_rfl) (by kernel_rfl) (by kernel_rfl) (fun _ _ _ h => h) (Or.inl ⟨by rfl, ?_⟩) hHNeed_0 ?_
      rotate_left
      · intro wS hSw; (try dsimp only at hSw); go_simp; try with_reducible rfl
      try simp only [Act.put, List.setIfInBounds_toArray, List.set_cons_zero, List.set_cons_succ]
      refine wpAnyH_take (i := 1) (oi := ⟨_, _, _, _, _, _⟩) (v := ?_) rfl (by kernel_rfl) (by kernel_rfl) (by kernel_rfl) (fun _ _ _ h => h) (Or.inl ⟨by rfl, ?_⟩) hHNeed_0 ?_
      rotate_left
      · intro wS hSw; (try dsimp only at hSw); go_simp; try with_reducible rfl
      try simp only [Act.put, List.setIfInBounds_toArray, List.set_cons_zero, List.set_cons_succ]
      refine wpAnyH_take (i := 2) (oi := ⟨_, _, _, _, _, _⟩) (v := ?_) rfl (by kernel_rfl) (by kernel_rfl) (by kernel_rfl) (fun _ _ _ h => h) (Or.inl ⟨by rfl, ?_⟩) hHNeed_0 ?_
      rotate_left
      · intro wS hSw; (try dsimp only at hSw); go_simp; try with_reducible rfl
      try simp only [Act.put, List.setIfInBounds_toArray, List.set_cons_zero, List.set_cons_succ]
      refine wpAnyH_take (i := 3) (oi := ⟨_, _, _, _, _, _⟩) (v := ?_) rfl (by kernel_rfl) (by kernel_rfl) (by kernel_rfl) (fun _ _ _ h => h) (Or.inl ⟨by rfl, ?_⟩) hHNeed_0 ?_
      rotate_left
      · intro wS hSw; (try dsimp only at hSw); go_simp; try with_reducible rfl
      try simp only [Act.put, List.setIfInBounds_toArray, List.set_cons_zero, List.set_cons_succ]
      refine wpAnyH_take (i := 4) (oi := ⟨_, _, _, _, _, _⟩) (v := ?_) rfl (by kernel_rfl) (by kernel_rfl) (by kernel_rfl) (fun _ _ _ h => h) (Or.inl ⟨by rfl, ?_⟩) hHNeed_0 ?_
      rotate_left
      · intro wS hSw; (try dsimp only at hSw); go_simp; try with_reducible rfl
      try simp only [Act.put, List.setIfInBounds_toArray, List.set_cons_zero, List.set_cons_succ]
      refine wpAnyH_take (i := 5) (oi := ⟨_, _, _, _, _, _⟩) (v := ?_) rfl (by kernel_rfl) (by kernel_rfl) (by kernel_rfl) (fun _ _ _ h => h) (Or.inl ⟨by rfl, ?_⟩) hHNeed_0 ?_
      rotate_left
      · intro wS hSw; (try dsimp only at hSw); go_simp; try with_reducible rfl
      try simp only [Act.put, List.setIfInBounds_toArray, List.set_cons_zero, List.set_cons_succ]
      refine wpAnyH_take (i := 6) (oi := ⟨_, _, _, _, _, _⟩) (v := ?_) rfl (by kernel_rfl) (by kernel_rfl) (by kernel_rfl) (fun _ _ _ h => h) (Or.inl ⟨by rfl, ?_⟩) hHNeed_0 ?_
      rotate_left
      · intro wS hSw; (try dsimp only at hSw); go_simp; try with_reducible rfl
      try simp only [Act.put, List.setIfInBounds_toArray, List.set_cons_zero, List.set_cons_succ]
      refine wpAnyH_take (i := 7) (oi := ⟨_, _, _, _, _, _⟩) (v := ?_) rfl (by kernel_rfl) (by kernel_rfl) (by kernel_rfl) (fun _ _ _ h => h) (Or.inl ⟨by rfl, ?_⟩) hHNeed_0 ?_
      rotate_left
      · intro wS hSw; (try dsimp only at hSw); go_simp; try with_reducible rfl
      try simp only [Act.put, List.setIfInBounds_toArray, List.set_cons_zero, List.set_cons_succ]
      refine wpAnyH_take (i := 8) (oi := ⟨_, _, _, _, _, _⟩) (v := ?_) rfl (by kernel_rfl) (by kernel_rfl) (by kernel_rfl) (fun _ _ _ h => h) (Or.inl ⟨by rfl, ?_⟩) hHNeed_0 ?_
      rotate_left
      · intro wS hSw; (try dsimp only at hSw); go_simp; try with_reducible rfl
      try simp only [Act.put, List.setIfInBounds_toArray, List.set_cons_zero, List.set_cons_succ]
      refine wpAnyH_take (i := 9) (oi := ⟨_, _, _, _, _, _⟩) (v := ?_) rfl (by kernel_rfl) (by kernel_rfl) (by kernel_rfl) (fun _ _ _ h => h) (Or.inl ⟨by rfl, ?_⟩) hHNeed_0 ?_
      rotate_left
      · intro wS hSw; (try dsimp only at hSw); go_simp; try with_reducible rfl
      try simp only [Act.put, List.setIfInBounds_toArray, List.set_cons_zero, List.set_cons_succ]
      refine wpAnyH_take (i := 10) (oi := ⟨_, _, _, _, _, _⟩) (v := ?_) rfl (by kernel_rfl) (by kernel_rfl) (by kernel_rfl) (fun _ _ _ h => h) (Or.inl ⟨by rfl, ?_⟩) hHNeed_0 ?_
      rotate_left
      · intro wS hSw; (try dsimp only at hSw); go_simp; try with_reducible rfl
      try simp only [Act.put, List.setIfInBounds_toArray, List.set_cons_zero, List.set_cons_succ]
      refine wpAnyH_take (i := 11) (oi := ⟨_, _, _, _, _, _⟩) (v := ?_) rfl (by kernel_rfl) (by kernel_rfl) (by kernel_rfl) (fun _ _ _ h => h) (Or.inl ⟨by rfl, ?_⟩) hHNeed_0 ?_
      rotate_left
      · intro wS hSw; (try dsimp only at hSw); go_simp; try with_reducible rfl
      try simp only [Act.put, List.setIfInBounds_toArray, List.set_cons_zero, List.set_cons_succ]
      refine wpAnyH_ready (rs := [12]) (by kernel_rfl) (by simp) ?_
      refine AllReadyH.cons (o := ⟨_, _, _, _, _, _⟩) rfl (fun Kq hKq => ?_) AllReadyH.nil
      go_simp
      refine stepY hKq (show Sy w _ [] [⟨.slice a1 k c1, 62, 2, k, L2 (l.take k)⟩, ⟨.slice (some ⟨VNeed_0.heap.size, 0, none⟩) 1 1, 62, 2, 1, [.int .i64 u0, .int .i64 u1]⟩] [] from (hVNeed_0.out.onew VNeed_0.heap.size #[.int .i64 u0, .int .i64 u1] 62 2 1 rfl (by omega) rfl)) (fun _ hX => ⟨(HF.out _ hX.be).1, (HF.out _ hX.be).2, trivial⟩) ?_
      intro VNeed_1 hc hHNeed_1
      have hVNeed_1 := Lib.hid hc
      clear hc hKq Kq hVNeed_0 hHNeed_0
      try simp only [Act.put, List.setIfInBounds_toArray, List.set_cons_zero, List.set_cons_succ]
      refine wpAnyH_ready (rs := [13]) (by kernel_rfl) (by simp) ?_
      refine AllReadyH.cons (o := ⟨_, _, _, _, _, _⟩) rfl (fun Kq hKq => ?_) AllReadyH.nil
      rw [if_pos (by rfl)]
      refine op_append_sy hVNeed_1.out 0 1 rfl rfl _ _ _ rfl und_Need info_Need rfl (by omega) rfl rfl (by intro u hu; simp at hu; rcases hu with rfl | rfl <;> rfl) (by omega) (by omega) (fun aANeed_2 cANeed_2 _ hc => ?_)
      refine stepY hKq (show Sy w _ [] [⟨.slice aANeed_2 (k + 1) cANeed_2, 62, 2, k + 1, L2 (l.take k) ++ [.int .i64 u0, .int .i64 u1]⟩, ⟨.slice (some ⟨VNeed_0.heap.size, 0, none⟩) 1 1, 62, 2, 1, [.int .i64 u0, .int .i64 u1]⟩] [] from hc) (fun _ hX => ⟨(HF.out _ hX.be).1, (HF.out _ hX.be).2, trivial⟩) ?_
      intro VNeed_2 hc2 hHNeed_2
      have hVNeed_2 := Lib.hid hc2
      clear hc2 hKq Kq hVNeed_1 hc hHNeed_1
      try simp only [Act.put, List.setIfInBounds_toArray, List.set_cons_zero, List.set_cons_succ]
      refine wpAnyH_ready (rs := [14]) (by kernel_rfl) (by simp) ?_
      refine AllReadyH.cons (o := ⟨_, _, _, _, _, _⟩) rfl (fun Kq hKq => ?_) AllReadyH.nil
      go_simp
      refine stepY hKq (show Sy w _ [] [⟨.slice aANeed_2 (k + 1) cANeed_2, 62, 2, k + 1, L2 (l.take k) ++ [.int .i64 u0, .int .i64 u1]⟩, ⟨.slice (some ⟨VNeed_0.heap.size, 0, none⟩) 1 1, 62, 2, 1, [.int .i64 u0, .int .i64 u1]⟩] [] from hVNeed_2.out) (fun _ hX => ⟨(HF.out _ hX.be).1, (HF.out _ hX.be).2, trivial⟩) ?_
      intro VNeed_3 hc hHNeed_3
      have hVNeed_3 := Lib.hid hc
      clear hc hKq Kq hVNeed_2 hHNeed_2
      try simp only [Act.put, List.setIfInBounds_toArray, List.set_cons_zero, List.set_cons_succ]
      refine wpAnyH_done (by kernel_rfl) ?_ _
      refine NoPanic.normal ?_
      go_wp2
      go_roundw
      case rel =>
        refine ⟨k + 1, _, _, by omega, rfl, by go_num, ?_⟩
        rw [HT.out]
        exact Lib.hid (hVNeed_3.out.thin (List.Sublist.refl _) (by exact List.Sublist.cons_cons _ (List.nil_sublist _)))
      case measure => simp [intOf]; omega
    · obtain rfl : k = l.length := by omega
      go_wp2
      go_ret
      exact ⟨_, _, rfl, by have h := hC.out.gives 0 rfl; rwa [List.take_length] at h, hC.out.be⟩

end Go.Proofs.Yteogibpmpppgmaa

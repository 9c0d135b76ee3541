/- the law WholeReads: its walk -/
import Derived.Test.YtmfplelodnoicaaGreatDoorWB2
import Derived.Test.YtmfplelodnoicaaGreatDoorWBZ
import Derived.Test.YtmfplelodnoicaaGreatDoorWB6
import Derived.Test.YtmfplelodnoicaaGreatDoorWB8
import Derived.Test.YtmfplelodnoicaaGreatDoorWU
import Derived.Test.YtmfplelodnoicaaGreatDoorWX
import Derived.Lib.IndexLaws
namespace Go.Proofs.YtmfplelodnoicaaGreatDoor
open Go.RowKit Dig

theorem rparse_cases {l : List UInt8} (hl : l.length ≤ 1000) : (∃ q, rparse l = (q, 0) ∧ Bq 5000 q) ∨ rparse l = (0, 4) ∨ rparse l = (0, 9) := by
  unfold rparse
  rw [if_neg (by omega)]
  split
  · cases hz : Dec.zread l with
    | none => exact .inr (.inl rfl)
    | some z => exact .inl ⟨_, rfl, (Bq.int (zread_bd hz hl)).mono (by omega)⟩
  · cases hz : Dec.zread (l.take (Lib.indexByte l 47).toNat) with
    | none => exact .inr (.inl rfl)
    | some z =>
      dsimp only
      split
      · rename_i hd
        by_cases h0 : ((Dec.val (l.drop ((Lib.indexByte l 47).toNat + 1)) : Nat) : Int) = 0
        · refine .inr (.inr ?_)
          rw [h0, Rat.divInt_zero]; rfl
        · refine .inl ⟨_, by rw [show ofzE ((Dec.val (l.drop ((Lib.indexByte l 47).toNat + 1)) : Nat) : Int) = 0 from by unfold ofzE; rw [if_neg h0]], ?_⟩
          exact Bq.ofInt (zread_bd hz (by simp; omega)) (val_bd (isDec_all hd) (by simp; omega)) h0 (by omega) (by omega)
      · exact .inr (.inl rfl)
theorem idx_neg {S : ByteArray} (h : Lib.indexByte S.data.toList 47 < 0) : ∀ j (hj : j < S.size), S[j] ≠ 47 := by
  intro j hj e
  have h1 := Lib.indexByte_ge S.data.toList 47
  have := Lib.indexByte_none (show Lib.indexByte S.data.toList 47 = -1 by omega) j
  apply this
  rw [List.getElem?_eq_some_iff]
  exact ⟨by simpa using hj, e⟩
theorem idx_pos {S : ByteArray} {k : Nat} (hk : k < S.size) (h : Lib.indexByte S.data.toList 47 = (k : Int)) : (∀ j (hj : j < k), S[j] ≠ 47) ∧ S[k] = 47 := by
  obtain ⟨h1, h2⟩ := Lib.indexByte_some h
  refine ⟨fun j hj e => h2 j hj ?_, ?_⟩
  · rw [List.getElem?_eq_some_iff]
    exact ⟨by simp; omega, e⟩
  · obtain ⟨_, h3⟩ := List.getElem?_eq_some_iff.1 h1
    exact h3
def badN (k : Int) : Int := if k = 0 then 0 else if k = 4 then 1 else 2
theorem parseN_any (S : ByteArray) (w : World) (hs : S.size ≤ 1000) : Calls Tryz.prog 26 #[.string S] w (RetNQE w (rparse S.data.toList).1 (badN (rparse S.data.toList).2)) := by
  have hl : S.data.toList.length = S.size := by simp
  unfold rparse
  rw [if_neg (by rw [hl]; omega)]
  rcases indexByte_lt S.data.toList 47 with hi | ⟨k, hi, hk⟩
  · rw [if_pos hi]
    cases hz : Dec.zread S.data.toList with
    | none => exact parseA_no S w hs (idx_neg hi) hz
    | some z => exact parseA_yes S w hs z (idx_neg hi) hz
  · rw [if_neg (by omega), hi, Int.toNat_natCast]
    have hk2 : k < S.size := by omega
    obtain ⟨hn, h47⟩ := idx_pos hk2 hi
    cases hz : Dec.zread (S.data.toList.take k) with
    | none => exact parseB_no1 S w hs k hk2 hn h47 hz
    | some z =>
      cases hd : Dec.isDec (S.data.toList.drop (k + 1)) with
      | false => exact parseB_no2 S w hs k hk2 hn h47 z hz hd
      | true =>
        by_cases h0 : Dec.val (S.data.toList.drop (k + 1)) = 0
        · have := parseB_zero S w hs k hk2 hn h47 z hz hd h0
          rw [h0]
          dsimp only
          rw [if_pos rfl, Int.natCast_zero, Rat.divInt_zero]
          exact this
        · have h1 : ((Dec.val (S.data.toList.drop (k + 1)) : Nat) : Int) ≠ 0 := by omega
          have := parseB_yes S w hs k hk2 hn h47 z _ hz hd rfl h1
          dsimp only
          rw [if_pos rfl]
          rw [show ofzE ((Dec.val (S.data.toList.drop (k + 1)) : Nat) : Int) = 0 from by unfold ofzE; rw [if_neg h1]]
          exact this
theorem parseN_e {S : ByteArray} {w : World} {q : Rat} {k b : Int} (hs : S.size ≤ 1000) (h : rparse S.data.toList = (q, k)) (hb : badN k = b) : Calls Tryz.prog 26 #[.string S] w (RetNQE w q b) := by
  have := parseN_any S w hs
  rw [h, show badN (q, k).2 = b from hb] at this
  exact this
theorem isInt_is {S : ByteArray} {w : World} {o : Bool} (hs : S.size ≤ 1000) (h : (Dec.zread S.data.toList).isSome = o) : Calls Tryz.prog 24 #[.string S] w (fun e w' => e = .returned (.bool o) ∧ Below w.heap.size w w') := by
  have := isIntN_any S w (by omega)
  rw [h] at this
  exact this.mono fun e w' ⟨h1, h2⟩ => ⟨h1, by rw [h2]; exact Below.refl _ _⟩
theorem zres_some {l : List UInt8} {z : Int} (hl : l.length ≤ 1000) (h : Dec.zread l = some z) : zres l = (z, 0) := by unfold zres; rw [if_neg (by omega), h]
theorem zres_none {l : List UInt8} (hl : l.length ≤ 1000) (h : Dec.zread l = none) : zres l = (0, 4) := by unfold zres; rw [if_neg (by omega), h]
theorem zres_long {l : List UInt8} (hl : 1000 < l.length) : zres l = (0, 5) := by unfold zres; rw [if_pos hl]
theorem rparse_long_eq {l : List UInt8} (hl : 1000 < l.length) : rparse l = (0, 5) := by unfold rparse; rw [if_pos hl]
theorem ba_len {S : ByteArray} : S.data.toList.length = S.size := by simp

set_option maxRecDepth 100000 in
set_option maxHeartbeats 1000000 in
theorem reads_2000 (S : ByteArray) (w : World) (hs : 2000 < S.size) : Calls Tryz.prog 4 #[.string S] w (fun e w' => e = .returned (.bool true) ∧ Below w.heap.size w w') := by
  go_enter Tryz.func4, Tryz.ntmps4
  go_wp2_with fail
  refine (awake_any _).mono ?_
  rintro e w1 ⟨rfl, hb⟩
  go_wp2
  go_ret
  exact ⟨rfl, hb⟩
set_option maxRecDepth 100000 in
set_option maxHeartbeats 4000000 in
theorem reads_1000 (S : ByteArray) (w : World) (hs : 1000 < S.size) (hs2 : S.size ≤ 2000) : Calls Tryz.prog 4 #[.string S] w (fun e w' => e = .returned (.bool true) ∧ Below w.heap.size w w') := by
  have hC := Lib.hid (St.enter w)
  go_enter Tryz.func4, Tryz.ntmps4
  go_wp2_with fail
  refine (zparse_e (by omega) (zres_long (by rw [ba_len]; exact hs))).mono ?_
  rintro e w3 ⟨a3, n3, c3, m3, rfl, hz, hb⟩
  have hC3 := Lib.hid (((hC.out.call hb).pz hz).al w3.heap.size #[.slice a3 n3 c3, .bool m3] 28 rfl rfl)
  clear hz hb hC
  go_wp2_with fail
  refine (rparse_e (by omega) (rparse_long_eq (by rw [ba_len]; exact hs))).mono ?_
  rintro e w4 ⟨a4, n4, c4, m4, d4, e4, f4, rfl, hz, hb⟩
  have hC4 := Lib.hid (((hC3.out.call hb).pr hz).al w4.heap.size #[.slice a4 n4 c4, .bool m4, .slice d4 e4 f4] 48 rfl rfl)
  clear hz hb hC3
  have y00 := hC4.out.cell 0 0 rfl rfl
  have y01 := hC4.out.cell 0 1 rfl rfl
  go_wp2_with fail
  refine (sign_is (hC4.out.z 0 rfl) (sgn_0 rfl)).mono ?_
  rintro e w30 ⟨rfl, hb⟩
  have hC30 : Hid (St w w30 [(w3.heap.size, #[.slice a3 n3 c3, .bool m3], 28), (w4.heap.size, #[.slice a4 n4 c4, .bool m4, .slice d4 e4 f4], 48)] [fun V => Zd V (.slice a3 n3 c3) m3 (0), fun V => Rd V (.slice a4 n4 c4) m4 (.slice d4 e4 f4) (0)]) := Lib.hid (hC4.out.call hb)
  clear hb hC4
  clear y00 y01
  have y10 := hC30.out.cell 1 0 rfl rfl
  have y11 := hC30.out.cell 1 1 rfl rfl
  have y12 := hC30.out.cell 1 2 rfl rfl
  go_wp2_with fail
  refine (rsign_is (hC30.out.r 1 rfl) (sgnQ_0 rfl)).mono ?_
  rintro e w31 ⟨rfl, hb⟩
  have hC31 : Hid (St w w31 [(w3.heap.size, #[.slice a3 n3 c3, .bool m3], 28), (w4.heap.size, #[.slice a4 n4 c4, .bool m4, .slice d4 e4 f4], 48)] [fun V => Zd V (.slice a3 n3 c3) m3 (0), fun V => Rd V (.slice a4 n4 c4) m4 (.slice d4 e4 f4) (0)]) := Lib.hid (hC30.out.call hb)
  clear hb hC30
  clear y10 y11 y12
  go_wp2_with fail
  refine (awake_any _).mono ?_
  rintro e w32 ⟨rfl, hb⟩
  have hC32 : Hid (St w w32 [(w3.heap.size, #[.slice a3 n3 c3, .bool m3], 28), (w4.heap.size, #[.slice a4 n4 c4, .bool m4, .slice d4 e4 f4], 48)] [fun V => Zd V (.slice a3 n3 c3) m3 (0), fun V => Rd V (.slice a4 n4 c4) m4 (.slice d4 e4 f4) (0)]) := Lib.hid (hC31.out.call hb)
  clear hb hC31
  go_wp2
  go_ret
  exact ⟨rfl, hC32.out.be⟩
set_option maxRecDepth 100000 in
set_option maxHeartbeats 8000000 in
theorem reads_n0 (S : ByteArray) (w : World) (q : Rat) (hs : S.size ≤ 1000) (hz : Dec.zread S.data.toList = none) (hq : rparse S.data.toList = (q, 0)) (hb : Bq 5000 q) : Calls Tryz.prog 4 #[.string S] w (fun e w' => e = .returned (.bool true) ∧ Below w.heap.size w w') := by
  have HZ := Lib.hid hz
  have HQ := Lib.hid hq
  have HS := Lib.hid hs
  have hs2 : S.size ≤ 2000 := by omega
  have HBQ := Lib.hid hb
  clear hb
  clear hz hq
  have hC := Lib.hid (St.enter w)
  go_enter Tryz.func4, Tryz.ntmps4
  go_wp2_with fail
  refine (zparse_e (by omega) (zres_none (by rw [ba_len]; exact HS.out) HZ.out)).mono ?_
  rintro e w3 ⟨a3, n3, c3, m3, rfl, hz, hb⟩
  have hC3 := Lib.hid (((hC.out.call hb).pz hz).al w3.heap.size #[.slice a3 n3 c3, .bool m3] 28 rfl rfl)
  clear hz hb hC
  go_wp2_with fail
  refine (rparse_e (by omega) HQ.out).mono ?_
  rintro e w4 ⟨a4, n4, c4, m4, d4, e4, f4, rfl, hz, hb⟩
  have hC4 := Lib.hid (((hC3.out.call hb).pr hz).al w4.heap.size #[.slice a4 n4 c4, .bool m4, .slice d4 e4 f4] 48 rfl rfl)
  clear hz hb hC3
  go_upto_region 7 with fail
  refine wp_gen hC4.out ?_
  intro W30 hc
  clear hC4
  have hD30 : Hid (St w W30 [(w3.heap.size, #[.slice a3 n3 c3, .bool m3], 28), (w4.heap.size, #[.slice a4 n4 c4, .bool m4, .slice d4 e4 f4], 48)] [fun V => Zd V (.slice a3 n3 c3) m3 (0), fun V => Rd V (.slice a4 n4 c4) m4 (.slice d4 e4 f4) (q)]) := Lib.hid hc
  clear hc
  refine wp_region_held_drew (S := (fun w' => w'.cell? ⟨w3.heap.size, 0, none⟩ = some (.slice a3 n3 c3) ∧ w'.cell? ⟨w3.heap.size, 1, none⟩ = some (.bool m3) ∧ True)) (by kernel_rfl) ⟨hD30.out.drew.cell 0 0 rfl rfl, hD30.out.drew.cell 0 1 rfl rfl, trivial⟩ (fun hH => ?_)
  refine wpAnyH_gen (show St w _ [(w3.heap.size, #[.slice a3 n3 c3, .bool m3], 28), (w4.heap.size, #[.slice a4 n4 c4, .bool m4, .slice d4 e4 f4], 48)] [fun V => Zd V (.slice a3 n3 c3) m3 (0), fun V => Rd V (.slice a4 n4 c4) m4 (.slice d4 e4 f4) (q)] from hD30.out.drew) hH ?_
  intro V33_0 hc hH33_0
  have hV33_0 := Lib.hid hc
  clear hc hH hD30
  refine wpAnyH_take (i := 0) (oi := ⟨_, _, _, _, _, _⟩) (v := ?_) rfl (by kernel_rfl) (by kernel_rfl) (by kernel_rfl) (fun _ _ _ h => h) (Or.inl ⟨by rfl, ?_⟩) hH33_0 ?_
  rotate_left
  · intro wS hSw; (try dsimp only at hSw); go_simp; try with_reducible rfl
  try simp only [Act.put, List.setIfInBounds_toArray, List.set_cons_zero, List.set_cons_succ]
  refine wpAnyH_take (i := 2) (oi := ⟨_, _, _, _, _, _⟩) (v := ?_) rfl (by kernel_rfl) (by kernel_rfl) (by kernel_rfl) (fun _ _ _ h => h) (Or.inl ⟨by rfl, ?_⟩) hH33_0 ?_
  rotate_left
  · intro wS hSw; (try dsimp only at hSw); go_simp; try with_reducible rfl
  try simp only [Act.put, List.setIfInBounds_toArray, List.set_cons_zero, List.set_cons_succ]
  refine wpAnyH_take (i := 3) (oi := ⟨_, _, _, _, _, _⟩) (v := ?_) rfl (by kernel_rfl) (by kernel_rfl) (by kernel_rfl) (fun _ _ _ h => h) (Or.inl ⟨by rfl, ?_⟩) hH33_0 ?_
  rotate_left
  · intro wS hSw; (try dsimp only at hSw); go_simp; try with_reducible rfl
  try simp only [Act.put, List.setIfInBounds_toArray, List.set_cons_zero, List.set_cons_succ]
  refine wpAnyH_ready (rs := [1]) (by kernel_rfl) (by simp) ?_
  refine AllReadyH.cons (o := ⟨_, _, _, _, _, _⟩) rfl (fun Kq hKq => ?_) AllReadyH.nil
  go_simp
  go_at_call 24
  refine (isInt_is (o := false) HS.out (by rw [HZ.out]; rfl)).mono ?_
  rintro e w31 ⟨rfl, hb⟩
  (try go_wp2_with fail)
  refine stepH hKq (hV33_0.out.call hb) (fun _ hX => ⟨hX.cell 0 0 rfl rfl, hX.cell 0 1 rfl rfl, trivial⟩) ?_
  intro V33_1 hc hH33_1
  have hV33_1 := Lib.hid hc
  clear hc hKq Kq hV33_0 hb hH33_0
  try simp only [Act.put, List.setIfInBounds_toArray, List.set_cons_zero, List.set_cons_succ]
  refine wpAnyH_take (i := 4) (oi := ⟨_, _, _, _, _, _⟩) (v := ?_) rfl (by kernel_rfl) (by kernel_rfl) (by kernel_rfl) (fun _ _ _ h => h) (Or.inl ⟨by rfl, ?_⟩) hH33_1 ?_
  rotate_left
  · intro wS hSw; (try dsimp only at hSw); go_simp; try with_reducible rfl
  try simp only [Act.put, List.setIfInBounds_toArray, List.set_cons_zero, List.set_cons_succ]
  refine wpAnyH_take (i := 5) (oi := ⟨_, _, _, _, _, _⟩) (v := ?_) rfl (by kernel_rfl) (by kernel_rfl) (by kernel_rfl) (fun _ _ _ h => h) (Or.inl ⟨by rfl, ?_⟩) hH33_1 ?_
  rotate_left
  · intro wS hSw; (try dsimp only at hSw); go_simp; try with_reducible rfl
  try simp only [Act.put, List.setIfInBounds_toArray, List.set_cons_zero, List.set_cons_succ]
  refine wpAnyH_take (i := 6) (oi := ⟨_, _, _, _, _, _⟩) (v := ?_) rfl (by kernel_rfl) (by kernel_rfl) (by kernel_rfl) (fun _ _ _ h => h) (Or.inl ⟨by rfl, ?_⟩) hH33_1 ?_
  rotate_left
  · intro wS hSw; (try dsimp only at hSw); go_simp; try with_reducible rfl
  try simp only [Act.put, List.setIfInBounds_toArray, List.set_cons_zero, List.set_cons_succ]
  refine wpAnyH_take (i := 7) (oi := ⟨_, _, _, _, _, _⟩) (v := ?_) rfl (by kernel_rfl) (by kernel_rfl) (by kernel_rfl) (fun _ _ _ h => h) (Or.inl ⟨by rfl, ?_⟩) hH33_1 ?_
  rotate_left
  · intro wS hSw; (try dsimp only at hSw); go_simp; try with_reducible rfl
  try simp only [Act.put, List.setIfInBounds_toArray, List.set_cons_zero, List.set_cons_succ]
  refine wpAnyH_take (i := 8) (oi := ⟨_, _, _, _, _, _⟩) (v := ?_) rfl (by kernel_rfl) (by kernel_rfl) (by kernel_rfl) (fun _ _ _ h => h) (Or.inl ⟨by rfl, ?_⟩) hH33_1 ?_
  rotate_left
  · intro wS hSw; (try dsimp only at hSw); go_simp; try with_reducible rfl
  try simp only [Act.put, List.setIfInBounds_toArray, List.set_cons_zero, List.set_cons_succ]
  refine wpAnyH_take (i := 9) (oi := ⟨_, _, _, _, _, _⟩) (v := ?_) rfl (by kernel_rfl) (by kernel_rfl) (by kernel_rfl) (fun _ _ _ h => h) (Or.inl ⟨by rfl, ?_⟩) hH33_1 ?_
  rotate_left
  · intro wS hSw; (try dsimp only at hSw); go_simp; try with_reducible rfl
  try simp only [Act.put, List.setIfInBounds_toArray, List.set_cons_zero, List.set_cons_succ]
  refine wpAnyH_take (i := 10) (oi := ⟨_, _, _, _, _, _⟩) (v := ?_) rfl (by kernel_rfl) (by kernel_rfl) (by kernel_rfl) (fun _ _ _ h => h) (Or.inl ⟨by rfl, ?_⟩) hH33_1 ?_
  rotate_left
  · intro wS hSw; (try dsimp only at hSw); go_simp; try with_reducible rfl
  try simp only [Act.put, List.setIfInBounds_toArray, List.set_cons_zero, List.set_cons_succ]
  refine wpAnyH_take (i := 11) (oi := ⟨_, _, _, _, _, _⟩) (v := ?_) rfl (by kernel_rfl) (by kernel_rfl) (by kernel_rfl) (fun _ _ _ h => h) (Or.inl ⟨by rfl, ?_⟩) hH33_1 ?_
  rotate_left
  · intro wS hSw; (try dsimp only at hSw); go_simp; try with_reducible rfl
  try simp only [Act.put, List.setIfInBounds_toArray, List.set_cons_zero, List.set_cons_succ]
  refine wpAnyH_take (i := 12) (oi := ⟨_, _, _, _, _, _⟩) (v := ?_) rfl (by kernel_rfl) (by kernel_rfl) (by kernel_rfl) (fun _ _ _ h => h) (Or.inl ⟨by rfl, ?_⟩) hH33_1 ?_
  rotate_left
  · intro wS hSw; (try dsimp only at hSw); go_simp; try with_reducible rfl
  try simp only [Act.put, List.setIfInBounds_toArray, List.set_cons_zero, List.set_cons_succ]
  refine wpAnyH_ready (rs := [13]) (by kernel_rfl) (by simp) ?_
  refine AllReadyH.cons (o := ⟨_, _, _, _, _, _⟩) rfl (fun Kq hKq => ?_) AllReadyH.nil
  go_simp
  go_at_call 18
  refine (sign_is (hV33_1.out.z 0 rfl) (sgn_0 rfl)).mono ?_
  rintro e w32 ⟨rfl, hb⟩
  (try go_wp2_with fail)
  refine stepH hKq (hV33_1.out.call hb) (fun _ hX => ⟨hX.cell 0 0 rfl rfl, hX.cell 0 1 rfl rfl, trivial⟩) ?_
  intro V33_2 hc hH33_2
  have hV33_2 := Lib.hid hc
  clear hc hKq Kq hV33_1 hb hH33_1
  try simp only [Act.put, List.setIfInBounds_toArray, List.set_cons_zero, List.set_cons_succ]
  refine wpAnyH_take (i := 14) (oi := ⟨_, _, _, _, _, _⟩) (v := ?_) rfl (by kernel_rfl) (by kernel_rfl) (by kernel_rfl) (fun _ _ _ h => h) (Or.inl ⟨by rfl, ?_⟩) hH33_2 ?_
  rotate_left
  · intro wS hSw; (try dsimp only at hSw); go_simp; try with_reducible rfl
  try simp only [Act.put, List.setIfInBounds_toArray, List.set_cons_zero, List.set_cons_succ]
  refine wpAnyH_take (i := 15) (oi := ⟨_, _, _, _, _, _⟩) (v := ?_) rfl (by kernel_rfl) (by kernel_rfl) (by kernel_rfl) (fun _ _ _ h => h) (Or.inl ⟨by rfl, ?_⟩) hH33_2 ?_
  rotate_left
  · intro wS hSw; (try dsimp only at hSw); go_simp; try with_reducible rfl
  try simp only [Act.put, List.setIfInBounds_toArray, List.set_cons_zero, List.set_cons_succ]
  refine wpAnyH_take (i := 16) (oi := ⟨_, _, _, _, _, _⟩) (v := ?_) rfl (by kernel_rfl) (by kernel_rfl) (by kernel_rfl) (fun _ _ _ h => h) (Or.inl ⟨by rfl, ?_⟩) hH33_2 ?_
  rotate_left
  · intro wS hSw; (try dsimp only at hSw); go_simp; try with_reducible rfl
  try simp only [Act.put, List.setIfInBounds_toArray, List.set_cons_zero, List.set_cons_succ]
  refine wpAnyH_take (i := 17) (oi := ⟨_, _, _, _, _, _⟩) (v := ?_) rfl (by kernel_rfl) (by kernel_rfl) (by kernel_rfl) (fun _ _ _ h => h) (Or.inl ⟨by rfl, ?_⟩) hH33_2 ?_
  rotate_left
  · intro wS hSw; (try dsimp only at hSw); go_simp; try with_reducible rfl
  try simp only [Act.put, List.setIfInBounds_toArray, List.set_cons_zero, List.set_cons_succ]
  refine wpAnyH_take (i := 18) (oi := ⟨_, _, _, _, _, _⟩) (v := ?_) rfl (by kernel_rfl) (by kernel_rfl) (by kernel_rfl) (fun _ _ _ h => h) (Or.inl ⟨by rfl, ?_⟩) hH33_2 ?_
  rotate_left
  · intro wS hSw; (try dsimp only at hSw); go_simp; try with_reducible rfl
  try simp only [Act.put, List.setIfInBounds_toArray, List.set_cons_zero, List.set_cons_succ]
  refine wpAnyH_take (i := 19) (oi := ⟨_, _, _, _, _, _⟩) (v := ?_) rfl (by kernel_rfl) (by kernel_rfl) (by kernel_rfl) (fun _ _ _ h => h) (Or.inl ⟨by rfl, ?_⟩) hH33_2 ?_
  rotate_left
  · intro wS hSw; (try dsimp only at hSw); go_simp; try with_reducible rfl
  try simp only [Act.put, List.setIfInBounds_toArray, List.set_cons_zero, List.set_cons_succ]
  refine wpAnyH_take (i := 20) (oi := ⟨_, _, _, _, _, _⟩) (v := ?_) rfl (by kernel_rfl) (by kernel_rfl) (by kernel_rfl) (fun _ _ _ h => h) (Or.inl ⟨by rfl, ?_⟩) hH33_2 ?_
  rotate_left
  · intro wS hSw; (try dsimp only at hSw); go_simp; try with_reducible rfl
  try simp only [Act.put, List.setIfInBounds_toArray, List.set_cons_zero, List.set_cons_succ]
  refine wpAnyH_take (i := 21) (oi := ⟨_, _, _, _, _, _⟩) (v := ?_) rfl (by kernel_rfl) (by kernel_rfl) (by kernel_rfl) (fun _ _ _ h => h) (Or.inl ⟨by rfl, ?_⟩) hH33_2 ?_
  rotate_left
  · intro wS hSw; (try dsimp only at hSw); go_simp; try with_reducible rfl
  try simp only [Act.put, List.setIfInBounds_toArray, List.set_cons_zero, List.set_cons_succ]
  refine wpAnyH_take (i := 22) (oi := ⟨_, _, _, _, _, _⟩) (v := undef) rfl (by kernel_rfl) (by kernel_rfl) (by kernel_rfl) (fun _ _ _ h => h) (Or.inr ⟨by rfl, rfl⟩) hH33_2 ?_
  try simp only [Act.put, List.setIfInBounds_toArray, List.set_cons_zero, List.set_cons_succ]
  refine wpAnyH_take (i := 23) (oi := ⟨_, _, _, _, _, _⟩) (v := undef) rfl (by kernel_rfl) (by kernel_rfl) (by kernel_rfl) (fun _ _ _ h => h) (Or.inr ⟨by rfl, rfl⟩) hH33_2 ?_
  try simp only [Act.put, List.setIfInBounds_toArray, List.set_cons_zero, List.set_cons_succ]
  refine wpAnyH_take (i := 24) (oi := ⟨_, _, _, _, _, _⟩) (v := undef) rfl (by kernel_rfl) (by kernel_rfl) (by kernel_rfl) (fun _ _ _ h => h) (Or.inr ⟨by rfl, rfl⟩) hH33_2 ?_
  try simp only [Act.put, List.setIfInBounds_toArray, List.set_cons_zero, List.set_cons_succ]
  refine wpAnyH_take (i := 25) (oi := ⟨_, _, _, _, _, _⟩) (v := undef) rfl (by kernel_rfl) (by kernel_rfl) (by kernel_rfl) (fun _ _ _ h => h) (Or.inr ⟨by rfl, rfl⟩) hH33_2 ?_
  try simp only [Act.put, List.setIfInBounds_toArray, List.set_cons_zero, List.set_cons_succ]
  refine wpAnyH_take (i := 26) (oi := ⟨_, _, _, _, _, _⟩) (v := undef) rfl (by kernel_rfl) (by kernel_rfl) (by kernel_rfl) (fun _ _ _ h => h) (Or.inr ⟨by rfl, rfl⟩) hH33_2 ?_
  try simp only [Act.put, List.setIfInBounds_toArray, List.set_cons_zero, List.set_cons_succ]
  refine wpAnyH_take (i := 27) (oi := ⟨_, _, _, _, _, _⟩) (v := ?_) rfl (by kernel_rfl) (by kernel_rfl) (by kernel_rfl) (fun _ _ _ h => h) (Or.inl ⟨by rfl, ?_⟩) hH33_2 ?_
  rotate_left
  · intro wS hSw; (try dsimp only at hSw); go_simp; try with_reducible rfl
  try simp only [Act.put, List.setIfInBounds_toArray, List.set_cons_zero, List.set_cons_succ]
  refine wpAnyH_take (i := 28) (oi := ⟨_, _, _, _, _, _⟩) (v := ?_) rfl (by kernel_rfl) (by kernel_rfl) (by kernel_rfl) (fun _ _ _ h => h) (Or.inl ⟨by rfl, ?_⟩) hH33_2 ?_
  rotate_left
  · intro wS hSw; (try dsimp only at hSw); go_simp; try with_reducible rfl
  try simp only [Act.put, List.setIfInBounds_toArray, List.set_cons_zero, List.set_cons_succ]
  refine wpAnyH_done (by kernel_rfl) ?_ _
  go_wp2_with fail
  refine (parseN_e HS.out HQ.out (b := 0) rfl).mono ?_
  rintro e w58 ⟨s58, a58, n58, c58, t58, d58, e58, f58, rfl, hz, hb⟩
  have hC58 : Hid (St w _ [(w3.heap.size, #[.slice a3 n3 c3, .bool m3], 28), (w4.heap.size, #[.slice a4 n4 c4, .bool m4, .slice d4 e4 f4], 48), (w58.heap.size, #[.int .i64 s58, .slice a58 n58 c58, .int .i64 t58, .slice d58 e58 f58], 54)] [fun V => Zd V (.slice a3 n3 c3) m3 (0), fun V => Rd V (.slice a4 n4 c4) m4 (.slice d4 e4 f4) (q), fun V => Nq V s58 (.slice a58 n58 c58) t58 (.slice d58 e58 f58) (q)]) := Lib.hid (((hV33_2.out.call hb).pq hz).al w58.heap.size #[.int .i64 s58, .slice a58 n58 c58, .int .i64 t58, .slice d58 e58 f58] 54 rfl rfl)
  clear hz hb hV33_2
  have y10 := hC58.out.cell 1 0 rfl rfl
  have y11 := hC58.out.cell 1 1 rfl rfl
  have y12 := hC58.out.cell 1 2 rfl rfl
  have y20 := hC58.out.cell 2 0 rfl rfl
  have y21 := hC58.out.cell 2 1 rfl rfl
  have y22 := hC58.out.cell 2 2 rfl rfl
  have y23 := hC58.out.cell 2 3 rfl rfl
  go_wp2_with fail
  refine (same_b (hC58.out.r 1 rfl) (hC58.out.rq 2 rfl) HBQ.out (by omega)).mono ?_
  rintro e w60 ⟨rfl, hb⟩
  have hC60 : Hid (St w w60 [(w3.heap.size, #[.slice a3 n3 c3, .bool m3], 28), (w4.heap.size, #[.slice a4 n4 c4, .bool m4, .slice d4 e4 f4], 48), (w58.heap.size, #[.int .i64 s58, .slice a58 n58 c58, .int .i64 t58, .slice d58 e58 f58], 54)] [fun V => Zd V (.slice a3 n3 c3) m3 (0), fun V => Rd V (.slice a4 n4 c4) m4 (.slice d4 e4 f4) (q), fun V => Nq V s58 (.slice a58 n58 c58) t58 (.slice d58 e58 f58) (q)]) := Lib.hid (hC58.out.call hb)
  clear hb hC58
  clear y10 y11 y12 y20 y21 y22 y23
  go_wp2_with fail
  refine (awake_any _).mono ?_
  rintro e w61 ⟨rfl, hb⟩
  have hC61 : Hid (St w w61 [(w3.heap.size, #[.slice a3 n3 c3, .bool m3], 28), (w4.heap.size, #[.slice a4 n4 c4, .bool m4, .slice d4 e4 f4], 48), (w58.heap.size, #[.int .i64 s58, .slice a58 n58 c58, .int .i64 t58, .slice d58 e58 f58], 54)] [fun V => Zd V (.slice a3 n3 c3) m3 (0), fun V => Rd V (.slice a4 n4 c4) m4 (.slice d4 e4 f4) (q), fun V => Nq V s58 (.slice a58 n58 c58) t58 (.slice d58 e58 f58) (q)]) := Lib.hid (hC60.out.call hb)
  clear hb hC60
  go_wp2
  go_ret
  exact ⟨rfl, hC61.out.be⟩
set_option maxRecDepth 100000 in
set_option maxHeartbeats 8000000 in
theorem reads_n1 (S : ByteArray) (w : World) (hs : S.size ≤ 1000) (hz : Dec.zread S.data.toList = none) (hq : rparse S.data.toList = (0, 4)) : Calls Tryz.prog 4 #[.string S] w (fun e w' => e = .returned (.bool true) ∧ Below w.heap.size w w') := by
  have HZ := Lib.hid hz
  have HQ := Lib.hid hq
  have HS := Lib.hid hs
  have hs2 : S.size ≤ 2000 := by omega
  clear hz hq
  have hC := Lib.hid (St.enter w)
  go_enter Tryz.func4, Tryz.ntmps4
  go_wp2_with fail
  refine (zparse_e (by omega) (zres_none (by rw [ba_len]; exact HS.out) HZ.out)).mono ?_
  rintro e w3 ⟨a3, n3, c3, m3, rfl, hz, hb⟩
  have hC3 := Lib.hid (((hC.out.call hb).pz hz).al w3.heap.size #[.slice a3 n3 c3, .bool m3] 28 rfl rfl)
  clear hz hb hC
  go_wp2_with fail
  refine (rparse_e (by omega) HQ.out).mono ?_
  rintro e w4 ⟨a4, n4, c4, m4, d4, e4, f4, rfl, hz, hb⟩
  have hC4 := Lib.hid (((hC3.out.call hb).pr hz).al w4.heap.size #[.slice a4 n4 c4, .bool m4, .slice d4 e4 f4] 48 rfl rfl)
  clear hz hb hC3
  go_upto_region 7 with fail
  refine wp_gen hC4.out ?_
  intro W30 hc
  clear hC4
  have hD30 : Hid (St w W30 [(w3.heap.size, #[.slice a3 n3 c3, .bool m3], 28), (w4.heap.size, #[.slice a4 n4 c4, .bool m4, .slice d4 e4 f4], 48)] [fun V => Zd V (.slice a3 n3 c3) m3 (0), fun V => Rd V (.slice a4 n4 c4) m4 (.slice d4 e4 f4) (0)]) := Lib.hid hc
  clear hc
  refine wp_region_held_drew (S := (fun w' => w'.cell? ⟨w3.heap.size, 0, none⟩ = some (.slice a3 n3 c3) ∧ w'.cell? ⟨w3.heap.size, 1, none⟩ = some (.bool m3) ∧ True)) (by kernel_rfl) ⟨hD30.out.drew.cell 0 0 rfl rfl, hD30.out.drew.cell 0 1 rfl rfl, trivial⟩ (fun hH => ?_)
  refine wpAnyH_gen (show St w _ [(w3.heap.size, #[.slice a3 n3 c3, .bool m3], 28), (w4.heap.size, #[.slice a4 n4 c4, .bool m4, .slice d4 e4 f4], 48)] [fun V => Zd V (.slice a3 n3 c3) m3 (0), fun V => Rd V (.slice a4 n4 c4) m4 (.slice d4 e4 f4) (0)] from hD30.out.drew) hH ?_
  intro V33_0 hc hH33_0
  have hV33_0 := Lib.hid hc
  clear hc hH hD30
  refine wpAnyH_take (i := 0) (oi := ⟨_, _, _, _, _, _⟩) (v := ?_) rfl (by kernel_rfl) (by kernel_rfl) (by kernel_rfl) (fun _ _ _ h => h) (Or.inl ⟨by rfl, ?_⟩) hH33_0 ?_
  rotate_left
  · intro wS hSw; (try dsimp only at hSw); go_simp; try with_reducible rfl
  try simp only [Act.put, List.setIfInBounds_toArray, List.set_cons_zero, List.set_cons_succ]
  refine wpAnyH_take (i := 2) (oi := ⟨_, _, _, _, _, _⟩) (v := ?_) rfl (by kernel_rfl) (by kernel_rfl) (by kernel_rfl) (fun _ _ _ h => h) (Or.inl ⟨by rfl, ?_⟩) hH33_0 ?_
  rotate_left
  · intro wS hSw; (try dsimp only at hSw); go_simp; try with_reducible rfl
  try simp only [Act.put, List.setIfInBounds_toArray, List.set_cons_zero, List.set_cons_succ]
  refine wpAnyH_take (i := 3) (oi := ⟨_, _, _, _, _, _⟩) (v := ?_) rfl (by kernel_rfl) (by kernel_rfl) (by kernel_rfl) (fun _ _ _ h => h) (Or.inl ⟨by rfl, ?_⟩) hH33_0 ?_
  rotate_left
  · intro wS hSw; (try dsimp only at hSw); go_simp; try with_reducible rfl
  try simp only [Act.put, List.setIfInBounds_toArray, List.set_cons_zero, List.set_cons_succ]
  refine wpAnyH_ready (rs := [1]) (by kernel_rfl) (by simp) ?_
  refine AllReadyH.cons (o := ⟨_, _, _, _, _, _⟩) rfl (fun Kq hKq => ?_) AllReadyH.nil
  go_simp
  go_at_call 24
  refine (isInt_is (o := false) HS.out (by rw [HZ.out]; rfl)).mono ?_
  rintro e w31 ⟨rfl, hb⟩
  (try go_wp2_with fail)
  refine stepH hKq (hV33_0.out.call hb) (fun _ hX => ⟨hX.cell 0 0 rfl rfl, hX.cell 0 1 rfl rfl, trivial⟩) ?_
  intro V33_1 hc hH33_1
  have hV33_1 := Lib.hid hc
  clear hc hKq Kq hV33_0 hb hH33_0
  try simp only [Act.put, List.setIfInBounds_toArray, List.set_cons_zero, List.set_cons_succ]
  refine wpAnyH_take (i := 4) (oi := ⟨_, _, _, _, _, _⟩) (v := ?_) rfl (by kernel_rfl) (by kernel_rfl) (by kernel_rfl) (fun _ _ _ h => h) (Or.inl ⟨by rfl, ?_⟩) hH33_1 ?_
  rotate_left
  · intro wS hSw; (try dsimp only at hSw); go_simp; try with_reducible rfl
  try simp only [Act.put, List.setIfInBounds_toArray, List.set_cons_zero, List.set_cons_succ]
  refine wpAnyH_take (i := 5) (oi := ⟨_, _, _, _, _, _⟩) (v := ?_) rfl (by kernel_rfl) (by kernel_rfl) (by kernel_rfl) (fun _ _ _ h => h) (Or.inl ⟨by rfl, ?_⟩) hH33_1 ?_
  rotate_left
  · intro wS hSw; (try dsimp only at hSw); go_simp; try with_reducible rfl
  try simp only [Act.put, List.setIfInBounds_toArray, List.set_cons_zero, List.set_cons_succ]
  refine wpAnyH_take (i := 6) (oi := ⟨_, _, _, _, _, _⟩) (v := ?_) rfl (by kernel_rfl) (by kernel_rfl) (by kernel_rfl) (fun _ _ _ h => h) (Or.inl ⟨by rfl, ?_⟩) hH33_1 ?_
  rotate_left
  · intro wS hSw; (try dsimp only at hSw); go_simp; try with_reducible rfl
  try simp only [Act.put, List.setIfInBounds_toArray, List.set_cons_zero, List.set_cons_succ]
  refine wpAnyH_take (i := 7) (oi := ⟨_, _, _, _, _, _⟩) (v := ?_) rfl (by kernel_rfl) (by kernel_rfl) (by kernel_rfl) (fun _ _ _ h => h) (Or.inl ⟨by rfl, ?_⟩) hH33_1 ?_
  rotate_left
  · intro wS hSw; (try dsimp only at hSw); go_simp; try with_reducible rfl
  try simp only [Act.put, List.setIfInBounds_toArray, List.set_cons_zero, List.set_cons_succ]
  refine wpAnyH_take (i := 8) (oi := ⟨_, _, _, _, _, _⟩) (v := ?_) rfl (by kernel_rfl) (by kernel_rfl) (by kernel_rfl) (fun _ _ _ h => h) (Or.inl ⟨by rfl, ?_⟩) hH33_1 ?_
  rotate_left
  · intro wS hSw; (try dsimp only at hSw); go_simp; try with_reducible rfl
  try simp only [Act.put, List.setIfInBounds_toArray, List.set_cons_zero, List.set_cons_succ]
  refine wpAnyH_take (i := 9) (oi := ⟨_, _, _, _, _, _⟩) (v := ?_) rfl (by kernel_rfl) (by kernel_rfl) (by kernel_rfl) (fun _ _ _ h => h) (Or.inl ⟨by rfl, ?_⟩) hH33_1 ?_
  rotate_left
  · intro wS hSw; (try dsimp only at hSw); go_simp; try with_reducible rfl
  try simp only [Act.put, List.setIfInBounds_toArray, List.set_cons_zero, List.set_cons_succ]
  refine wpAnyH_take (i := 10) (oi := ⟨_, _, _, _, _, _⟩) (v := ?_) rfl (by kernel_rfl) (by kernel_rfl) (by kernel_rfl) (fun _ _ _ h => h) (Or.inl ⟨by rfl, ?_⟩) hH33_1 ?_
  rotate_left
  · intro wS hSw; (try dsimp only at hSw); go_simp; try with_reducible rfl
  try simp only [Act.put, List.setIfInBounds_toArray, List.set_cons_zero, List.set_cons_succ]
  refine wpAnyH_take (i := 11) (oi := ⟨_, _, _, _, _, _⟩) (v := ?_) rfl (by kernel_rfl) (by kernel_rfl) (by kernel_rfl) (fun _ _ _ h => h) (Or.inl ⟨by rfl, ?_⟩) hH33_1 ?_
  rotate_left
  · intro wS hSw; (try dsimp only at hSw); go_simp; try with_reducible rfl
  try simp only [Act.put, List.setIfInBounds_toArray, List.set_cons_zero, List.set_cons_succ]
  refine wpAnyH_take (i := 12) (oi := ⟨_, _, _, _, _, _⟩) (v := ?_) rfl (by kernel_rfl) (by kernel_rfl) (by kernel_rfl) (fun _ _ _ h => h) (Or.inl ⟨by rfl, ?_⟩) hH33_1 ?_
  rotate_left
  · intro wS hSw; (try dsimp only at hSw); go_simp; try with_reducible rfl
  try simp only [Act.put, List.setIfInBounds_toArray, List.set_cons_zero, List.set_cons_succ]
  refine wpAnyH_ready (rs := [13]) (by kernel_rfl) (by simp) ?_
  refine AllReadyH.cons (o := ⟨_, _, _, _, _, _⟩) rfl (fun Kq hKq => ?_) AllReadyH.nil
  go_simp
  go_at_call 18
  refine (sign_is (hV33_1.out.z 0 rfl) (sgn_0 rfl)).mono ?_
  rintro e w32 ⟨rfl, hb⟩
  (try go_wp2_with fail)
  refine stepH hKq (hV33_1.out.call hb) (fun _ hX => ⟨hX.cell 0 0 rfl rfl, hX.cell 0 1 rfl rfl, trivial⟩) ?_
  intro V33_2 hc hH33_2
  have hV33_2 := Lib.hid hc
  clear hc hKq Kq hV33_1 hb hH33_1
  try simp only [Act.put, List.setIfInBounds_toArray, List.set_cons_zero, List.set_cons_succ]
  refine wpAnyH_take (i := 14) (oi := ⟨_, _, _, _, _, _⟩) (v := ?_) rfl (by kernel_rfl) (by kernel_rfl) (by kernel_rfl) (fun _ _ _ h => h) (Or.inl ⟨by rfl, ?_⟩) hH33_2 ?_
  rotate_left
  · intro wS hSw; (try dsimp only at hSw); go_simp; try with_reducible rfl
  try simp only [Act.put, List.setIfInBounds_toArray, List.set_cons_zero, List.set_cons_succ]
  refine wpAnyH_take (i := 15) (oi := ⟨_, _, _, _, _, _⟩) (v := ?_) rfl (by kernel_rfl) (by kernel_rfl) (by kernel_rfl) (fun _ _ _ h => h) (Or.inl ⟨by rfl, ?_⟩) hH33_2 ?_
  rotate_left
  · intro wS hSw; (try dsimp only at hSw); go_simp; try with_reducible rfl
  try simp only [Act.put, List.setIfInBounds_toArray, List.set_cons_zero, List.set_cons_succ]
  refine wpAnyH_take (i := 16) (oi := ⟨_, _, _, _, _, _⟩) (v := ?_) rfl (by kernel_rfl) (by kernel_rfl) (by kernel_rfl) (fun _ _ _ h => h) (Or.inl ⟨by rfl, ?_⟩) hH33_2 ?_
  rotate_left
  · intro wS hSw; (try dsimp only at hSw); go_simp; try with_reducible rfl
  try simp only [Act.put, List.setIfInBounds_toArray, List.set_cons_zero, List.set_cons_succ]
  refine wpAnyH_take (i := 17) (oi := ⟨_, _, _, _, _, _⟩) (v := ?_) rfl (by kernel_rfl) (by kernel_rfl) (by kernel_rfl) (fun _ _ _ h => h) (Or.inl ⟨by rfl, ?_⟩) hH33_2 ?_
  rotate_left
  · intro wS hSw; (try dsimp only at hSw); go_simp; try with_reducible rfl
  try simp only [Act.put, List.setIfInBounds_toArray, List.set_cons_zero, List.set_cons_succ]
  refine wpAnyH_take (i := 18) (oi := ⟨_, _, _, _, _, _⟩) (v := ?_) rfl (by kernel_rfl) (by kernel_rfl) (by kernel_rfl) (fun _ _ _ h => h) (Or.inl ⟨by rfl, ?_⟩) hH33_2 ?_
  rotate_left
  · intro wS hSw; (try dsimp only at hSw); go_simp; try with_reducible rfl
  try simp only [Act.put, List.setIfInBounds_toArray, List.set_cons_zero, List.set_cons_succ]
  refine wpAnyH_take (i := 19) (oi := ⟨_, _, _, _, _, _⟩) (v := ?_) rfl (by kernel_rfl) (by kernel_rfl) (by kernel_rfl) (fun _ _ _ h => h) (Or.inl ⟨by rfl, ?_⟩) hH33_2 ?_
  rotate_left
  · intro wS hSw; (try dsimp only at hSw); go_simp; try with_reducible rfl
  try simp only [Act.put, List.setIfInBounds_toArray, List.set_cons_zero, List.set_cons_succ]
  refine wpAnyH_take (i := 20) (oi := ⟨_, _, _, _, _, _⟩) (v := ?_) rfl (by kernel_rfl) (by kernel_rfl) (by kernel_rfl) (fun _ _ _ h => h) (Or.inl ⟨by rfl, ?_⟩) hH33_2 ?_
  rotate_left
  · intro wS hSw; (try dsimp only at hSw); go_simp; try with_reducible rfl
  try simp only [Act.put, List.setIfInBounds_toArray, List.set_cons_zero, List.set_cons_succ]
  refine wpAnyH_take (i := 21) (oi := ⟨_, _, _, _, _, _⟩) (v := ?_) rfl (by kernel_rfl) (by kernel_rfl) (by kernel_rfl) (fun _ _ _ h => h) (Or.inl ⟨by rfl, ?_⟩) hH33_2 ?_
  rotate_left
  · intro wS hSw; (try dsimp only at hSw); go_simp; try with_reducible rfl
  try simp only [Act.put, List.setIfInBounds_toArray, List.set_cons_zero, List.set_cons_succ]
  refine wpAnyH_take (i := 22) (oi := ⟨_, _, _, _, _, _⟩) (v := undef) rfl (by kernel_rfl) (by kernel_rfl) (by kernel_rfl) (fun _ _ _ h => h) (Or.inr ⟨by rfl, rfl⟩) hH33_2 ?_
  try simp only [Act.put, List.setIfInBounds_toArray, List.set_cons_zero, List.set_cons_succ]
  refine wpAnyH_take (i := 23) (oi := ⟨_, _, _, _, _, _⟩) (v := undef) rfl (by kernel_rfl) (by kernel_rfl) (by kernel_rfl) (fun _ _ _ h => h) (Or.inr ⟨by rfl, rfl⟩) hH33_2 ?_
  try simp only [Act.put, List.setIfInBounds_toArray, List.set_cons_zero, List.set_cons_succ]
  refine wpAnyH_take (i := 24) (oi := ⟨_, _, _, _, _, _⟩) (v := undef) rfl (by kernel_rfl) (by kernel_rfl) (by kernel_rfl) (fun _ _ _ h => h) (Or.inr ⟨by rfl, rfl⟩) hH33_2 ?_
  try simp only [Act.put, List.setIfInBounds_toArray, List.set_cons_zero, List.set_cons_succ]
  refine wpAnyH_take (i := 25) (oi := ⟨_, _, _, _, _, _⟩) (v := undef) rfl (by kernel_rfl) (by kernel_rfl) (by kernel_rfl) (fun _ _ _ h => h) (Or.inr ⟨by rfl, rfl⟩) hH33_2 ?_
  try simp only [Act.put, List.setIfInBounds_toArray, List.set_cons_zero, List.set_cons_succ]
  refine wpAnyH_take (i := 26) (oi := ⟨_, _, _, _, _, _⟩) (v := undef) rfl (by kernel_rfl) (by kernel_rfl) (by kernel_rfl) (fun _ _ _ h => h) (Or.inr ⟨by rfl, rfl⟩) hH33_2 ?_
  try simp only [Act.put, List.setIfInBounds_toArray, List.set_cons_zero, List.set_cons_succ]
  refine wpAnyH_take (i := 27) (oi := ⟨_, _, _, _, _, _⟩) (v := ?_) rfl (by kernel_rfl) (by kernel_rfl) (by kernel_rfl) (fun _ _ _ h => h) (Or.inl ⟨by rfl, ?_⟩) hH33_2 ?_
  rotate_left
  · intro wS hSw; (try dsimp only at hSw); go_simp; try with_reducible rfl
  try simp only [Act.put, List.setIfInBounds_toArray, List.set_cons_zero, List.set_cons_succ]
  refine wpAnyH_take (i := 28) (oi := ⟨_, _, _, _, _, _⟩) (v := ?_) rfl (by kernel_rfl) (by kernel_rfl) (by kernel_rfl) (fun _ _ _ h => h) (Or.inl ⟨by rfl, ?_⟩) hH33_2 ?_
  rotate_left
  · intro wS hSw; (try dsimp only at hSw); go_simp; try with_reducible rfl
  try simp only [Act.put, List.setIfInBounds_toArray, List.set_cons_zero, List.set_cons_succ]
  refine wpAnyH_done (by kernel_rfl) ?_ _
  go_wp2_with fail
  refine (parseN_e HS.out HQ.out (b := 1) rfl).mono ?_
  rintro e w58 ⟨s58, a58, n58, c58, t58, d58, e58, f58, rfl, hz, hb⟩
  have hC58 : Hid (St w _ [(w3.heap.size, #[.slice a3 n3 c3, .bool m3], 28), (w4.heap.size, #[.slice a4 n4 c4, .bool m4, .slice d4 e4 f4], 48), (w58.heap.size, #[.int .i64 s58, .slice a58 n58 c58, .int .i64 t58, .slice d58 e58 f58], 54)] [fun V => Zd V (.slice a3 n3 c3) m3 (0), fun V => Rd V (.slice a4 n4 c4) m4 (.slice d4 e4 f4) (0), fun V => Nq V s58 (.slice a58 n58 c58) t58 (.slice d58 e58 f58) (0)]) := Lib.hid (((hV33_2.out.call hb).pq hz).al w58.heap.size #[.int .i64 s58, .slice a58 n58 c58, .int .i64 t58, .slice d58 e58 f58] 54 rfl rfl)
  clear hz hb hV33_2
  have hR := Lib.hid (hC58.out.row (o := .cells #[.int .i64 0, .int .i64 4, .int .i64 9] 37))
  clear hC58
  have y10 := hR.out.cell 1 0 rfl rfl
  have y11 := hR.out.cell 1 1 rfl rfl
  have y12 := hR.out.cell 1 2 rfl rfl
  go_wp2_with fail
  refine (rsign_is (hR.out.r 1 rfl) (sgnQ_0 rfl)).mono ?_
  rintro e w61 ⟨rfl, hb⟩
  have hC61 : Hid (St w _ [(w3.heap.size, #[.slice a3 n3 c3, .bool m3], 28), (w4.heap.size, #[.slice a4 n4 c4, .bool m4, .slice d4 e4 f4], 48), (w58.heap.size, #[.int .i64 s58, .slice a58 n58 c58, .int .i64 t58, .slice d58 e58 f58], 54)] [fun V => Zd V (.slice a3 n3 c3) m3 (0), fun V => Rd V (.slice a4 n4 c4) m4 (.slice d4 e4 f4) (0), fun V => Nq V s58 (.slice a58 n58 c58) t58 (.slice d58 e58 f58) (0)]) := Lib.hid (hR.out.call hb)
  clear hb hR
  clear y10 y11 y12
  go_wp2_with fail
  refine (awake_any _).mono ?_
  rintro e w62 ⟨rfl, hb⟩
  have hC62 : Hid (St w w62 [(w3.heap.size, #[.slice a3 n3 c3, .bool m3], 28), (w4.heap.size, #[.slice a4 n4 c4, .bool m4, .slice d4 e4 f4], 48), (w58.heap.size, #[.int .i64 s58, .slice a58 n58 c58, .int .i64 t58, .slice d58 e58 f58], 54)] [fun V => Zd V (.slice a3 n3 c3) m3 (0), fun V => Rd V (.slice a4 n4 c4) m4 (.slice d4 e4 f4) (0), fun V => Nq V s58 (.slice a58 n58 c58) t58 (.slice d58 e58 f58) (0)]) := Lib.hid (hC61.out.call hb)
  clear hb hC61
  go_wp2
  go_ret
  exact ⟨rfl, hC62.out.be⟩
set_option maxRecDepth 100000 in
set_option maxHeartbeats 8000000 in
theorem reads_n2 (S : ByteArray) (w : World) (hs : S.size ≤ 1000) (hz : Dec.zread S.data.toList = none) (hq : rparse S.data.toList = (0, 9)) : Calls Tryz.prog 4 #[.string S] w (fun e w' => e = .returned (.bool true) ∧ Below w.heap.size w w') := by
  have HZ := Lib.hid hz
  have HQ := Lib.hid hq
  have HS := Lib.hid hs
  have hs2 : S.size ≤ 2000 := by omega
  clear hz hq
  have hC := Lib.hid (St.enter w)
  go_enter Tryz.func4, Tryz.ntmps4
  go_wp2_with fail
  refine (zparse_e (by omega) (zres_none (by rw [ba_len]; exact HS.out) HZ.out)).mono ?_
  rintro e w3 ⟨a3, n3, c3, m3, rfl, hz, hb⟩
  have hC3 := Lib.hid (((hC.out.call hb).pz hz).al w3.heap.size #[.slice a3 n3 c3, .bool m3] 28 rfl rfl)
  clear hz hb hC
  go_wp2_with fail
  refine (rparse_e (by omega) HQ.out).mono ?_
  rintro e w4 ⟨a4, n4, c4, m4, d4, e4, f4, rfl, hz, hb⟩
  have hC4 := Lib.hid (((hC3.out.call hb).pr hz).al w4.heap.size #[.slice a4 n4 c4, .bool m4, .slice d4 e4 f4] 48 rfl rfl)
  clear hz hb hC3
  go_upto_region 7 with fail
  refine wp_gen hC4.out ?_
  intro W30 hc
  clear hC4
  have hD30 : Hid (St w W30 [(w3.heap.size, #[.slice a3 n3 c3, .bool m3], 28), (w4.heap.size, #[.slice a4 n4 c4, .bool m4, .slice d4 e4 f4], 48)] [fun V => Zd V (.slice a3 n3 c3) m3 (0), fun V => Rd V (.slice a4 n4 c4) m4 (.slice d4 e4 f4) (0)]) := Lib.hid hc
  clear hc
  refine wp_region_held_drew (S := (fun w' => w'.cell? ⟨w3.heap.size, 0, none⟩ = some (.slice a3 n3 c3) ∧ w'.cell? ⟨w3.heap.size, 1, none⟩ = some (.bool m3) ∧ True)) (by kernel_rfl) ⟨hD30.out.drew.cell 0 0 rfl rfl, hD30.out.drew.cell 0 1 rfl rfl, trivial⟩ (fun hH => ?_)
  refine wpAnyH_gen (show St w _ [(w3.heap.size, #[.slice a3 n3 c3, .bool m3], 28), (w4.heap.size, #[.slice a4 n4 c4, .bool m4, .slice d4 e4 f4], 48)] [fun V => Zd V (.slice a3 n3 c3) m3 (0), fun V => Rd V (.slice a4 n4 c4) m4 (.slice d4 e4 f4) (0)] from hD30.out.drew) hH ?_
  intro V33_0 hc hH33_0
  have hV33_0 := Lib.hid hc
  clear hc hH hD30
  refine wpAnyH_take (i := 0) (oi := ⟨_, _, _, _, _, _⟩) (v := ?_) rfl (by kernel_rfl) (by kernel_rfl) (by kernel_rfl) (fun _ _ _ h => h) (Or.inl ⟨by rfl, ?_⟩) hH33_0 ?_
  rotate_left
  · intro wS hSw; (try dsimp only at hSw); go_simp; try with_reducible rfl
  try simp only [Act.put, List.setIfInBounds_toArray, List.set_cons_zero, List.set_cons_succ]
  refine wpAnyH_take (i := 2) (oi := ⟨_, _, _, _, _, _⟩) (v := ?_) rfl (by kernel_rfl) (by kernel_rfl) (by kernel_rfl) (fun _ _ _ h => h) (Or.inl ⟨by rfl, ?_⟩) hH33_0 ?_
  rotate_left
  · intro wS hSw; (try dsimp only at hSw); go_simp; try with_reducible rfl
  try simp only [Act.put, List.setIfInBounds_toArray, List.set_cons_zero, List.set_cons_succ]
  refine wpAnyH_take (i := 3) (oi := ⟨_, _, _, _, _, _⟩) (v := ?_) rfl (by kernel_rfl) (by kernel_rfl) (by kernel_rfl) (fun _ _ _ h => h) (Or.inl ⟨by rfl, ?_⟩) hH33_0 ?_
  rotate_left
  · intro wS hSw; (try dsimp only at hSw); go_simp; try with_reducible rfl
  try simp only [Act.put, List.setIfInBounds_toArray, List.set_cons_zero, List.set_cons_succ]
  refine wpAnyH_ready (rs := [1]) (by kernel_rfl) (by simp) ?_
  refine AllReadyH.cons (o := ⟨_, _, _, _, _, _⟩) rfl (fun Kq hKq => ?_) AllReadyH.nil
  go_simp
  go_at_call 24
  refine (isInt_is (o := false) HS.out (by rw [HZ.out]; rfl)).mono ?_
  rintro e w31 ⟨rfl, hb⟩
  (try go_wp2_with fail)
  refine stepH hKq (hV33_0.out.call hb) (fun _ hX => ⟨hX.cell 0 0 rfl rfl, hX.cell 0 1 rfl rfl, trivial⟩) ?_
  intro V33_1 hc hH33_1
  have hV33_1 := Lib.hid hc
  clear hc hKq Kq hV33_0 hb hH33_0
  try simp only [Act.put, List.setIfInBounds_toArray, List.set_cons_zero, List.set_cons_succ]
  refine wpAnyH_take (i := 4) (oi := ⟨_, _, _, _, _, _⟩) (v := ?_) rfl (by kernel_rfl) (by kernel_rfl) (by kernel_rfl) (fun _ _ _ h => h) (Or.inl ⟨by rfl, ?_⟩) hH33_1 ?_
  rotate_left
  · intro wS hSw; (try dsimp only at hSw); go_simp; try with_reducible rfl
  try simp only [Act.put, List.setIfInBounds_toArray, List.set_cons_zero, List.set_cons_succ]
  refine wpAnyH_take (i := 5) (oi := ⟨_, _, _, _, _, _⟩) (v := ?_) rfl (by kernel_rfl) (by kernel_rfl) (by kernel_rfl) (fun _ _ _ h => h) (Or.inl ⟨by rfl, ?_⟩) hH33_1 ?_
  rotate_left
  · intro wS hSw; (try dsimp only at hSw); go_simp; try with_reducible rfl
  try simp only [Act.put, List.setIfInBounds_toArray, List.set_cons_zero, List.set_cons_succ]
  refine wpAnyH_take (i := 6) (oi := ⟨_, _, _, _, _, _⟩) (v := ?_) rfl (by kernel_rfl) (by kernel_rfl) (by kernel_rfl) (fun _ _ _ h => h) (Or.inl ⟨by rfl, ?_⟩) hH33_1 ?_
  rotate_left
  · intro wS hSw; (try dsimp only at hSw); go_simp; try with_reducible rfl
  try simp only [Act.put, List.setIfInBounds_toArray, List.set_cons_zero, List.set_cons_succ]
  refine wpAnyH_take (i := 7) (oi := ⟨_, _, _, _, _, _⟩) (v := ?_) rfl (by kernel_rfl) (by kernel_rfl) (by kernel_rfl) (fun _ _ _ h => h) (Or.inl ⟨by rfl, ?_⟩) hH33_1 ?_
  rotate_left
  · intro wS hSw; (try dsimp only at hSw); go_simp; try with_reducible rfl
  try simp only [Act.put, List.setIfInBounds_toArray, List.set_cons_zero, List.set_cons_succ]
  refine wpAnyH_take (i := 8) (oi := ⟨_, _, _, _, _, _⟩) (v := ?_) rfl (by kernel_rfl) (by kernel_rfl) (by kernel_rfl) (fun _ _ _ h => h) (Or.inl ⟨by rfl, ?_⟩) hH33_1 ?_
  rotate_left
  · intro wS hSw; (try dsimp only at hSw); go_simp; try with_reducible rfl
  try simp only [Act.put, List.setIfInBounds_toArray, List.set_cons_zero, List.set_cons_succ]
  refine wpAnyH_take (i := 9) (oi := ⟨_, _, _, _, _, _⟩) (v := ?_) rfl (by kernel_rfl) (by kernel_rfl) (by kernel_rfl) (fun _ _ _ h => h) (Or.inl ⟨by rfl, ?_⟩) hH33_1 ?_
  rotate_left
  · intro wS hSw; (try dsimp only at hSw); go_simp; try with_reducible rfl
  try simp only [Act.put, List.setIfInBounds_toArray, List.set_cons_zero, List.set_cons_succ]
  refine wpAnyH_take (i := 10) (oi := ⟨_, _, _, _, _, _⟩) (v := ?_) rfl (by kernel_rfl) (by kernel_rfl) (by kernel_rfl) (fun _ _ _ h => h) (Or.inl ⟨by rfl, ?_⟩) hH33_1 ?_
  rotate_left
  · intro wS hSw; (try dsimp only at hSw); go_simp; try with_reducible rfl
  try simp only [Act.put, List.setIfInBounds_toArray, List.set_cons_zero, List.set_cons_succ]
  refine wpAnyH_take (i := 11) (oi := ⟨_, _, _, _, _, _⟩) (v := ?_) rfl (by kernel_rfl) (by kernel_rfl) (by kernel_rfl) (fun _ _ _ h => h) (Or.inl ⟨by rfl, ?_⟩) hH33_1 ?_
  rotate_left
  · intro wS hSw; (try dsimp only at hSw); go_simp; try with_reducible rfl
  try simp only [Act.put, List.setIfInBounds_toArray, List.set_cons_zero, List.set_cons_succ]
  refine wpAnyH_take (i := 12) (oi := ⟨_, _, _, _, _, _⟩) (v := ?_) rfl (by kernel_rfl) (by kernel_rfl) (by kernel_rfl) (fun _ _ _ h => h) (Or.inl ⟨by rfl, ?_⟩) hH33_1 ?_
  rotate_left
  · intro wS hSw; (try dsimp only at hSw); go_simp; try with_reducible rfl
  try simp only [Act.put, List.setIfInBounds_toArray, List.set_cons_zero, List.set_cons_succ]
  refine wpAnyH_ready (rs := [13]) (by kernel_rfl) (by simp) ?_
  refine AllReadyH.cons (o := ⟨_, _, _, _, _, _⟩) rfl (fun Kq hKq => ?_) AllReadyH.nil
  go_simp
  go_at_call 18
  refine (sign_is (hV33_1.out.z 0 rfl) (sgn_0 rfl)).mono ?_
  rintro e w32 ⟨rfl, hb⟩
  (try go_wp2_with fail)
  refine stepH hKq (hV33_1.out.call hb) (fun _ hX => ⟨hX.cell 0 0 rfl rfl, hX.cell 0 1 rfl rfl, trivial⟩) ?_
  intro V33_2 hc hH33_2
  have hV33_2 := Lib.hid hc
  clear hc hKq Kq hV33_1 hb hH33_1
  try simp only [Act.put, List.setIfInBounds_toArray, List.set_cons_zero, List.set_cons_succ]
  refine wpAnyH_take (i := 14) (oi := ⟨_, _, _, _, _, _⟩) (v := ?_) rfl (by kernel_rfl) (by kernel_rfl) (by kernel_rfl) (fun _ _ _ h => h) (Or.inl ⟨by rfl, ?_⟩) hH33_2 ?_
  rotate_left
  · intro wS hSw; (try dsimp only at hSw); go_simp; try with_reducible rfl
  try simp only [Act.put, List.setIfInBounds_toArray, List.set_cons_zero, List.set_cons_succ]
  refine wpAnyH_take (i := 15) (oi := ⟨_, _, _, _, _, _⟩) (v := ?_) rfl (by kernel_rfl) (by kernel_rfl) (by kernel_rfl) (fun _ _ _ h => h) (Or.inl ⟨by rfl, ?_⟩) hH33_2 ?_
  rotate_left
  · intro wS hSw; (try dsimp only at hSw); go_simp; try with_reducible rfl
  try simp only [Act.put, List.setIfInBounds_toArray, List.set_cons_zero, List.set_cons_succ]
  refine wpAnyH_take (i := 16) (oi := ⟨_, _, _, _, _, _⟩) (v := ?_) rfl (by kernel_rfl) (by kernel_rfl) (by kernel_rfl) (fun _ _ _ h => h) (Or.inl ⟨by rfl, ?_⟩) hH33_2 ?_
  rotate_left
  · intro wS hSw; (try dsimp only at hSw); go_simp; try with_reducible rfl
  try simp only [Act.put, List.setIfInBounds_toArray, List.set_cons_zero, List.set_cons_succ]
  refine wpAnyH_take (i := 17) (oi := ⟨_, _, _, _, _, _⟩) (v := ?_) rfl (by kernel_rfl) (by kernel_rfl) (by kernel_rfl) (fun _ _ _ h => h) (Or.inl ⟨by rfl, ?_⟩) hH33_2 ?_
  rotate_left
  · intro wS hSw; (try dsimp only at hSw); go_simp; try with_reducible rfl
  try simp only [Act.put, List.setIfInBounds_toArray, List.set_cons_zero, List.set_cons_succ]
  refine wpAnyH_take (i := 18) (oi := ⟨_, _, _, _, _, _⟩) (v := ?_) rfl (by kernel_rfl) (by kernel_rfl) (by kernel_rfl) (fun _ _ _ h => h) (Or.inl ⟨by rfl, ?_⟩) hH33_2 ?_
  rotate_left
  · intro wS hSw; (try dsimp only at hSw); go_simp; try with_reducible rfl
  try simp only [Act.put, List.setIfInBounds_toArray, List.set_cons_zero, List.set_cons_succ]
  refine wpAnyH_take (i := 19) (oi := ⟨_, _, _, _, _, _⟩) (v := ?_) rfl (by kernel_rfl) (by kernel_rfl) (by kernel_rfl) (fun _ _ _ h => h) (Or.inl ⟨by rfl, ?_⟩) hH33_2 ?_
  rotate_left
  · intro wS hSw; (try dsimp only at hSw); go_simp; try with_reducible rfl
  try simp only [Act.put, List.setIfInBounds_toArray, List.set_cons_zero, List.set_cons_succ]
  refine wpAnyH_take (i := 20) (oi := ⟨_, _, _, _, _, _⟩) (v := ?_) rfl (by kernel_rfl) (by kernel_rfl) (by kernel_rfl) (fun _ _ _ h => h) (Or.inl ⟨by rfl, ?_⟩) hH33_2 ?_
  rotate_left
  · intro wS hSw; (try dsimp only at hSw); go_simp; try with_reducible rfl
  try simp only [Act.put, List.setIfInBounds_toArray, List.set_cons_zero, List.set_cons_succ]
  refine wpAnyH_take (i := 21) (oi := ⟨_, _, _, _, _, _⟩) (v := ?_) rfl (by kernel_rfl) (by kernel_rfl) (by kernel_rfl) (fun _ _ _ h => h) (Or.inl ⟨by rfl, ?_⟩) hH33_2 ?_
  rotate_left
  · intro wS hSw; (try dsimp only at hSw); go_simp; try with_reducible rfl
  try simp only [Act.put, List.setIfInBounds_toArray, List.set_cons_zero, List.set_cons_succ]
  refine wpAnyH_take (i := 22) (oi := ⟨_, _, _, _, _, _⟩) (v := undef) rfl (by kernel_rfl) (by kernel_rfl) (by kernel_rfl) (fun _ _ _ h => h) (Or.inr ⟨by rfl, rfl⟩) hH33_2 ?_
  try simp only [Act.put, List.setIfInBounds_toArray, List.set_cons_zero, List.set_cons_succ]
  refine wpAnyH_take (i := 23) (oi := ⟨_, _, _, _, _, _⟩) (v := undef) rfl (by kernel_rfl) (by kernel_rfl) (by kernel_rfl) (fun _ _ _ h => h) (Or.inr ⟨by rfl, rfl⟩) hH33_2 ?_
  try simp only [Act.put, List.setIfInBounds_toArray, List.set_cons_zero, List.set_cons_succ]
  refine wpAnyH_take (i := 24) (oi := ⟨_, _, _, _, _, _⟩) (v := undef) rfl (by kernel_rfl) (by kernel_rfl) (by kernel_rfl) (fun _ _ _ h => h) (Or.inr ⟨by rfl, rfl⟩) hH33_2 ?_
  try simp only [Act.put, List.setIfInBounds_toArray, List.set_cons_zero, List.set_cons_succ]
  refine wpAnyH_take (i := 25) (oi := ⟨_, _, _, _, _, _⟩) (v := undef) rfl (by kernel_rfl) (by kernel_rfl) (by kernel_rfl) (fun _ _ _ h => h) (Or.inr ⟨by rfl, rfl⟩) hH33_2 ?_
  try simp only [Act.put, List.setIfInBounds_toArray, List.set_cons_zero, List.set_cons_succ]
  refine wpAnyH_take (i := 26) (oi := ⟨_, _, _, _, _, _⟩) (v := undef) rfl (by kernel_rfl) (by kernel_rfl) (by kernel_rfl) (fun _ _ _ h => h) (Or.inr ⟨by rfl, rfl⟩) hH33_2 ?_
  try simp only [Act.put, List.setIfInBounds_toArray, List.set_cons_zero, List.set_cons_succ]
  refine wpAnyH_take (i := 27) (oi := ⟨_, _, _, _, _, _⟩) (v := ?_) rfl (by kernel_rfl) (by kernel_rfl) (by kernel_rfl) (fun _ _ _ h => h) (Or.inl ⟨by rfl, ?_⟩) hH33_2 ?_
  rotate_left
  · intro wS hSw; (try dsimp only at hSw); go_simp; try with_reducible rfl
  try simp only [Act.put, List.setIfInBounds_toArray, List.set_cons_zero, List.set_cons_succ]
  refine wpAnyH_take (i := 28) (oi := ⟨_, _, _, _, _, _⟩) (v := ?_) rfl (by kernel_rfl) (by kernel_rfl) (by kernel_rfl) (fun _ _ _ h => h) (Or.inl ⟨by rfl, ?_⟩) hH33_2 ?_
  rotate_left
  · intro wS hSw; (try dsimp only at hSw); go_simp; try with_reducible rfl
  try simp only [Act.put, List.setIfInBounds_toArray, List.set_cons_zero, List.set_cons_succ]
  refine wpAnyH_done (by kernel_rfl) ?_ _
  go_wp2_with fail
  refine (parseN_e HS.out HQ.out (b := 2) rfl).mono ?_
  rintro e w58 ⟨s58, a58, n58, c58, t58, d58, e58, f58, rfl, hz, hb⟩
  have hC58 : Hid (St w _ [(w3.heap.size, #[.slice a3 n3 c3, .bool m3], 28), (w4.heap.size, #[.slice a4 n4 c4, .bool m4, .slice d4 e4 f4], 48), (w58.heap.size, #[.int .i64 s58, .slice a58 n58 c58, .int .i64 t58, .slice d58 e58 f58], 54)] [fun V => Zd V (.slice a3 n3 c3) m3 (0), fun V => Rd V (.slice a4 n4 c4) m4 (.slice d4 e4 f4) (0), fun V => Nq V s58 (.slice a58 n58 c58) t58 (.slice d58 e58 f58) (0)]) := Lib.hid (((hV33_2.out.call hb).pq hz).al w58.heap.size #[.int .i64 s58, .slice a58 n58 c58, .int .i64 t58, .slice d58 e58 f58] 54 rfl rfl)
  clear hz hb hV33_2
  have hR := Lib.hid (hC58.out.row (o := .cells #[.int .i64 0, .int .i64 4, .int .i64 9] 37))
  clear hC58
  have y10 := hR.out.cell 1 0 rfl rfl
  have y11 := hR.out.cell 1 1 rfl rfl
  have y12 := hR.out.cell 1 2 rfl rfl
  go_wp2_with fail
  refine (rsign_is (hR.out.r 1 rfl) (sgnQ_0 rfl)).mono ?_
  rintro e w61 ⟨rfl, hb⟩
  have hC61 : Hid (St w _ [(w3.heap.size, #[.slice a3 n3 c3, .bool m3], 28), (w4.heap.size, #[.slice a4 n4 c4, .bool m4, .slice d4 e4 f4], 48), (w58.heap.size, #[.int .i64 s58, .slice a58 n58 c58, .int .i64 t58, .slice d58 e58 f58], 54)] [fun V => Zd V (.slice a3 n3 c3) m3 (0), fun V => Rd V (.slice a4 n4 c4) m4 (.slice d4 e4 f4) (0), fun V => Nq V s58 (.slice a58 n58 c58) t58 (.slice d58 e58 f58) (0)]) := Lib.hid (hR.out.call hb)
  clear hb hR
  clear y10 y11 y12
  go_wp2_with fail
  refine (awake_any _).mono ?_
  rintro e w62 ⟨rfl, hb⟩
  have hC62 : Hid (St w w62 [(w3.heap.size, #[.slice a3 n3 c3, .bool m3], 28), (w4.heap.size, #[.slice a4 n4 c4, .bool m4, .slice d4 e4 f4], 48), (w58.heap.size, #[.int .i64 s58, .slice a58 n58 c58, .int .i64 t58, .slice d58 e58 f58], 54)] [fun V => Zd V (.slice a3 n3 c3) m3 (0), fun V => Rd V (.slice a4 n4 c4) m4 (.slice d4 e4 f4) (0), fun V => Nq V s58 (.slice a58 n58 c58) t58 (.slice d58 e58 f58) (0)]) := Lib.hid (hC61.out.call hb)
  clear hb hC61
  go_wp2
  go_ret
  exact ⟨rfl, hC62.out.be⟩
set_option maxRecDepth 100000 in
set_option maxHeartbeats 8000000 in
theorem reads_z0 (S : ByteArray) (w : World) (z : Int) (q : Rat) (hs : S.size ≤ 1000) (hz : Dec.zread S.data.toList = some z) (hq : rparse S.data.toList = (q, 0)) (hb : Bq 5000 q) : Calls Tryz.prog 4 #[.string S] w (fun e w' => e = .returned (.bool true) ∧ Below w.heap.size w w') := by
  have HZ := Lib.hid hz
  have HQ := Lib.hid hq
  have HS := Lib.hid hs
  have hs2 : S.size ≤ 2000 := by omega
  have HBZ := Lib.hid (zread_bd hz (by rw [ba_len]; exact hs))
  have HBQ := Lib.hid hb
  clear hb
  clear hz hq
  have hC := Lib.hid (St.enter w)
  go_enter Tryz.func4, Tryz.ntmps4
  go_wp2_with fail
  refine (zparse_e (by omega) (zres_some (by rw [ba_len]; exact HS.out) HZ.out)).mono ?_
  rintro e w3 ⟨a3, n3, c3, m3, rfl, hz, hb⟩
  have hC3 := Lib.hid (((hC.out.call hb).pz hz).al w3.heap.size #[.slice a3 n3 c3, .bool m3] 28 rfl rfl)
  clear hz hb hC
  go_wp2_with fail
  refine (rparse_e (by omega) HQ.out).mono ?_
  rintro e w4 ⟨a4, n4, c4, m4, d4, e4, f4, rfl, hz, hb⟩
  have hC4 := Lib.hid (((hC3.out.call hb).pr hz).al w4.heap.size #[.slice a4 n4 c4, .bool m4, .slice d4 e4 f4] 48 rfl rfl)
  clear hz hb hC3
  go_upto_region 7 with fail
  refine wp_gen hC4.out ?_
  intro W30 hc
  clear hC4
  have hD30 : Hid (St w W30 [(w3.heap.size, #[.slice a3 n3 c3, .bool m3], 28), (w4.heap.size, #[.slice a4 n4 c4, .bool m4, .slice d4 e4 f4], 48)] [fun V => Zd V (.slice a3 n3 c3) m3 (z), fun V => Rd V (.slice a4 n4 c4) m4 (.slice d4 e4 f4) (q)]) := Lib.hid hc
  clear hc
  refine wp_region_held_drew (S := (fun w' => w'.cell? ⟨w3.heap.size, 0, none⟩ = some (.slice a3 n3 c3) ∧ w'.cell? ⟨w3.heap.size, 1, none⟩ = some (.bool m3) ∧ True)) (by kernel_rfl) ⟨hD30.out.drew.cell 0 0 rfl rfl, hD30.out.drew.cell 0 1 rfl rfl, trivial⟩ (fun hH => ?_)
  refine wpAnyH_gen (show St w _ [(w3.heap.size, #[.slice a3 n3 c3, .bool m3], 28), (w4.heap.size, #[.slice a4 n4 c4, .bool m4, .slice d4 e4 f4], 48)] [fun V => Zd V (.slice a3 n3 c3) m3 (z), fun V => Rd V (.slice a4 n4 c4) m4 (.slice d4 e4 f4) (q)] from hD30.out.drew) hH ?_
  intro V34_0 hc hH34_0
  have hV34_0 := Lib.hid hc
  clear hc hH hD30
  refine wpAnyH_take (i := 0) (oi := ⟨_, _, _, _, _, _⟩) (v := ?_) rfl (by kernel_rfl) (by kernel_rfl) (by kernel_rfl) (fun _ _ _ h => h) (Or.inl ⟨by rfl, ?_⟩) hH34_0 ?_
  rotate_left
  · intro wS hSw; (try dsimp only at hSw); go_simp; try with_reducible rfl
  try simp only [Act.put, List.setIfInBounds_toArray, List.set_cons_zero, List.set_cons_succ]
  refine wpAnyH_take (i := 2) (oi := ⟨_, _, _, _, _, _⟩) (v := ?_) rfl (by kernel_rfl) (by kernel_rfl) (by kernel_rfl) (fun _ _ _ h => h) (Or.inl ⟨by rfl, ?_⟩) hH34_0 ?_
  rotate_left
  · intro wS hSw; (try dsimp only at hSw); go_simp; try with_reducible rfl
  try simp only [Act.put, List.setIfInBounds_toArray, List.set_cons_zero, List.set_cons_succ]
  refine wpAnyH_take (i := 3) (oi := ⟨_, _, _, _, _, _⟩) (v := ?_) rfl (by kernel_rfl) (by kernel_rfl) (by kernel_rfl) (fun _ _ _ h => h) (Or.inl ⟨by rfl, ?_⟩) hH34_0 ?_
  rotate_left
  · intro wS hSw; (try dsimp only at hSw); go_simp; try with_reducible rfl
  try simp only [Act.put, List.setIfInBounds_toArray, List.set_cons_zero, List.set_cons_succ]
  refine wpAnyH_ready (rs := [1]) (by kernel_rfl) (by simp) ?_
  refine AllReadyH.cons (o := ⟨_, _, _, _, _, _⟩) rfl (fun Kq hKq => ?_) AllReadyH.nil
  go_simp
  go_at_call 24
  refine (isInt_is (o := true) HS.out (by rw [HZ.out]; rfl)).mono ?_
  rintro e w31 ⟨rfl, hb⟩
  (try go_wp2_with fail)
  refine stepH hKq (hV34_0.out.call hb) (fun _ hX => ⟨hX.cell 0 0 rfl rfl, hX.cell 0 1 rfl rfl, trivial⟩) ?_
  intro V34_1 hc hH34_1
  have hV34_1 := Lib.hid hc
  clear hc hKq Kq hV34_0 hb hH34_0
  try simp only [Act.put, List.setIfInBounds_toArray, List.set_cons_zero, List.set_cons_succ]
  refine wpAnyH_take (i := 4) (oi := ⟨_, _, _, _, _, _⟩) (v := ?_) rfl (by kernel_rfl) (by kernel_rfl) (by kernel_rfl) (fun _ _ _ h => h) (Or.inl ⟨by rfl, ?_⟩) hH34_1 ?_
  rotate_left
  · intro wS hSw; (try dsimp only at hSw); go_simp; try with_reducible rfl
  try simp only [Act.put, List.setIfInBounds_toArray, List.set_cons_zero, List.set_cons_succ]
  refine wpAnyH_take (i := 5) (oi := ⟨_, _, _, _, _, _⟩) (v := ?_) rfl (by kernel_rfl) (by kernel_rfl) (by kernel_rfl) (fun _ _ _ h => h) (Or.inl ⟨by rfl, ?_⟩) hH34_1 ?_
  rotate_left
  · intro wS hSw; (try dsimp only at hSw); go_simp; try with_reducible rfl
  try simp only [Act.put, List.setIfInBounds_toArray, List.set_cons_zero, List.set_cons_succ]
  refine wpAnyH_take (i := 6) (oi := ⟨_, _, _, _, _, _⟩) (v := ?_) rfl (by kernel_rfl) (by kernel_rfl) (by kernel_rfl) (fun _ _ _ h => h) (Or.inl ⟨by rfl, ?_⟩) hH34_1 ?_
  rotate_left
  · intro wS hSw; (try dsimp only at hSw); go_simp; try with_reducible rfl
  try simp only [Act.put, List.setIfInBounds_toArray, List.set_cons_zero, List.set_cons_succ]
  refine wpAnyH_take (i := 7) (oi := ⟨_, _, _, _, _, _⟩) (v := ?_) rfl (by kernel_rfl) (by kernel_rfl) (by kernel_rfl) (fun _ _ _ h => h) (Or.inl ⟨by rfl, ?_⟩) hH34_1 ?_
  rotate_left
  · intro wS hSw; (try dsimp only at hSw); go_simp; try with_reducible rfl
  try simp only [Act.put, List.setIfInBounds_toArray, List.set_cons_zero, List.set_cons_succ]
  refine wpAnyH_take (i := 8) (oi := ⟨_, _, _, _, _, _⟩) (v := ?_) rfl (by kernel_rfl) (by kernel_rfl) (by kernel_rfl) (fun _ _ _ h => h) (Or.inl ⟨by rfl, ?_⟩) hH34_1 ?_
  rotate_left
  · intro wS hSw; (try dsimp only at hSw); go_simp; try with_reducible rfl
  try simp only [Act.put, List.setIfInBounds_toArray, List.set_cons_zero, List.set_cons_succ]
  refine wpAnyH_take (i := 9) (oi := ⟨_, _, _, _, _, _⟩) (v := undef) rfl (by kernel_rfl) (by kernel_rfl) (by kernel_rfl) (fun _ _ _ h => h) (Or.inr ⟨by rfl, rfl⟩) hH34_1 ?_
  try simp only [Act.put, List.setIfInBounds_toArray, List.set_cons_zero, List.set_cons_succ]
  refine wpAnyH_take (i := 10) (oi := ⟨_, _, _, _, _, _⟩) (v := undef) rfl (by kernel_rfl) (by kernel_rfl) (by kernel_rfl) (fun _ _ _ h => h) (Or.inr ⟨by rfl, rfl⟩) hH34_1 ?_
  try simp only [Act.put, List.setIfInBounds_toArray, List.set_cons_zero, List.set_cons_succ]
  refine wpAnyH_take (i := 11) (oi := ⟨_, _, _, _, _, _⟩) (v := undef) rfl (by kernel_rfl) (by kernel_rfl) (by kernel_rfl) (fun _ _ _ h => h) (Or.inr ⟨by rfl, rfl⟩) hH34_1 ?_
  try simp only [Act.put, List.setIfInBounds_toArray, List.set_cons_zero, List.set_cons_succ]
  refine wpAnyH_take (i := 12) (oi := ⟨_, _, _, _, _, _⟩) (v := undef) rfl (by kernel_rfl) (by kernel_rfl) (by kernel_rfl) (fun _ _ _ h => h) (Or.inr ⟨by rfl, rfl⟩) hH34_1 ?_
  try simp only [Act.put, List.setIfInBounds_toArray, List.set_cons_zero, List.set_cons_succ]
  refine wpAnyH_take (i := 13) (oi := ⟨_, _, _, _, _, _⟩) (v := undef) rfl (by kernel_rfl) (by kernel_rfl) (by kernel_rfl) (fun _ _ _ h => h) (Or.inr ⟨by rfl, rfl⟩) hH34_1 ?_
  try simp only [Act.put, List.setIfInBounds_toArray, List.set_cons_zero, List.set_cons_succ]
  refine wpAnyH_take (i := 14) (oi := ⟨_, _, _, _, _, _⟩) (v := undef) rfl (by kernel_rfl) (by kernel_rfl) (by kernel_rfl) (fun _ _ _ h => h) (Or.inr ⟨by rfl, rfl⟩) hH34_1 ?_
  try simp only [Act.put, List.setIfInBounds_toArray, List.set_cons_zero, List.set_cons_succ]
  refine wpAnyH_take (i := 15) (oi := ⟨_, _, _, _, _, _⟩) (v := undef) rfl (by kernel_rfl) (by kernel_rfl) (by kernel_rfl) (fun _ _ _ h => h) (Or.inr ⟨by rfl, rfl⟩) hH34_1 ?_
  try simp only [Act.put, List.setIfInBounds_toArray, List.set_cons_zero, List.set_cons_succ]
  refine wpAnyH_take (i := 16) (oi := ⟨_, _, _, _, _, _⟩) (v := ?_) rfl (by kernel_rfl) (by kernel_rfl) (by kernel_rfl) (fun _ _ _ h => h) (Or.inl ⟨by rfl, ?_⟩) hH34_1 ?_
  rotate_left
  · intro wS hSw; (try dsimp only at hSw); go_simp; try with_reducible rfl
  try simp only [Act.put, List.setIfInBounds_toArray, List.set_cons_zero, List.set_cons_succ]
  refine wpAnyH_take (i := 17) (oi := ⟨_, _, _, _, _, _⟩) (v := ?_) rfl (by kernel_rfl) (by kernel_rfl) (by kernel_rfl) (fun _ _ _ h => h) (Or.inl ⟨by rfl, ?_⟩) hH34_1 ?_
  rotate_left
  · intro wS hSw; (try dsimp only at hSw); go_simp; try with_reducible rfl
  try simp only [Act.put, List.setIfInBounds_toArray, List.set_cons_zero, List.set_cons_succ]
  refine wpAnyH_take (i := 18) (oi := ⟨_, _, _, _, _, _⟩) (v := ?_) rfl (by kernel_rfl) (by kernel_rfl) (by kernel_rfl) (fun _ _ _ h => h) (Or.inl ⟨by rfl, ?_⟩) hH34_1 ?_
  rotate_left
  · intro wS hSw; (try dsimp only at hSw); go_simp; try with_reducible rfl
  try simp only [Act.put, List.setIfInBounds_toArray, List.set_cons_zero, List.set_cons_succ]
  refine wpAnyH_take (i := 19) (oi := ⟨_, _, _, _, _, _⟩) (v := ?_) rfl (by kernel_rfl) (by kernel_rfl) (by kernel_rfl) (fun _ _ _ h => h) (Or.inl ⟨by rfl, ?_⟩) hH34_1 ?_
  rotate_left
  · intro wS hSw; (try dsimp only at hSw); go_simp; try with_reducible rfl
  try simp only [Act.put, List.setIfInBounds_toArray, List.set_cons_zero, List.set_cons_succ]
  refine wpAnyH_take (i := 20) (oi := ⟨_, _, _, _, _, _⟩) (v := ?_) rfl (by kernel_rfl) (by kernel_rfl) (by kernel_rfl) (fun _ _ _ h => h) (Or.inl ⟨by rfl, ?_⟩) hH34_1 ?_
  rotate_left
  · intro wS hSw; (try dsimp only at hSw); go_simp; try with_reducible rfl
  try simp only [Act.put, List.setIfInBounds_toArray, List.set_cons_zero, List.set_cons_succ]
  refine wpAnyH_take (i := 21) (oi := ⟨_, _, _, _, _, _⟩) (v := ?_) rfl (by kernel_rfl) (by kernel_rfl) (by kernel_rfl) (fun _ _ _ h => h) (Or.inl ⟨by rfl, ?_⟩) hH34_1 ?_
  rotate_left
  · intro wS hSw; (try dsimp only at hSw); go_simp; try with_reducible rfl
  try simp only [Act.put, List.setIfInBounds_toArray, List.set_cons_zero, List.set_cons_succ]
  refine wpAnyH_take (i := 22) (oi := ⟨_, _, _, _, _, _⟩) (v := ?_) rfl (by kernel_rfl) (by kernel_rfl) (by kernel_rfl) (fun _ _ _ h => h) (Or.inl ⟨by rfl, ?_⟩) hH34_1 ?_
  rotate_left
  · intro wS hSw; (try dsimp only at hSw); go_simp; try with_reducible rfl
  try simp only [Act.put, List.setIfInBounds_toArray, List.set_cons_zero, List.set_cons_succ]
  refine wpAnyH_take (i := 23) (oi := ⟨_, _, _, _, _, _⟩) (v := ?_) rfl (by kernel_rfl) (by kernel_rfl) (by kernel_rfl) (fun _ _ _ h => h) (Or.inl ⟨by rfl, ?_⟩) hH34_1 ?_
  rotate_left
  · intro wS hSw; (try dsimp only at hSw); go_simp; try with_reducible rfl
  try simp only [Act.put, List.setIfInBounds_toArray, List.set_cons_zero, List.set_cons_succ]
  refine wpAnyH_ready (rs := [24]) (by kernel_rfl) (by simp) ?_
  refine AllReadyH.cons (o := ⟨_, _, _, _, _, _⟩) rfl (fun Kq hKq => ?_) AllReadyH.nil
  go_simp
  go_at_call 25
  refine (zparse_read (by have := HS.out; omega) HZ.out).mono ?_
  rintro e w32 ⟨s32, a32, n32, c32, rfl, hz, hb⟩
  (try go_wp2_with fail)
  refine stepH hKq ((hV34_1.out.call hb).pn hz) (fun _ hX => ⟨hX.cell 0 0 rfl rfl, hX.cell 0 1 rfl rfl, trivial⟩) ?_
  intro V34_2 hc hH34_2
  have hV34_2 := Lib.hid hc
  clear hc hKq Kq hV34_1 hb hz hH34_1
  try simp only [Act.put, List.setIfInBounds_toArray, List.set_cons_zero, List.set_cons_succ]
  refine wpAnyH_ready (rs := [25]) (by kernel_rfl) (by simp) ?_
  refine AllReadyH.cons (o := ⟨_, _, _, _, _, _⟩) rfl (fun Kq hKq => ?_) AllReadyH.nil
  go_simp
  go_at_call 14
  refine (sameZ_b (hV34_2.out.z 0 rfl) (hV34_2.out.n 2 rfl) HBZ.out (by omega)).mono ?_
  rintro e w33 ⟨rfl, hb⟩
  (try go_wp2_with fail)
  refine stepH hKq (hV34_2.out.call hb) (fun _ hX => ⟨hX.cell 0 0 rfl rfl, hX.cell 0 1 rfl rfl, trivial⟩) ?_
  intro V34_3 hc hH34_3
  have hV34_3 := Lib.hid hc
  clear hc hKq Kq hV34_2 hb hH34_2
  try simp only [Act.put, List.setIfInBounds_toArray, List.set_cons_zero, List.set_cons_succ]
  refine wpAnyH_take (i := 26) (oi := ⟨_, _, _, _, _, _⟩) (v := ?_) rfl (by kernel_rfl) (by kernel_rfl) (by kernel_rfl) (fun _ _ _ h => h) (Or.inl ⟨by rfl, ?_⟩) hH34_3 ?_
  rotate_left
  · intro wS hSw; (try dsimp only at hSw); go_simp; try with_reducible rfl
  try simp only [Act.put, List.setIfInBounds_toArray, List.set_cons_zero, List.set_cons_succ]
  refine wpAnyH_take (i := 27) (oi := ⟨_, _, _, _, _, _⟩) (v := ?_) rfl (by kernel_rfl) (by kernel_rfl) (by kernel_rfl) (fun _ _ _ h => h) (Or.inl ⟨by rfl, ?_⟩) hH34_3 ?_
  rotate_left
  · intro wS hSw; (try dsimp only at hSw); go_simp; try with_reducible rfl
  try simp only [Act.put, List.setIfInBounds_toArray, List.set_cons_zero, List.set_cons_succ]
  refine wpAnyH_take (i := 28) (oi := ⟨_, _, _, _, _, _⟩) (v := ?_) rfl (by kernel_rfl) (by kernel_rfl) (by kernel_rfl) (fun _ _ _ h => h) (Or.inl ⟨by rfl, ?_⟩) hH34_3 ?_
  rotate_left
  · intro wS hSw; (try dsimp only at hSw); go_simp; try with_reducible rfl
  try simp only [Act.put, List.setIfInBounds_toArray, List.set_cons_zero, List.set_cons_succ]
  refine wpAnyH_done (by kernel_rfl) ?_ _
  go_wp2_with fail
  refine (parseN_e HS.out HQ.out (b := 0) rfl).mono ?_
  rintro e w58 ⟨s58, a58, n58, c58, t58, d58, e58, f58, rfl, hz, hb⟩
  have hC58 : Hid (St w _ [(w3.heap.size, #[.slice a3 n3 c3, .bool m3], 28), (w4.heap.size, #[.slice a4 n4 c4, .bool m4, .slice d4 e4 f4], 48), (w58.heap.size, #[.int .i64 s58, .slice a58 n58 c58, .int .i64 t58, .slice d58 e58 f58], 54)] [fun V => Zd V (.slice a3 n3 c3) m3 (z), fun V => Rd V (.slice a4 n4 c4) m4 (.slice d4 e4 f4) (q), fun V => Nz V s32 (.slice a32 n32 c32) (z), fun V => Nq V s58 (.slice a58 n58 c58) t58 (.slice d58 e58 f58) (q)]) := Lib.hid (((hV34_3.out.call hb).pq hz).al w58.heap.size #[.int .i64 s58, .slice a58 n58 c58, .int .i64 t58, .slice d58 e58 f58] 54 rfl rfl)
  clear hz hb hV34_3
  have y10 := hC58.out.cell 1 0 rfl rfl
  have y11 := hC58.out.cell 1 1 rfl rfl
  have y12 := hC58.out.cell 1 2 rfl rfl
  have y20 := hC58.out.cell 2 0 rfl rfl
  have y21 := hC58.out.cell 2 1 rfl rfl
  have y22 := hC58.out.cell 2 2 rfl rfl
  have y23 := hC58.out.cell 2 3 rfl rfl
  go_wp2_with fail
  refine (same_b (hC58.out.r 1 rfl) (hC58.out.rq 3 rfl) HBQ.out (by omega)).mono ?_
  rintro e w60 ⟨rfl, hb⟩
  have hC60 : Hid (St w w60 [(w3.heap.size, #[.slice a3 n3 c3, .bool m3], 28), (w4.heap.size, #[.slice a4 n4 c4, .bool m4, .slice d4 e4 f4], 48), (w58.heap.size, #[.int .i64 s58, .slice a58 n58 c58, .int .i64 t58, .slice d58 e58 f58], 54)] [fun V => Zd V (.slice a3 n3 c3) m3 (z), fun V => Rd V (.slice a4 n4 c4) m4 (.slice d4 e4 f4) (q), fun V => Nz V s32 (.slice a32 n32 c32) (z), fun V => Nq V s58 (.slice a58 n58 c58) t58 (.slice d58 e58 f58) (q)]) := Lib.hid (hC58.out.call hb)
  clear hb hC58
  clear y10 y11 y12 y20 y21 y22 y23
  go_wp2_with fail
  refine (awake_any _).mono ?_
  rintro e w61 ⟨rfl, hb⟩
  have hC61 : Hid (St w w61 [(w3.heap.size, #[.slice a3 n3 c3, .bool m3], 28), (w4.heap.size, #[.slice a4 n4 c4, .bool m4, .slice d4 e4 f4], 48), (w58.heap.size, #[.int .i64 s58, .slice a58 n58 c58, .int .i64 t58, .slice d58 e58 f58], 54)] [fun V => Zd V (.slice a3 n3 c3) m3 (z), fun V => Rd V (.slice a4 n4 c4) m4 (.slice d4 e4 f4) (q), fun V => Nz V s32 (.slice a32 n32 c32) (z), fun V => Nq V s58 (.slice a58 n58 c58) t58 (.slice d58 e58 f58) (q)]) := Lib.hid (hC60.out.call hb)
  clear hb hC60
  go_wp2
  go_ret
  exact ⟨rfl, hC61.out.be⟩
set_option maxRecDepth 100000 in
set_option maxHeartbeats 8000000 in
theorem reads_z1 (S : ByteArray) (w : World) (z : Int) (hs : S.size ≤ 1000) (hz : Dec.zread S.data.toList = some z) (hq : rparse S.data.toList = (0, 4)) : Calls Tryz.prog 4 #[.string S] w (fun e w' => e = .returned (.bool true) ∧ Below w.heap.size w w') := by
  have HZ := Lib.hid hz
  have HQ := Lib.hid hq
  have HS := Lib.hid hs
  have hs2 : S.size ≤ 2000 := by omega
  have HBZ := Lib.hid (zread_bd hz (by rw [ba_len]; exact hs))
  clear hz hq
  have hC := Lib.hid (St.enter w)
  go_enter Tryz.func4, Tryz.ntmps4
  go_wp2_with fail
  refine (zparse_e (by omega) (zres_some (by rw [ba_len]; exact HS.out) HZ.out)).mono ?_
  rintro e w3 ⟨a3, n3, c3, m3, rfl, hz, hb⟩
  have hC3 := Lib.hid (((hC.out.call hb).pz hz).al w3.heap.size #[.slice a3 n3 c3, .bool m3] 28 rfl rfl)
  clear hz hb hC
  go_wp2_with fail
  refine (rparse_e (by omega) HQ.out).mono ?_
  rintro e w4 ⟨a4, n4, c4, m4, d4, e4, f4, rfl, hz, hb⟩
  have hC4 := Lib.hid (((hC3.out.call hb).pr hz).al w4.heap.size #[.slice a4 n4 c4, .bool m4, .slice d4 e4 f4] 48 rfl rfl)
  clear hz hb hC3
  go_upto_region 7 with fail
  refine wp_gen hC4.out ?_
  intro W30 hc
  clear hC4
  have hD30 : Hid (St w W30 [(w3.heap.size, #[.slice a3 n3 c3, .bool m3], 28), (w4.heap.size, #[.slice a4 n4 c4, .bool m4, .slice d4 e4 f4], 48)] [fun V => Zd V (.slice a3 n3 c3) m3 (z), fun V => Rd V (.slice a4 n4 c4) m4 (.slice d4 e4 f4) (0)]) := Lib.hid hc
  clear hc
  refine wp_region_held_drew (S := (fun w' => w'.cell? ⟨w3.heap.size, 0, none⟩ = some (.slice a3 n3 c3) ∧ w'.cell? ⟨w3.heap.size, 1, none⟩ = some (.bool m3) ∧ True)) (by kernel_rfl) ⟨hD30.out.drew.cell 0 0 rfl rfl, hD30.out.drew.cell 0 1 rfl rfl, trivial⟩ (fun hH => ?_)
  refine wpAnyH_gen (show St w _ [(w3.heap.size, #[.slice a3 n3 c3, .bool m3], 28), (w4.heap.size, #[.slice a4 n4 c4, .bool m4, .slice d4 e4 f4], 48)] [fun V => Zd V (.slice a3 n3 c3) m3 (z), fun V => Rd V (.slice a4 n4 c4) m4 (.slice d4 e4 f4) (0)] from hD30.out.drew) hH ?_
  intro V34_0 hc hH34_0
  have hV34_0 := Lib.hid hc
  clear hc hH hD30
  refine wpAnyH_take (i := 0) (oi := ⟨_, _, _, _, _, _⟩) (v := ?_) rfl (by kernel_rfl) (by kernel_rfl) (by kernel_rfl) (fun _ _ _ h => h) (Or.inl ⟨by rfl, ?_⟩) hH34_0 ?_
  rotate_left
  · intro wS hSw; (try dsimp only at hSw); go_simp; try with_reducible rfl
  try simp only [Act.put, List.setIfInBounds_toArray, List.set_cons_zero, List.set_cons_succ]
  refine wpAnyH_take (i := 2) (oi := ⟨_, _, _, _, _, _⟩) (v := ?_) rfl (by kernel_rfl) (by kernel_rfl) (by kernel_rfl) (fun _ _ _ h => h) (Or.inl ⟨by rfl, ?_⟩) hH34_0 ?_
  rotate_left
  · intro wS hSw; (try dsimp only at hSw); go_simp; try with_reducible rfl
  try simp only [Act.put, List.setIfInBounds_toArray, List.set_cons_zero, List.set_cons_succ]
  refine wpAnyH_take (i := 3) (oi := ⟨_, _, _, _, _, _⟩) (v := ?_) rfl (by kernel_rfl) (by kernel_rfl) (by kernel_rfl) (fun _ _ _ h => h) (Or.inl ⟨by rfl, ?_⟩) hH34_0 ?_
  rotate_left
  · intro wS hSw; (try dsimp only at hSw); go_simp; try with_reducible rfl
  try simp only [Act.put, List.setIfInBounds_toArray, List.set_cons_zero, List.set_cons_succ]
  refine wpAnyH_ready (rs := [1]) (by kernel_rfl) (by simp) ?_
  refine AllReadyH.cons (o := ⟨_, _, _, _, _, _⟩) rfl (fun Kq hKq => ?_) AllReadyH.nil
  go_simp
  go_at_call 24
  refine (isInt_is (o := true) HS.out (by rw [HZ.out]; rfl)).mono ?_
  rintro e w31 ⟨rfl, hb⟩
  (try go_wp2_with fail)
  refine stepH hKq (hV34_0.out.call hb) (fun _ hX => ⟨hX.cell 0 0 rfl rfl, hX.cell 0 1 rfl rfl, trivial⟩) ?_
  intro V34_1 hc hH34_1
  have hV34_1 := Lib.hid hc
  clear hc hKq Kq hV34_0 hb hH34_0
  try simp only [Act.put, List.setIfInBounds_toArray, List.set_cons_zero, List.set_cons_succ]
  refine wpAnyH_take (i := 4) (oi := ⟨_, _, _, _, _, _⟩) (v := ?_) rfl (by kernel_rfl) (by kernel_rfl) (by kernel_rfl) (fun _ _ _ h => h) (Or.inl ⟨by rfl, ?_⟩) hH34_1 ?_
  rotate_left
  · intro wS hSw; (try dsimp only at hSw); go_simp; try with_reducible rfl
  try simp only [Act.put, List.setIfInBounds_toArray, List.set_cons_zero, List.set_cons_succ]
  refine wpAnyH_take (i := 5) (oi := ⟨_, _, _, _, _, _⟩) (v := ?_) rfl (by kernel_rfl) (by kernel_rfl) (by kernel_rfl) (fun _ _ _ h => h) (Or.inl ⟨by rfl, ?_⟩) hH34_1 ?_
  rotate_left
  · intro wS hSw; (try dsimp only at hSw); go_simp; try with_reducible rfl
  try simp only [Act.put, List.setIfInBounds_toArray, List.set_cons_zero, List.set_cons_succ]
  refine wpAnyH_take (i := 6) (oi := ⟨_, _, _, _, _, _⟩) (v := ?_) rfl (by kernel_rfl) (by kernel_rfl) (by kernel_rfl) (fun _ _ _ h => h) (Or.inl ⟨by rfl, ?_⟩) hH34_1 ?_
  rotate_left
  · intro wS hSw; (try dsimp only at hSw); go_simp; try with_reducible rfl
  try simp only [Act.put, List.setIfInBounds_toArray, List.set_cons_zero, List.set_cons_succ]
  refine wpAnyH_take (i := 7) (oi := ⟨_, _, _, _, _, _⟩) (v := ?_) rfl (by kernel_rfl) (by kernel_rfl) (by kernel_rfl) (fun _ _ _ h => h) (Or.inl ⟨by rfl, ?_⟩) hH34_1 ?_
  rotate_left
  · intro wS hSw; (try dsimp only at hSw); go_simp; try with_reducible rfl
  try simp only [Act.put, List.setIfInBounds_toArray, List.set_cons_zero, List.set_cons_succ]
  refine wpAnyH_take (i := 8) (oi := ⟨_, _, _, _, _, _⟩) (v := ?_) rfl (by kernel_rfl) (by kernel_rfl) (by kernel_rfl) (fun _ _ _ h => h) (Or.inl ⟨by rfl, ?_⟩) hH34_1 ?_
  rotate_left
  · intro wS hSw; (try dsimp only at hSw); go_simp; try with_reducible rfl
  try simp only [Act.put, List.setIfInBounds_toArray, List.set_cons_zero, List.set_cons_succ]
  refine wpAnyH_take (i := 9) (oi := ⟨_, _, _, _, _, _⟩) (v := undef) rfl (by kernel_rfl) (by kernel_rfl) (by kernel_rfl) (fun _ _ _ h => h) (Or.inr ⟨by rfl, rfl⟩) hH34_1 ?_
  try simp only [Act.put, List.setIfInBounds_toArray, List.set_cons_zero, List.set_cons_succ]
  refine wpAnyH_take (i := 10) (oi := ⟨_, _, _, _, _, _⟩) (v := undef) rfl (by kernel_rfl) (by kernel_rfl) (by kernel_rfl) (fun _ _ _ h => h) (Or.inr ⟨by rfl, rfl⟩) hH34_1 ?_
  try simp only [Act.put, List.setIfInBounds_toArray, List.set_cons_zero, List.set_cons_succ]
  refine wpAnyH_take (i := 11) (oi := ⟨_, _, _, _, _, _⟩) (v := undef) rfl (by kernel_rfl) (by kernel_rfl) (by kernel_rfl) (fun _ _ _ h => h) (Or.inr ⟨by rfl, rfl⟩) hH34_1 ?_
  try simp only [Act.put, List.setIfInBounds_toArray, List.set_cons_zero, List.set_cons_succ]
  refine wpAnyH_take (i := 12) (oi := ⟨_, _, _, _, _, _⟩) (v := undef) rfl (by kernel_rfl) (by kernel_rfl) (by kernel_rfl) (fun _ _ _ h => h) (Or.inr ⟨by rfl, rfl⟩) hH34_1 ?_
  try simp only [Act.put, List.setIfInBounds_toArray, List.set_cons_zero, List.set_cons_succ]
  refine wpAnyH_take (i := 13) (oi := ⟨_, _, _, _, _, _⟩) (v := undef) rfl (by kernel_rfl) (by kernel_rfl) (by kernel_rfl) (fun _ _ _ h => h) (Or.inr ⟨by rfl, rfl⟩) hH34_1 ?_
  try simp only [Act.put, List.setIfInBounds_toArray, List.set_cons_zero, List.set_cons_succ]
  refine wpAnyH_take (i := 14) (oi := ⟨_, _, _, _, _, _⟩) (v := undef) rfl (by kernel_rfl) (by kernel_rfl) (by kernel_rfl) (fun _ _ _ h => h) (Or.inr ⟨by rfl, rfl⟩) hH34_1 ?_
  try simp only [Act.put, List.setIfInBounds_toArray, List.set_cons_zero, List.set_cons_succ]
  refine wpAnyH_take (i := 15) (oi := ⟨_, _, _, _, _, _⟩) (v := undef) rfl (by kernel_rfl) (by kernel_rfl) (by kernel_rfl) (fun _ _ _ h => h) (Or.inr ⟨by rfl, rfl⟩) hH34_1 ?_
  try simp only [Act.put, List.setIfInBounds_toArray, List.set_cons_zero, List.set_cons_succ]
  refine wpAnyH_take (i := 16) (oi := ⟨_, _, _, _, _, _⟩) (v := ?_) rfl (by kernel_rfl) (by kernel_rfl) (by kernel_rfl) (fun _ _ _ h => h) (Or.inl ⟨by rfl, ?_⟩) hH34_1 ?_
  rotate_left
  · intro wS hSw; (try dsimp only at hSw); go_simp; try with_reducible rfl
  try simp only [Act.put, List.setIfInBounds_toArray, List.set_cons_zero, List.set_cons_succ]
  refine wpAnyH_take (i := 17) (oi := ⟨_, _, _, _, _, _⟩) (v := ?_) rfl (by kernel_rfl) (by kernel_rfl) (by kernel_rfl) (fun _ _ _ h => h) (Or.inl ⟨by rfl, ?_⟩) hH34_1 ?_
  rotate_left
  · intro wS hSw; (try dsimp only at hSw); go_simp; try with_reducible rfl
  try simp only [Act.put, List.setIfInBounds_toArray, List.set_cons_zero, List.set_cons_succ]
  refine wpAnyH_take (i := 18) (oi := ⟨_, _, _, _, _, _⟩) (v := ?_) rfl (by kernel_rfl) (by kernel_rfl) (by kernel_rfl) (fun _ _ _ h => h) (Or.inl ⟨by rfl, ?_⟩) hH34_1 ?_
  rotate_left
  · intro wS hSw; (try dsimp only at hSw); go_simp; try with_reducible rfl
  try simp only [Act.put, List.setIfInBounds_toArray, List.set_cons_zero, List.set_cons_succ]
  refine wpAnyH_take (i := 19) (oi := ⟨_, _, _, _, _, _⟩) (v := ?_) rfl (by kernel_rfl) (by kernel_rfl) (by kernel_rfl) (fun _ _ _ h => h) (Or.inl ⟨by rfl, ?_⟩) hH34_1 ?_
  rotate_left
  · intro wS hSw; (try dsimp only at hSw); go_simp; try with_reducible rfl
  try simp only [Act.put, List.setIfInBounds_toArray, List.set_cons_zero, List.set_cons_succ]
  refine wpAnyH_take (i := 20) (oi := ⟨_, _, _, _, _, _⟩) (v := ?_) rfl (by kernel_rfl) (by kernel_rfl) (by kernel_rfl) (fun _ _ _ h => h) (Or.inl ⟨by rfl, ?_⟩) hH34_1 ?_
  rotate_left
  · intro wS hSw; (try dsimp only at hSw); go_simp; try with_reducible rfl
  try simp only [Act.put, List.setIfInBounds_toArray, List.set_cons_zero, List.set_cons_succ]
  refine wpAnyH_take (i := 21) (oi := ⟨_, _, _, _, _, _⟩) (v := ?_) rfl (by kernel_rfl) (by kernel_rfl) (by kernel_rfl) (fun _ _ _ h => h) (Or.inl ⟨by rfl, ?_⟩) hH34_1 ?_
  rotate_left
  · intro wS hSw; (try dsimp only at hSw); go_simp; try with_reducible rfl
  try simp only [Act.put, List.setIfInBounds_toArray, List.set_cons_zero, List.set_cons_succ]
  refine wpAnyH_take (i := 22) (oi := ⟨_, _, _, _, _, _⟩) (v := ?_) rfl (by kernel_rfl) (by kernel_rfl) (by kernel_rfl) (fun _ _ _ h => h) (Or.inl ⟨by rfl, ?_⟩) hH34_1 ?_
  rotate_left
  · intro wS hSw; (try dsimp only at hSw); go_simp; try with_reducible rfl
  try simp only [Act.put, List.setIfInBounds_toArray, List.set_cons_zero, List.set_cons_succ]
  refine wpAnyH_take (i := 23) (oi := ⟨_, _, _, _, _, _⟩) (v := ?_) rfl (by kernel_rfl) (by kernel_rfl) (by kernel_rfl) (fun _ _ _ h => h) (Or.inl ⟨by rfl, ?_⟩) hH34_1 ?_
  rotate_left
  · intro wS hSw; (try dsimp only at hSw); go_simp; try with_reducible rfl
  try simp only [Act.put, List.setIfInBounds_toArray, List.set_cons_zero, List.set_cons_succ]
  refine wpAnyH_ready (rs := [24]) (by kernel_rfl) (by simp) ?_
  refine AllReadyH.cons (o := ⟨_, _, _, _, _, _⟩) rfl (fun Kq hKq => ?_) AllReadyH.nil
  go_simp
  go_at_call 25
  refine (zparse_read (by have := HS.out; omega) HZ.out).mono ?_
  rintro e w32 ⟨s32, a32, n32, c32, rfl, hz, hb⟩
  (try go_wp2_with fail)
  refine stepH hKq ((hV34_1.out.call hb).pn hz) (fun _ hX => ⟨hX.cell 0 0 rfl rfl, hX.cell 0 1 rfl rfl, trivial⟩) ?_
  intro V34_2 hc hH34_2
  have hV34_2 := Lib.hid hc
  clear hc hKq Kq hV34_1 hb hz hH34_1
  try simp only [Act.put, List.setIfInBounds_toArray, List.set_cons_zero, List.set_cons_succ]
  refine wpAnyH_ready (rs := [25]) (by kernel_rfl) (by simp) ?_
  refine AllReadyH.cons (o := ⟨_, _, _, _, _, _⟩) rfl (fun Kq hKq => ?_) AllReadyH.nil
  go_simp
  go_at_call 14
  refine (sameZ_b (hV34_2.out.z 0 rfl) (hV34_2.out.n 2 rfl) HBZ.out (by omega)).mono ?_
  rintro e w33 ⟨rfl, hb⟩
  (try go_wp2_with fail)
  refine stepH hKq (hV34_2.out.call hb) (fun _ hX => ⟨hX.cell 0 0 rfl rfl, hX.cell 0 1 rfl rfl, trivial⟩) ?_
  intro V34_3 hc hH34_3
  have hV34_3 := Lib.hid hc
  clear hc hKq Kq hV34_2 hb hH34_2
  try simp only [Act.put, List.setIfInBounds_toArray, List.set_cons_zero, List.set_cons_succ]
  refine wpAnyH_take (i := 26) (oi := ⟨_, _, _, _, _, _⟩) (v := ?_) rfl (by kernel_rfl) (by kernel_rfl) (by kernel_rfl) (fun _ _ _ h => h) (Or.inl ⟨by rfl, ?_⟩) hH34_3 ?_
  rotate_left
  · intro wS hSw; (try dsimp only at hSw); go_simp; try with_reducible rfl
  try simp only [Act.put, List.setIfInBounds_toArray, List.set_cons_zero, List.set_cons_succ]
  refine wpAnyH_take (i := 27) (oi := ⟨_, _, _, _, _, _⟩) (v := ?_) rfl (by kernel_rfl) (by kernel_rfl) (by kernel_rfl) (fun _ _ _ h => h) (Or.inl ⟨by rfl, ?_⟩) hH34_3 ?_
  rotate_left
  · intro wS hSw; (try dsimp only at hSw); go_simp; try with_reducible rfl
  try simp only [Act.put, List.setIfInBounds_toArray, List.set_cons_zero, List.set_cons_succ]
  refine wpAnyH_take (i := 28) (oi := ⟨_, _, _, _, _, _⟩) (v := ?_) rfl (by kernel_rfl) (by kernel_rfl) (by kernel_rfl) (fun _ _ _ h => h) (Or.inl ⟨by rfl, ?_⟩) hH34_3 ?_
  rotate_left
  · intro wS hSw; (try dsimp only at hSw); go_simp; try with_reducible rfl
  try simp only [Act.put, List.setIfInBounds_toArray, List.set_cons_zero, List.set_cons_succ]
  refine wpAnyH_done (by kernel_rfl) ?_ _
  go_wp2_with fail
  refine (parseN_e HS.out HQ.out (b := 1) rfl).mono ?_
  rintro e w58 ⟨s58, a58, n58, c58, t58, d58, e58, f58, rfl, hz, hb⟩
  have hC58 : Hid (St w _ [(w3.heap.size, #[.slice a3 n3 c3, .bool m3], 28), (w4.heap.size, #[.slice a4 n4 c4, .bool m4, .slice d4 e4 f4], 48), (w58.heap.size, #[.int .i64 s58, .slice a58 n58 c58, .int .i64 t58, .slice d58 e58 f58], 54)] [fun V => Zd V (.slice a3 n3 c3) m3 (z), fun V => Rd V (.slice a4 n4 c4) m4 (.slice d4 e4 f4) (0), fun V => Nz V s32 (.slice a32 n32 c32) (z), fun V => Nq V s58 (.slice a58 n58 c58) t58 (.slice d58 e58 f58) (0)]) := Lib.hid (((hV34_3.out.call hb).pq hz).al w58.heap.size #[.int .i64 s58, .slice a58 n58 c58, .int .i64 t58, .slice d58 e58 f58] 54 rfl rfl)
  clear hz hb hV34_3
  have hR := Lib.hid (hC58.out.row (o := .cells #[.int .i64 0, .int .i64 4, .int .i64 9] 37))
  clear hC58
  have y10 := hR.out.cell 1 0 rfl rfl
  have y11 := hR.out.cell 1 1 rfl rfl
  have y12 := hR.out.cell 1 2 rfl rfl
  go_wp2_with fail
  refine (rsign_is (hR.out.r 1 rfl) (sgnQ_0 rfl)).mono ?_
  rintro e w61 ⟨rfl, hb⟩
  have hC61 : Hid (St w _ [(w3.heap.size, #[.slice a3 n3 c3, .bool m3], 28), (w4.heap.size, #[.slice a4 n4 c4, .bool m4, .slice d4 e4 f4], 48), (w58.heap.size, #[.int .i64 s58, .slice a58 n58 c58, .int .i64 t58, .slice d58 e58 f58], 54)] [fun V => Zd V (.slice a3 n3 c3) m3 (z), fun V => Rd V (.slice a4 n4 c4) m4 (.slice d4 e4 f4) (0), fun V => Nz V s32 (.slice a32 n32 c32) (z), fun V => Nq V s58 (.slice a58 n58 c58) t58 (.slice d58 e58 f58) (0)]) := Lib.hid (hR.out.call hb)
  clear hb hR
  clear y10 y11 y12
  go_wp2_with fail
  refine (awake_any _).mono ?_
  rintro e w62 ⟨rfl, hb⟩
  have hC62 : Hid (St w w62 [(w3.heap.size, #[.slice a3 n3 c3, .bool m3], 28), (w4.heap.size, #[.slice a4 n4 c4, .bool m4, .slice d4 e4 f4], 48), (w58.heap.size, #[.int .i64 s58, .slice a58 n58 c58, .int .i64 t58, .slice d58 e58 f58], 54)] [fun V => Zd V (.slice a3 n3 c3) m3 (z), fun V => Rd V (.slice a4 n4 c4) m4 (.slice d4 e4 f4) (0), fun V => Nz V s32 (.slice a32 n32 c32) (z), fun V => Nq V s58 (.slice a58 n58 c58) t58 (.slice d58 e58 f58) (0)]) := Lib.hid (hC61.out.call hb)
  clear hb hC61
  go_wp2
  go_ret
  exact ⟨rfl, hC62.out.be⟩
set_option maxRecDepth 100000 in
set_option maxHeartbeats 8000000 in
theorem reads_z2 (S : ByteArray) (w : World) (z : Int) (hs : S.size ≤ 1000) (hz : Dec.zread S.data.toList = some z) (hq : rparse S.data.toList = (0, 9)) : Calls Tryz.prog 4 #[.string S] w (fun e w' => e = .returned (.bool true) ∧ Below w.heap.size w w') := by
  have HZ := Lib.hid hz
  have HQ := Lib.hid hq
  have HS := Lib.hid hs
  have hs2 : S.size ≤ 2000 := by omega
  have HBZ := Lib.hid (zread_bd hz (by rw [ba_len]; exact hs))
  clear hz hq
  have hC := Lib.hid (St.enter w)
  go_enter Tryz.func4, Tryz.ntmps4
  go_wp2_with fail
  refine (zparse_e (by omega) (zres_some (by rw [ba_len]; exact HS.out) HZ.out)).mono ?_
  rintro e w3 ⟨a3, n3, c3, m3, rfl, hz, hb⟩
  have hC3 := Lib.hid (((hC.out.call hb).pz hz).al w3.heap.size #[.slice a3 n3 c3, .bool m3] 28 rfl rfl)
  clear hz hb hC
  go_wp2_with fail
  refine (rparse_e (by omega) HQ.out).mono ?_
  rintro e w4 ⟨a4, n4, c4, m4, d4, e4, f4, rfl, hz, hb⟩
  have hC4 := Lib.hid (((hC3.out.call hb).pr hz).al w4.heap.size #[.slice a4 n4 c4, .bool m4, .slice d4 e4 f4] 48 rfl rfl)
  clear hz hb hC3
  go_upto_region 7 with fail
  refine wp_gen hC4.out ?_
  intro W30 hc
  clear hC4
  have hD30 : Hid (St w W30 [(w3.heap.size, #[.slice a3 n3 c3, .bool m3], 28), (w4.heap.size, #[.slice a4 n4 c4, .bool m4, .slice d4 e4 f4], 48)] [fun V => Zd V (.slice a3 n3 c3) m3 (z), fun V => Rd V (.slice a4 n4 c4) m4 (.slice d4 e4 f4) (0)]) := Lib.hid hc
  clear hc
  refine wp_region_held_drew (S := (fun w' => w'.cell? ⟨w3.heap.size, 0, none⟩ = some (.slice a3 n3 c3) ∧ w'.cell? ⟨w3.heap.size, 1, none⟩ = some (.bool m3) ∧ True)) (by kernel_rfl) ⟨hD30.out.drew.cell 0 0 rfl rfl, hD30.out.drew.cell 0 1 rfl rfl, trivial⟩ (fun hH => ?_)
  refine wpAnyH_gen (show St w _ [(w3.heap.size, #[.slice a3 n3 c3, .bool m3], 28), (w4.heap.size, #[.slice a4 n4 c4, .bool m4, .slice d4 e4 f4], 48)] [fun V => Zd V (.slice a3 n3 c3) m3 (z), fun V => Rd V (.slice a4 n4 c4) m4 (.slice d4 e4 f4) (0)] from hD30.out.drew) hH ?_
  intro V34_0 hc hH34_0
  have hV34_0 := Lib.hid hc
  clear hc hH hD30
  refine wpAnyH_take (i := 0) (oi := ⟨_, _, _, _, _, _⟩) (v := ?_) rfl (by kernel_rfl) (by kernel_rfl) (by kernel_rfl) (fun _ _ _ h => h) (Or.inl ⟨by rfl, ?_⟩) hH34_0 ?_
  rotate_left
  · intro wS hSw; (try dsimp only at hSw); go_simp; try with_reducible rfl
  try simp only [Act.put, List.setIfInBounds_toArray, List.set_cons_zero, List.set_cons_succ]
  refine wpAnyH_take (i := 2) (oi := ⟨_, _, _, _, _, _⟩) (v := ?_) rfl (by kernel_rfl) (by kernel_rfl) (by kernel_rfl) (fun _ _ _ h => h) (Or.inl ⟨by rfl, ?_⟩) hH34_0 ?_
  rotate_left
  · intro wS hSw; (try dsimp only at hSw); go_simp; try with_reducible rfl
  try simp only [Act.put, List.setIfInBounds_toArray, List.set_cons_zero, List.set_cons_succ]
  refine wpAnyH_take (i := 3) (oi := ⟨_, _, _, _, _, _⟩) (v := ?_) rfl (by kernel_rfl) (by kernel_rfl) (by kernel_rfl) (fun _ _ _ h => h) (Or.inl ⟨by rfl, ?_⟩) hH34_0 ?_
  rotate_left
  · intro wS hSw; (try dsimp only at hSw); go_simp; try with_reducible rfl
  try simp only [Act.put, List.setIfInBounds_toArray, List.set_cons_zero, List.set_cons_succ]
  refine wpAnyH_ready (rs := [1]) (by kernel_rfl) (by simp) ?_
  refine AllReadyH.cons (o := ⟨_, _, _, _, _, _⟩) rfl (fun Kq hKq => ?_) AllReadyH.nil
  go_simp
  go_at_call 24
  refine (isInt_is (o := true) HS.out (by rw [HZ.out]; rfl)).mono ?_
  rintro e w31 ⟨rfl, hb⟩
  (try go_wp2_with fail)
  refine stepH hKq (hV34_0.out.call hb) (fun _ hX => ⟨hX.cell 0 0 rfl rfl, hX.cell 0 1 rfl rfl, trivial⟩) ?_
  intro V34_1 hc hH34_1
  have hV34_1 := Lib.hid hc
  clear hc hKq Kq hV34_0 hb hH34_0
  try simp only [Act.put, List.setIfInBounds_toArray, List.set_cons_zero, List.set_cons_succ]
  refine wpAnyH_take (i := 4) (oi := ⟨_, _, _, _, _, _⟩) (v := ?_) rfl (by kernel_rfl) (by kernel_rfl) (by kernel_rfl) (fun _ _ _ h => h) (Or.inl ⟨by rfl, ?_⟩) hH34_1 ?_
  rotate_left
  · intro wS hSw; (try dsimp only at hSw); go_simp; try with_reducible rfl
  try simp only [Act.put, List.setIfInBounds_toArray, List.set_cons_zero, List.set_cons_succ]
  refine wpAnyH_take (i := 5) (oi := ⟨_, _, _, _, _, _⟩) (v := ?_) rfl (by kernel_rfl) (by kernel_rfl) (by kernel_rfl) (fun _ _ _ h => h) (Or.inl ⟨by rfl, ?_⟩) hH34_1 ?_
  rotate_left
  · intro wS hSw; (try dsimp only at hSw); go_simp; try with_reducible rfl
  try simp only [Act.put, List.setIfInBounds_toArray, List.set_cons_zero, List.set_cons_succ]
  refine wpAnyH_take (i := 6) (oi := ⟨_, _, _, _, _, _⟩) (v := ?_) rfl (by kernel_rfl) (by kernel_rfl) (by kernel_rfl) (fun _ _ _ h => h) (Or.inl ⟨by rfl, ?_⟩) hH34_1 ?_
  rotate_left
  · intro wS hSw; (try dsimp only at hSw); go_simp; try with_reducible rfl
  try simp only [Act.put, List.setIfInBounds_toArray, List.set_cons_zero, List.set_cons_succ]
  refine wpAnyH_take (i := 7) (oi := ⟨_, _, _, _, _, _⟩) (v := ?_) rfl (by kernel_rfl) (by kernel_rfl) (by kernel_rfl) (fun _ _ _ h => h) (Or.inl ⟨by rfl, ?_⟩) hH34_1 ?_
  rotate_left
  · intro wS hSw; (try dsimp only at hSw); go_simp; try with_reducible rfl
  try simp only [Act.put, List.setIfInBounds_toArray, List.set_cons_zero, List.set_cons_succ]
  refine wpAnyH_take (i := 8) (oi := ⟨_, _, _, _, _, _⟩) (v := ?_) rfl (by kernel_rfl) (by kernel_rfl) (by kernel_rfl) (fun _ _ _ h => h) (Or.inl ⟨by rfl, ?_⟩) hH34_1 ?_
  rotate_left
  · intro wS hSw; (try dsimp only at hSw); go_simp; try with_reducible rfl
  try simp only [Act.put, List.setIfInBounds_toArray, List.set_cons_zero, List.set_cons_succ]
  refine wpAnyH_take (i := 9) (oi := ⟨_, _, _, _, _, _⟩) (v := undef) rfl (by kernel_rfl) (by kernel_rfl) (by kernel_rfl) (fun _ _ _ h => h) (Or.inr ⟨by rfl, rfl⟩) hH34_1 ?_
  try simp only [Act.put, List.setIfInBounds_toArray, List.set_cons_zero, List.set_cons_succ]
  refine wpAnyH_take (i := 10) (oi := ⟨_, _, _, _, _, _⟩) (v := undef) rfl (by kernel_rfl) (by kernel_rfl) (by kernel_rfl) (fun _ _ _ h => h) (Or.inr ⟨by rfl, rfl⟩) hH34_1 ?_
  try simp only [Act.put, List.setIfInBounds_toArray, List.set_cons_zero, List.set_cons_succ]
  refine wpAnyH_take (i := 11) (oi := ⟨_, _, _, _, _, _⟩) (v := undef) rfl (by kernel_rfl) (by kernel_rfl) (by kernel_rfl) (fun _ _ _ h => h) (Or.inr ⟨by rfl, rfl⟩) hH34_1 ?_
  try simp only [Act.put, List.setIfInBounds_toArray, List.set_cons_zero, List.set_cons_succ]
  refine wpAnyH_take (i := 12) (oi := ⟨_, _, _, _, _, _⟩) (v := undef) rfl (by kernel_rfl) (by kernel_rfl) (by kernel_rfl) (fun _ _ _ h => h) (Or.inr ⟨by rfl, rfl⟩) hH34_1 ?_
  try simp only [Act.put, List.setIfInBounds_toArray, List.set_cons_zero, List.set_cons_succ]
  refine wpAnyH_take (i := 13) (oi := ⟨_, _, _, _, _, _⟩) (v := undef) rfl (by kernel_rfl) (by kernel_rfl) (by kernel_rfl) (fun _ _ _ h => h) (Or.inr ⟨by rfl, rfl⟩) hH34_1 ?_
  try simp only [Act.put, List.setIfInBounds_toArray, List.set_cons_zero, List.set_cons_succ]
  refine wpAnyH_take (i := 14) (oi := ⟨_, _, _, _, _, _⟩) (v := undef) rfl (by kernel_rfl) (by kernel_rfl) (by kernel_rfl) (fun _ _ _ h => h) (Or.inr ⟨by rfl, rfl⟩) hH34_1 ?_
  try simp only [Act.put, List.setIfInBounds_toArray, List.set_cons_zero, List.set_cons_succ]
  refine wpAnyH_take (i := 15) (oi := ⟨_, _, _, _, _, _⟩) (v := undef) rfl (by kernel_rfl) (by kernel_rfl) (by kernel_rfl) (fun _ _ _ h => h) (Or.inr ⟨by rfl, rfl⟩) hH34_1 ?_
  try simp only [Act.put, List.setIfInBounds_toArray, List.set_cons_zero, List.set_cons_succ]
  refine wpAnyH_take (i := 16) (oi := ⟨_, _, _, _, _, _⟩) (v := ?_) rfl (by kernel_rfl) (by kernel_rfl) (by kernel_rfl) (fun _ _ _ h => h) (Or.inl ⟨by rfl, ?_⟩) hH34_1 ?_
  rotate_left
  · intro wS hSw; (try dsimp only at hSw); go_simp; try with_reducible rfl
  try simp only [Act.put, List.setIfInBounds_toArray, List.set_cons_zero, List.set_cons_succ]
  refine wpAnyH_take (i := 17) (oi := ⟨_, _, _, _, _, _⟩) (v := ?_) rfl (by kernel_rfl) (by kernel_rfl) (by kernel_rfl) (fun _ _ _ h => h) (Or.inl ⟨by rfl, ?_⟩) hH34_1 ?_
  rotate_left
  · intro wS hSw; (try dsimp only at hSw); go_simp; try with_reducible rfl
  try simp only [Act.put, List.setIfInBounds_toArray, List.set_cons_zero, List.set_cons_succ]
  refine wpAnyH_take (i := 18) (oi := ⟨_, _, _, _, _, _⟩) (v := ?_) rfl (by kernel_rfl) (by kernel_rfl) (by kernel_rfl) (fun _ _ _ h => h) (Or.inl ⟨by rfl, ?_⟩) hH34_1 ?_
  rotate_left
  · intro wS hSw; (try dsimp only at hSw); go_simp; try with_reducible rfl
  try simp only [Act.put, List.setIfInBounds_toArray, List.set_cons_zero, List.set_cons_succ]
  refine wpAnyH_take (i := 19) (oi := ⟨_, _, _, _, _, _⟩) (v := ?_) rfl (by kernel_rfl) (by kernel_rfl) (by kernel_rfl) (fun _ _ _ h => h) (Or.inl ⟨by rfl, ?_⟩) hH34_1 ?_
  rotate_left
  · intro wS hSw; (try dsimp only at hSw); go_simp; try with_reducible rfl
  try simp only [Act.put, List.setIfInBounds_toArray, List.set_cons_zero, List.set_cons_succ]
  refine wpAnyH_take (i := 20) (oi := ⟨_, _, _, _, _, _⟩) (v := ?_) rfl (by kernel_rfl) (by kernel_rfl) (by kernel_rfl) (fun _ _ _ h => h) (Or.inl ⟨by rfl, ?_⟩) hH34_1 ?_
  rotate_left
  · intro wS hSw; (try dsimp only at hSw); go_simp; try with_reducible rfl
  try simp only [Act.put, List.setIfInBounds_toArray, List.set_cons_zero, List.set_cons_succ]
  refine wpAnyH_take (i := 21) (oi := ⟨_, _, _, _, _, _⟩) (v := ?_) rfl (by kernel_rfl) (by kernel_rfl) (by kernel_rfl) (fun _ _ _ h => h) (Or.inl ⟨by rfl, ?_⟩) hH34_1 ?_
  rotate_left
  · intro wS hSw; (try dsimp only at hSw); go_simp; try with_reducible rfl
  try simp only [Act.put, List.setIfInBounds_toArray, List.set_cons_zero, List.set_cons_succ]
  refine wpAnyH_take (i := 22) (oi := ⟨_, _, _, _, _, _⟩) (v := ?_) rfl (by kernel_rfl) (by kernel_rfl) (by kernel_rfl) (fun _ _ _ h => h) (Or.inl ⟨by rfl, ?_⟩) hH34_1 ?_
  rotate_left
  · intro wS hSw; (try dsimp only at hSw); go_simp; try with_reducible rfl
  try simp only [Act.put, List.setIfInBounds_toArray, List.set_cons_zero, List.set_cons_succ]
  refine wpAnyH_take (i := 23) (oi := ⟨_, _, _, _, _, _⟩) (v := ?_) rfl (by kernel_rfl) (by kernel_rfl) (by kernel_rfl) (fun _ _ _ h => h) (Or.inl ⟨by rfl, ?_⟩) hH34_1 ?_
  rotate_left
  · intro wS hSw; (try dsimp only at hSw); go_simp; try with_reducible rfl
  try simp only [Act.put, List.setIfInBounds_toArray, List.set_cons_zero, List.set_cons_succ]
  refine wpAnyH_ready (rs := [24]) (by kernel_rfl) (by simp) ?_
  refine AllReadyH.cons (o := ⟨_, _, _, _, _, _⟩) rfl (fun Kq hKq => ?_) AllReadyH.nil
  go_simp
  go_at_call 25
  refine (zparse_read (by have := HS.out; omega) HZ.out).mono ?_
  rintro e w32 ⟨s32, a32, n32, c32, rfl, hz, hb⟩
  (try go_wp2_with fail)
  refine stepH hKq ((hV34_1.out.call hb).pn hz) (fun _ hX => ⟨hX.cell 0 0 rfl rfl, hX.cell 0 1 rfl rfl, trivial⟩) ?_
  intro V34_2 hc hH34_2
  have hV34_2 := Lib.hid hc
  clear hc hKq Kq hV34_1 hb hz hH34_1
  try simp only [Act.put, List.setIfInBounds_toArray, List.set_cons_zero, List.set_cons_succ]
  refine wpAnyH_ready (rs := [25]) (by kernel_rfl) (by simp) ?_
  refine AllReadyH.cons (o := ⟨_, _, _, _, _, _⟩) rfl (fun Kq hKq => ?_) AllReadyH.nil
  go_simp
  go_at_call 14
  refine (sameZ_b (hV34_2.out.z 0 rfl) (hV34_2.out.n 2 rfl) HBZ.out (by omega)).mono ?_
  rintro e w33 ⟨rfl, hb⟩
  (try go_wp2_with fail)
  refine stepH hKq (hV34_2.out.call hb) (fun _ hX => ⟨hX.cell 0 0 rfl rfl, hX.cell 0 1 rfl rfl, trivial⟩) ?_
  intro V34_3 hc hH34_3
  have hV34_3 := Lib.hid hc
  clear hc hKq Kq hV34_2 hb hH34_2
  try simp only [Act.put, List.setIfInBounds_toArray, List.set_cons_zero, List.set_cons_succ]
  refine wpAnyH_take (i := 26) (oi := ⟨_, _, _, _, _, _⟩) (v := ?_) rfl (by kernel_rfl) (by kernel_rfl) (by kernel_rfl) (fun _ _ _ h => h) (Or.inl ⟨by rfl, ?_⟩) hH34_3 ?_
  rotate_left
  · intro wS hSw; (try dsimp only at hSw); go_simp; try with_reducible rfl
  try simp only [Act.put, List.setIfInBounds_toArray, List.set_cons_zero, List.set_cons_succ]
  refine wpAnyH_take (i := 27) (oi := ⟨_, _, _, _, _, _⟩) (v := ?_) rfl (by kernel_rfl) (by kernel_rfl) (by kernel_rfl) (fun _ _ _ h => h) (Or.inl ⟨by rfl, ?_⟩) hH34_3 ?_
  rotate_left
  · intro wS hSw; (try dsimp only at hSw); go_simp; try with_reducible rfl
  try simp only [Act.put, List.setIfInBounds_toArray, List.set_cons_zero, List.set_cons_succ]
  refine wpAnyH_take (i := 28) (oi := ⟨_, _, _, _, _, _⟩) (v := ?_) rfl (by kernel_rfl) (by kernel_rfl) (by kernel_rfl) (fun _ _ _ h => h) (Or.inl ⟨by rfl, ?_⟩) hH34_3 ?_
  rotate_left
  · intro wS hSw; (try dsimp only at hSw); go_simp; try with_reducible rfl
  try simp only [Act.put, List.setIfInBounds_toArray, List.set_cons_zero, List.set_cons_succ]
  refine wpAnyH_done (by kernel_rfl) ?_ _
  go_wp2_with fail
  refine (parseN_e HS.out HQ.out (b := 2) rfl).mono ?_
  rintro e w58 ⟨s58, a58, n58, c58, t58, d58, e58, f58, rfl, hz, hb⟩
  have hC58 : Hid (St w _ [(w3.heap.size, #[.slice a3 n3 c3, .bool m3], 28), (w4.heap.size, #[.slice a4 n4 c4, .bool m4, .slice d4 e4 f4], 48), (w58.heap.size, #[.int .i64 s58, .slice a58 n58 c58, .int .i64 t58, .slice d58 e58 f58], 54)] [fun V => Zd V (.slice a3 n3 c3) m3 (z), fun V => Rd V (.slice a4 n4 c4) m4 (.slice d4 e4 f4) (0), fun V => Nz V s32 (.slice a32 n32 c32) (z), fun V => Nq V s58 (.slice a58 n58 c58) t58 (.slice d58 e58 f58) (0)]) := Lib.hid (((hV34_3.out.call hb).pq hz).al w58.heap.size #[.int .i64 s58, .slice a58 n58 c58, .int .i64 t58, .slice d58 e58 f58] 54 rfl rfl)
  clear hz hb hV34_3
  have hR := Lib.hid (hC58.out.row (o := .cells #[.int .i64 0, .int .i64 4, .int .i64 9] 37))
  clear hC58
  have y10 := hR.out.cell 1 0 rfl rfl
  have y11 := hR.out.cell 1 1 rfl rfl
  have y12 := hR.out.cell 1 2 rfl rfl
  go_wp2_with fail
  refine (rsign_is (hR.out.r 1 rfl) (sgnQ_0 rfl)).mono ?_
  rintro e w61 ⟨rfl, hb⟩
  have hC61 : Hid (St w _ [(w3.heap.size, #[.slice a3 n3 c3, .bool m3], 28), (w4.heap.size, #[.slice a4 n4 c4, .bool m4, .slice d4 e4 f4], 48), (w58.heap.size, #[.int .i64 s58, .slice a58 n58 c58, .int .i64 t58, .slice d58 e58 f58], 54)] [fun V => Zd V (.slice a3 n3 c3) m3 (z), fun V => Rd V (.slice a4 n4 c4) m4 (.slice d4 e4 f4) (0), fun V => Nz V s32 (.slice a32 n32 c32) (z), fun V => Nq V s58 (.slice a58 n58 c58) t58 (.slice d58 e58 f58) (0)]) := Lib.hid (hR.out.call hb)
  clear hb hR
  clear y10 y11 y12
  go_wp2_with fail
  refine (awake_any _).mono ?_
  rintro e w62 ⟨rfl, hb⟩
  have hC62 : Hid (St w w62 [(w3.heap.size, #[.slice a3 n3 c3, .bool m3], 28), (w4.heap.size, #[.slice a4 n4 c4, .bool m4, .slice d4 e4 f4], 48), (w58.heap.size, #[.int .i64 s58, .slice a58 n58 c58, .int .i64 t58, .slice d58 e58 f58], 54)] [fun V => Zd V (.slice a3 n3 c3) m3 (z), fun V => Rd V (.slice a4 n4 c4) m4 (.slice d4 e4 f4) (0), fun V => Nz V s32 (.slice a32 n32 c32) (z), fun V => Nq V s58 (.slice a58 n58 c58) t58 (.slice d58 e58 f58) (0)]) := Lib.hid (hC61.out.call hb)
  clear hb hC61
  go_wp2
  go_ret
  exact ⟨rfl, hC62.out.be⟩

theorem wholeReads_walk (S : ByteArray) (w : World) : Calls Tryz.prog 4 #[.string S] w (fun e w' => e = .returned (.bool true) ∧ Below w.heap.size w w') := by
  by_cases h2 : 2000 < S.size
  · exact reads_2000 S w h2
  · by_cases h1 : 1000 < S.size
    · exact reads_1000 S w h1 (by omega)
    · have hs : S.size ≤ 1000 := by omega
      cases hz : Dec.zread S.data.toList with
      | none =>
        rcases rparse_cases (l := S.data.toList) (by rw [ba_len]; exact hs) with ⟨q, hq, hb⟩ | hq | hq
        · exact reads_n0 S w q hs hz hq hb
        · exact reads_n1 S w hs hz hq
        · exact reads_n2 S w hs hz hq
      | some z =>
        rcases rparse_cases (l := S.data.toList) (by rw [ba_len]; exact hs) with ⟨q, hq, hb⟩ | hq | hq
        · exact reads_z0 S w z q hs hz hq hb
        · exact reads_z1 S w z hs hz hq
        · exact reads_z2 S w z hs hz hq

end Go.Proofs.YtmfplelodnoicaaGreatDoor

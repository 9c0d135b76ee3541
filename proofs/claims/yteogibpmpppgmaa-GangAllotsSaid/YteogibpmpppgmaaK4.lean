/- is a list of numbers an allotment: ProveAllot and the reference's Allotted -/
import Derived.Test.YteogibpmpppgmaaH20
import Derived.Test.YteogibpmpppgmaaH5
namespace Go.Proofs.Yteogibpmpppgmaa
open Go.RowKit

def clash (l : List I2) (nums : List Int) (i k : Nat) : Bool := decide (nums.getD k 0 = nums.getD i 0) && meetsB (at0 l k) (at0 l i)
def rowOk (l : List I2) (nums : List Int) (n : Int) (i : Nat) : Bool := decide (0 ≤ nums.getD i 0) && decide (nums.getD i 0 < n) && (List.range i).all fun k => !clash l nums i k
def allotB (l : List I2) (nums : List Int) (n : Int) : Bool := decide (nums.length = l.length) && (List.range l.length).all (rowOk l nums n)
theorem allot_no {l : List I2} {nums : List Int} {n : Int} {i : Nat} (hi : i < l.length) (h : rowOk l nums n i = false) : allotB l nums n = false := by
  unfold allotB
  rw [Bool.and_eq_false_iff]
  right
  rw [List.all_eq_false]
  exact ⟨i, List.mem_range.2 hi, by rw [h]; decide⟩
theorem row_no {l : List I2} {nums : List Int} {n : Int} {i k : Nat} (hk : k < i) (h : clash l nums i k = true) : rowOk l nums n i = false := by
  unfold rowOk
  rw [Bool.and_eq_false_iff]
  right
  rw [List.all_eq_false]
  exact ⟨k, List.mem_range.2 hk, by rw [h]; decide⟩
theorem allot_yes {l : List I2} {nums : List Int} {n : Int} (hl : nums.length = l.length) (h : ∀ i, i < l.length → rowOk l nums n i = true) : allotB l nums n = true := by
  unfold allotB
  rw [Bool.and_eq_true, decide_eq_true_eq, List.all_eq_true]
  exact ⟨hl, fun i hi => h i (List.mem_range.1 hi)⟩
theorem row_yes {l : List I2} {nums : List Int} {n : Int} {i : Nat} (h0 : 0 ≤ nums.getD i 0) (h1 : nums.getD i 0 < n) (h : ∀ k, k < i → clash l nums i k = false) : rowOk l nums n i = true := by
  unfold rowOk
  rw [Bool.and_eq_true, Bool.and_eq_true, decide_eq_true_eq, decide_eq_true_eq, List.all_eq_true]
  exact ⟨⟨h0, h1⟩, fun k hk => by rw [h k (List.mem_range.1 hk)]; rfl⟩
theorem together_meets {u o : I2} (hu : goodUse u) (ho : goodUse o) : togetherB u o = meetsB u o := by
  unfold goodUse at hu ho
  unfold togetherB meetsB
  rw [← Bool.decide_and]
  refine decide_eq_decide.2 ?_
  omega
theorem nums_at {w W : World} {a : Option Addr} {n c : Nat} {l : List Int} (hs : Sx 1 w a n c (L1 l)) {k : Nat} (hk : k < n) (hW : Below w.heap.size w W) : ∃ g o, a = some ⟨g, o, none⟩ ∧ W.cell? ⟨g, o + k, none⟩ = some (.int .i64 (l.getD k 0)) := by
  have hl := hs.n1
  obtain ⟨g, o, rfl⟩ := hs.addr (by omega)
  refine ⟨g, o, rfl, ?_⟩
  rw [getD_at (by omega)]
  exact (hs.below hW).at1 (by omega)
section
variable (w : World)
set_option maxRecDepth 100000 in
set_option maxHeartbeats 8000000 in
theorem refAllotted_any (a a' : Option Addr) (m c m' c' : Nat) (l : List I2) (nums : List Int) (n : Int) (hs : Sx 2 w a m c (L2 l)) (hs' : Sx 1 w a' m' c' (L1 nums)) (hg : ∀ u ∈ l, goodUse u) (hl : m ≤ 1000) :
    Calls Try.prog 28 #[.slice a m c, .slice a' m' c', .int .i64 n] w (Gives (.bool (allotB l nums n)) w) := by
  obtain rfl := hs.n2
  obtain rfl := hs'.n1
  have HS := Lib.hid hs
  have HS' := Lib.hid hs'
  have HG := Lib.hid hg
  clear hg
  clear hs hs'
  by_cases hne : nums.length = l.length
  · have HNE := Lib.hid hne
    have hnb : ((nums.length : Int) != (l.length : Int)) = false := by simp; omega
    have hne1 : l.length ≤ nums.length := by omega
    clear hne
    go_enter Try.func28, Try.ntmps28
    go_wp2
    go_loopw [7] (fun iv wr => ∃ i : Nat, i ≤ l.length ∧ iv = .int .i64 i ∧ Hid (∀ j, j < i → rowOk l nums n j = true) ∧ Hid (Sy w wr [] [] [])) (fun iv _ => l.length - (intOf iv).toNat)
    case atStart => exact ⟨0, Nat.zero_le _, rfl, Lib.hid (fun j h => absurd h (Nat.not_lt_zero j)), Lib.hid (Sy.enter w)⟩
    case round =>
      obtain ⟨i, hi, rfl, hR, hC⟩ := hrel
      by_cases hlt : i < l.length
      · have hin : i < nums.length := by omega
        obtain ⟨g', o', rfl, x0⟩ := nums_at HS'.out hin hC.out.be
        obtain ⟨ni, hni⟩ : ∃ ni, nums.getD i 0 = ni := ⟨_, rfl⟩
        rw [hni] at x0
        have HNI := Lib.hid hni
        clear hni
        have i0 : (0 : Int) ≤ (i : Int) := by omega
        have i1 : (i : Int) < (l.length : Int) := by omega
        have i2 : (i : Int) < (nums.length : Int) := by omega
        by_cases hn0 : ni < 0
        · have HF := Lib.hid (show rowOk l nums n i = false from by unfold rowOk; rw [HNI.out, decide_eq_false (by omega)]; rfl)
          go_wp2
          go_ret
          exact ⟨by (rw [allot_no hlt (HF.out)]; rfl), hC.out.be⟩
        · by_cases hn1 : n ≤ ni
          · have HF := Lib.hid (show rowOk l nums n i = false from by unfold rowOk; rw [HNI.out, decide_eq_false (show ¬ ni < n by omega), Bool.and_false]; rfl)
            have hn1' : ni ≥ n := hn1
            go_wp2
            go_ret
            exact ⟨by (rw [allot_no hlt (HF.out)]; rfl), hC.out.be⟩
          · have HNB := Lib.hid (show 0 ≤ ni ∧ ni < n from by omega)
            have hn1' : ¬ ni ≥ n := hn1
            go_wp2
            go_loopw [8] (fun kv wr => ∃ k : Nat, k ≤ i ∧ kv = .int .i64 k ∧ Hid (∀ j, j < k → clash l nums i j = false) ∧ Hid (Sy w wr [] [] [])) (fun kv _ => i - (intOf kv).toNat)
            case atStart => exact ⟨0, Nat.zero_le _, rfl, Lib.hid (fun j h => absurd h (Nat.not_lt_zero j)), hC⟩
            case round =>
              clear hC
              obtain ⟨k, hk, rfl, hQ, hC⟩ := hrel
              by_cases hki : k < i
              · have hkl : k < l.length := by omega
                obtain ⟨g0, o0, rfl⟩ := HS.out.addr (by omega)
                have HNK := Lib.hid (fun W (hW : Below w.heap.size w W) => by
                  obtain ⟨g2, o2, e, h⟩ := nums_at HS'.out (show k < nums.length by omega) hW
                  cases e
                  exact h)
                have HNI2 := Lib.hid (fun W (hW : Below w.heap.size w W) => by
                  obtain ⟨g2, o2, e, h⟩ := nums_at HS'.out hin hW
                  cases e
                  rw [HNI.out] at h
                  exact h)
                obtain ⟨nk, hnk⟩ : ∃ nk, nums.getD k 0 = nk := ⟨_, rfl⟩
                rw [hnk] at HNK
                have HLK := Lib.hid (fun W (hW : Below w.heap.size w W) => (HS.out.below hW).at2 hkl)
                have HLI := Lib.hid (fun W (hW : Below w.heap.size w W) => (HS.out.below hW).at2 hlt)
                have HMT := Lib.hid (fun W => by
                  have h := together_any W l[k] l[i]
                  rw [together_meets (HG.out _ (List.getElem_mem hkl)) (HG.out _ (List.getElem_mem hlt))] at h
                  exact h)
                have HCL := Lib.hid (show clash l nums i k = (decide (nk = ni) && meetsB l[k] l[i]) from by unfold clash; rw [hnk, HNI.out, at0_at hkl, at0_at hlt])
                clear hnk
                generalize l[k] = p at *
                generalize l[i] = q at *
                obtain ⟨p0, p1⟩ := p
                obtain ⟨q0, q1⟩ := q
                dsimp only at HLK HLI HMT
                have k0 : (0 : Int) ≤ (k : Int) := by omega
                have k1 : (k : Int) < (l.length : Int) := by omega
                have k2 : (k : Int) < (nums.length : Int) := by omega
                by_cases hnn : nk = ni
                · have hnb2 : (nk == ni) = true := by simpa using hnn
                  have HNN := Lib.hid hnn
                  clear hnn
                  go_upto_region 11 with fail
                  clear x0
                  refine wp_region_held_drew (S := (fun w' => w'.cell? ⟨g', o' + k, none⟩ = some (.int .i64 nk) ∧ w'.cell? ⟨g', o' + i, none⟩ = some (.int .i64 ni) ∧ w'.cell? ⟨g0, o0 + k * 2, none⟩ = some (.int .i64 p0) ∧ w'.cell? ⟨g0, o0 + k * 2 + 1, none⟩ = some (.int .i64 p1) ∧ w'.cell? ⟨g0, o0 + i * 2, none⟩ = some (.int .i64 q0) ∧ w'.cell? ⟨g0, o0 + i * 2 + 1, none⟩ = some (.int .i64 q1) ∧ True)) (by kernel_rfl) ⟨HNK.out _ hC.out.drew.be, HNI2.out _ hC.out.drew.be, (HLK.out _ hC.out.drew.be).1, (HLK.out _ hC.out.drew.be).2, (HLI.out _ hC.out.drew.be).1, (HLI.out _ hC.out.drew.be).2, trivial⟩ (fun hH => ?_)
                  refine wpAnyH_geny (show Sy w _ [] [] [] from hC.out.drew) hH ?_
                  intro VPR_0 hc hHPR_0
                  have hVPR_0 := Lib.hid hc
                  clear hc hH hC
                  refine wpAnyH_take (i := 0) (oi := ⟨_, _, _, _, _, _⟩) (v := ?_) rfl (by kernel_rfl) (by kernel_rfl) (by kernel_rfl) (fun _ _ _ h => h) (Or.inl ⟨by rfl, ?_⟩) hHPR_0 ?_
                  rotate_left
                  · intro wS hSw; (try dsimp only at hSw); go_simp; try with_reducible rfl
                  try simp only [Act.put, List.setIfInBounds_toArray, List.set_cons_zero, List.set_cons_succ]
                  refine wpAnyH_take (i := 1) (oi := ⟨_, _, _, _, _, _⟩) (v := ?_) rfl (by kernel_rfl) (by kernel_rfl) (by kernel_rfl) (fun _ _ _ h => h) (Or.inl ⟨by rfl, ?_⟩) hHPR_0 ?_
                  rotate_left
                  · intro wS hSw; (try dsimp only at hSw); go_simp; try with_reducible rfl
                  try simp only [Act.put, List.setIfInBounds_toArray, List.set_cons_zero, List.set_cons_succ]
                  refine wpAnyH_take (i := 2) (oi := ⟨_, _, _, _, _, _⟩) (v := ?_) rfl (by kernel_rfl) (by kernel_rfl) (by kernel_rfl) (fun _ _ _ h => h) (Or.inl ⟨by rfl, ?_⟩) hHPR_0 ?_
                  rotate_left
                  · intro wS hSw; (try dsimp only at hSw); go_simp; try with_reducible rfl
                  try simp only [Act.put, List.setIfInBounds_toArray, List.set_cons_zero, List.set_cons_succ]
                  refine wpAnyH_take (i := 3) (oi := ⟨_, _, _, _, _, _⟩) (v := ?_) rfl (by kernel_rfl) (by kernel_rfl) (by kernel_rfl) (fun _ _ _ h => h) (Or.inl ⟨by rfl, ?_⟩) hHPR_0 ?_
                  rotate_left
                  · intro wS hSw; (try dsimp only at hSw); go_simp; try with_reducible rfl
                  try simp only [Act.put, List.setIfInBounds_toArray, List.set_cons_zero, List.set_cons_succ]
                  refine wpAnyH_take (i := 4) (oi := ⟨_, _, _, _, _, _⟩) (v := ?_) rfl (by kernel_rfl) (by kernel_rfl) (by kernel_rfl) (fun _ _ _ h => h) (Or.inl ⟨by rfl, ?_⟩) hHPR_0 ?_
                  rotate_left
                  · intro wS hSw; (try dsimp only at hSw); go_simp; try with_reducible rfl
                  try simp only [Act.put, List.setIfInBounds_toArray, List.set_cons_zero, List.set_cons_succ]
                  refine wpAnyH_take (i := 5) (oi := ⟨_, _, _, _, _, _⟩) (v := ?_) rfl (by kernel_rfl) (by kernel_rfl) (by kernel_rfl) (fun _ _ _ h => h) (Or.inl ⟨by rfl, ?_⟩) hHPR_0 ?_
                  rotate_left
                  · intro wS hSw; (try dsimp only at hSw); go_simp; try with_reducible rfl
                  try simp only [Act.put, List.setIfInBounds_toArray, List.set_cons_zero, List.set_cons_succ]
                  refine wpAnyH_take (i := 6) (oi := ⟨_, _, _, _, _, _⟩) (v := ?_) rfl (by kernel_rfl) (by kernel_rfl) (by kernel_rfl) (fun _ _ _ h => h) (Or.inl ⟨by rfl, ?_⟩) hHPR_0 ?_
                  rotate_left
                  · intro wS hSw; (try dsimp only at hSw); go_simp; try with_reducible rfl
                  try simp only [Act.put, List.setIfInBounds_toArray, List.set_cons_zero, List.set_cons_succ]
                  refine wpAnyH_take (i := 7) (oi := ⟨_, _, _, _, _, _⟩) (v := ?_) rfl (by kernel_rfl) (by kernel_rfl) (by kernel_rfl) (fun _ _ _ h => h) (Or.inl ⟨by rfl, ?_⟩) hHPR_0 ?_
                  rotate_left
                  · intro wS hSw; (try dsimp only at hSw); go_simp; try with_reducible rfl
                  try simp only [Act.put, List.setIfInBounds_toArray, List.set_cons_zero, List.set_cons_succ]
                  refine wpAnyH_take (i := 8) (oi := ⟨_, _, _, _, _, _⟩) (v := ?_) rfl (by kernel_rfl) (by kernel_rfl) (by kernel_rfl) (fun _ _ _ h => h) (Or.inl ⟨by rfl, ?_⟩) hHPR_0 ?_
                  rotate_left
                  · intro wS hSw; (try dsimp only at hSw); go_simp; try with_reducible rfl
                  try simp only [Act.put, List.setIfInBounds_toArray, List.set_cons_zero, List.set_cons_succ]
                  refine wpAnyH_take (i := 9) (oi := ⟨_, _, _, _, _, _⟩) (v := ?_) rfl (by kernel_rfl) (by kernel_rfl) (by kernel_rfl) (fun _ _ _ h => h) (Or.inl ⟨by rfl, ?_⟩) hHPR_0 ?_
                  rotate_left
                  · intro wS hSw; (try dsimp only at hSw); go_simp; try with_reducible rfl
                  try simp only [Act.put, List.setIfInBounds_toArray, List.set_cons_zero, List.set_cons_succ]
                  refine wpAnyH_take (i := 10) (oi := ⟨_, _, _, _, _, _⟩) (v := ?_) rfl (by kernel_rfl) (by kernel_rfl) (by kernel_rfl) (fun _ _ _ h => h) (Or.inl ⟨by rfl, ?_⟩) hHPR_0 ?_
                  rotate_left
                  · intro wS hSw; (try dsimp only at hSw); go_simp; try with_reducible rfl
                  try simp only [Act.put, List.setIfInBounds_toArray, List.set_cons_zero, List.set_cons_succ]
                  refine wpAnyH_take (i := 11) (oi := ⟨_, _, _, _, _, _⟩) (v := ?_) rfl (by kernel_rfl) (by kernel_rfl) (by kernel_rfl) (fun _ _ _ h => h) (Or.inl ⟨by rfl, ?_⟩) hHPR_0 ?_
                  rotate_left
                  · intro wS hSw; (try dsimp only at hSw); go_simp; try with_reducible rfl
                  try simp only [Act.put, List.setIfInBounds_toArray, List.set_cons_zero, List.set_cons_succ]
                  refine wpAnyH_take (i := 12) (oi := ⟨_, _, _, _, _, _⟩) (v := ?_) rfl (by kernel_rfl) (by kernel_rfl) (by kernel_rfl) (fun _ _ _ h => h) (Or.inl ⟨by rfl, ?_⟩) hHPR_0 ?_
                  rotate_left
                  · intro wS hSw; (try dsimp only at hSw); go_simp; try with_reducible rfl
                  try simp only [Act.put, List.setIfInBounds_toArray, List.set_cons_zero, List.set_cons_succ]
                  refine wpAnyH_take (i := 13) (oi := ⟨_, _, _, _, _, _⟩) (v := ?_) rfl (by kernel_rfl) (by kernel_rfl) (by kernel_rfl) (fun _ _ _ h => h) (Or.inl ⟨by rfl, ?_⟩) hHPR_0 ?_
                  rotate_left
                  · intro wS hSw; (try dsimp only at hSw); go_simp; try with_reducible rfl
                  try simp only [Act.put, List.setIfInBounds_toArray, List.set_cons_zero, List.set_cons_succ]
                  refine wpAnyH_take (i := 14) (oi := ⟨_, _, _, _, _, _⟩) (v := ?_) rfl (by kernel_rfl) (by kernel_rfl) (by kernel_rfl) (fun _ _ _ h => h) (Or.inl ⟨by rfl, ?_⟩) hHPR_0 ?_
                  rotate_left
                  · intro wS hSw; (try dsimp only at hSw); go_simp; try with_reducible rfl
                  try simp only [Act.put, List.setIfInBounds_toArray, List.set_cons_zero, List.set_cons_succ]
                  refine wpAnyH_take (i := 15) (oi := ⟨_, _, _, _, _, _⟩) (v := ?_) rfl (by kernel_rfl) (by kernel_rfl) (by kernel_rfl) (fun _ _ _ h => h) (Or.inl ⟨by rfl, ?_⟩) hHPR_0 ?_
                  rotate_left
                  · intro wS hSw; (try dsimp only at hSw); go_simp; try with_reducible rfl
                  try simp only [Act.put, List.setIfInBounds_toArray, List.set_cons_zero, List.set_cons_succ]
                  refine wpAnyH_take (i := 16) (oi := ⟨_, _, _, _, _, _⟩) (v := ?_) rfl (by kernel_rfl) (by kernel_rfl) (by kernel_rfl) (fun _ _ _ h => h) (Or.inl ⟨by rfl, ?_⟩) hHPR_0 ?_
                  rotate_left
                  · intro wS hSw; (try dsimp only at hSw); go_simp; try with_reducible rfl
                  try simp only [Act.put, List.setIfInBounds_toArray, List.set_cons_zero, List.set_cons_succ]
                  refine wpAnyH_take (i := 17) (oi := ⟨_, _, _, _, _, _⟩) (v := ?_) rfl (by kernel_rfl) (by kernel_rfl) (by kernel_rfl) (fun _ _ _ h => h) (Or.inl ⟨by rfl, ?_⟩) hHPR_0 ?_
                  rotate_left
                  · intro wS hSw; (try dsimp only at hSw); go_simp; try with_reducible rfl
                  try simp only [Act.put, List.setIfInBounds_toArray, List.set_cons_zero, List.set_cons_succ]
                  refine wpAnyH_ready (rs := [18]) (by kernel_rfl) (by simp) ?_
                  refine AllReadyH.cons (o := ⟨_, _, _, _, _, _⟩) rfl (fun Kq hKq => ?_) AllReadyH.nil
                  go_simp
                  go_at_call 49
                  refine (HMT.out _).mono ?_
                  rintro e wT ⟨rfl, hb⟩
                  (try go_wp2_with fail)
                  refine stepY hKq (show Sy w _ [] [] [] from (hVPR_0.out.call hb)) (fun _ hX => ⟨HNK.out _ hX.be, HNI2.out _ hX.be, (HLK.out _ hX.be).1, (HLK.out _ hX.be).2, (HLI.out _ hX.be).1, (HLI.out _ hX.be).2, trivial⟩) ?_
                  intro VPR_1 hc hHPR_1
                  have hVPR_1 := Lib.hid hc
                  clear hc hKq Kq hVPR_0 hb hHPR_0
                  try simp only [Act.put, List.setIfInBounds_toArray, List.set_cons_zero, List.set_cons_succ]
                  refine wpAnyH_take (i := 19) (oi := ⟨_, _, _, _, _, _⟩) (v := ?_) rfl (by kernel_rfl) (by kernel_rfl) (by kernel_rfl) (fun _ _ _ h => h) (Or.inl ⟨by rfl, ?_⟩) hHPR_1 ?_
                  rotate_left
                  · intro wS hSw; (try dsimp only at hSw); go_simp; try with_reducible rfl
                  try simp only [Act.put, List.setIfInBounds_toArray, List.set_cons_zero, List.set_cons_succ]
                  refine wpAnyH_done (by kernel_rfl) ?_ _
                  cases hmt : meetsB (p0, p1) (q0, q1)
                  · have HQ2 := Lib.hid (show clash l nums i k = false from by rw [HCL.out, hmt, Bool.and_false])
                    clear hmt
                    go_wp2
                    go_roundw
                    case rel =>
                      refine ⟨k + 1, by omega, by go_num, Lib.hid (fun j hj => ?_), hVPR_1⟩
                      rcases Nat.lt_or_ge j k with h | h
                      · exact hQ.out j h
                      · rw [show j = k by omega]; exact HQ2.out
                    case measure => simp [intOf]; omega
                  · have HF := Lib.hid (show rowOk l nums n i = false from row_no hki (by rw [HCL.out, hmt, HNN.out]; simp))
                    clear hmt
                    go_wp2
                    go_ret
                    exact ⟨by (rw [allot_no hlt (HF.out)]; rfl), hVPR_1.out.be⟩
                · have HQ2 := Lib.hid (show clash l nums i k = false from by rw [HCL.out, decide_eq_false hnn, Bool.false_and])
                  have hnb2 : (nk == ni) = false := by simpa using hnn
                  clear hnn
                  go_upto_region 11 with fail
                  clear x0
                  refine wp_region_held_drew (S := (fun w' => w'.cell? ⟨g', o' + k, none⟩ = some (.int .i64 nk) ∧ w'.cell? ⟨g', o' + i, none⟩ = some (.int .i64 ni) ∧ True)) (by kernel_rfl) ⟨HNK.out _ hC.out.drew.be, HNI2.out _ hC.out.drew.be, trivial⟩ (fun hH => ?_)
                  refine wpAnyH_geny (show Sy w _ [] [] [] from hC.out.drew) hH ?_
                  intro VNR_0 hc hHNR_0
                  have hVNR_0 := Lib.hid hc
                  clear hc hH hC
                  refine wpAnyH_take (i := 0) (oi := ⟨_, _, _, _, _, _⟩) (v := ?_) rfl (by kernel_rfl) (by kernel_rfl) (by kernel_rfl) (fun _ _ _ h => h) (Or.inl ⟨by rfl, ?_⟩) hHNR_0 ?_
                  rotate_left
                  · intro wS hSw; (try dsimp only at hSw); go_simp; try with_reducible rfl
                  try simp only [Act.put, List.setIfInBounds_toArray, List.set_cons_zero, List.set_cons_succ]
                  refine wpAnyH_take (i := 1) (oi := ⟨_, _, _, _, _, _⟩) (v := ?_) rfl (by kernel_rfl) (by kernel_rfl) (by kernel_rfl) (fun _ _ _ h => h) (Or.inl ⟨by rfl, ?_⟩) hHNR_0 ?_
                  rotate_left
                  · intro wS hSw; (try dsimp only at hSw); go_simp; try with_reducible rfl
                  try simp only [Act.put, List.setIfInBounds_toArray, List.set_cons_zero, List.set_cons_succ]
                  refine wpAnyH_take (i := 2) (oi := ⟨_, _, _, _, _, _⟩) (v := ?_) rfl (by kernel_rfl) (by kernel_rfl) (by kernel_rfl) (fun _ _ _ h => h) (Or.inl ⟨by rfl, ?_⟩) hHNR_0 ?_
                  rotate_left
                  · intro wS hSw; (try dsimp only at hSw); go_simp; try with_reducible rfl
                  try simp only [Act.put, List.setIfInBounds_toArray, List.set_cons_zero, List.set_cons_succ]
                  refine wpAnyH_take (i := 3) (oi := ⟨_, _, _, _, _, _⟩) (v := ?_) rfl (by kernel_rfl) (by kernel_rfl) (by kernel_rfl) (fun _ _ _ h => h) (Or.inl ⟨by rfl, ?_⟩) hHNR_0 ?_
                  rotate_left
                  · intro wS hSw; (try dsimp only at hSw); go_simp; try with_reducible rfl
                  try simp only [Act.put, List.setIfInBounds_toArray, List.set_cons_zero, List.set_cons_succ]
                  refine wpAnyH_take (i := 4) (oi := ⟨_, _, _, _, _, _⟩) (v := ?_) rfl (by kernel_rfl) (by kernel_rfl) (by kernel_rfl) (fun _ _ _ h => h) (Or.inl ⟨by rfl, ?_⟩) hHNR_0 ?_
                  rotate_left
                  · intro wS hSw; (try dsimp only at hSw); go_simp; try with_reducible rfl
                  try simp only [Act.put, List.setIfInBounds_toArray, List.set_cons_zero, List.set_cons_succ]
                  refine wpAnyH_take (i := 5) (oi := ⟨_, _, _, _, _, _⟩) (v := ?_) rfl (by kernel_rfl) (by kernel_rfl) (by kernel_rfl) (fun _ _ _ h => h) (Or.inl ⟨by rfl, ?_⟩) hHNR_0 ?_
                  rotate_left
                  · intro wS hSw; (try dsimp only at hSw); go_simp; try with_reducible rfl
                  try simp only [Act.put, List.setIfInBounds_toArray, List.set_cons_zero, List.set_cons_succ]
                  refine wpAnyH_take (i := 6) (oi := ⟨_, _, _, _, _, _⟩) (v := ?_) rfl (by kernel_rfl) (by kernel_rfl) (by kernel_rfl) (fun _ _ _ h => h) (Or.inl ⟨by rfl, ?_⟩) hHNR_0 ?_
                  rotate_left
                  · intro wS hSw; (try dsimp only at hSw); go_simp; try with_reducible rfl
                  try simp only [Act.put, List.setIfInBounds_toArray, List.set_cons_zero, List.set_cons_succ]
                  refine wpAnyH_take (i := 7) (oi := ⟨_, _, _, _, _, _⟩) (v := ?_) rfl (by kernel_rfl) (by kernel_rfl) (by kernel_rfl) (fun _ _ _ h => h) (Or.inl ⟨by rfl, ?_⟩) hHNR_0 ?_
                  rotate_left
                  · intro wS hSw; (try dsimp only at hSw); go_simp; try with_reducible rfl
                  try simp only [Act.put, List.setIfInBounds_toArray, List.set_cons_zero, List.set_cons_succ]
                  refine wpAnyH_take (i := 8) (oi := ⟨_, _, _, _, _, _⟩) (v := ?_) rfl (by kernel_rfl) (by kernel_rfl) (by kernel_rfl) (fun _ _ _ h => h) (Or.inl ⟨by rfl, ?_⟩) hHNR_0 ?_
                  rotate_left
                  · intro wS hSw; (try dsimp only at hSw); go_simp; try with_reducible rfl
                  try simp only [Act.put, List.setIfInBounds_toArray, List.set_cons_zero, List.set_cons_succ]
                  refine wpAnyH_take (i := 9) (oi := ⟨_, _, _, _, _, _⟩) (v := ?_) rfl (by kernel_rfl) (by kernel_rfl) (by kernel_rfl) (fun _ _ _ h => h) (Or.inl ⟨by rfl, ?_⟩) hHNR_0 ?_
                  rotate_left
                  · intro wS hSw; (try dsimp only at hSw); go_simp; try with_reducible rfl
                  try simp only [Act.put, List.setIfInBounds_toArray, List.set_cons_zero, List.set_cons_succ]
                  refine wpAnyH_take (i := 10) (oi := ⟨_, _, _, _, _, _⟩) (v := undef) rfl (by kernel_rfl) (by kernel_rfl) (by kernel_rfl) (fun _ _ _ h => h) (Or.inr ⟨by rfl, rfl⟩) hHNR_0 ?_
                  try simp only [Act.put, List.setIfInBounds_toArray, List.set_cons_zero, List.set_cons_succ]
                  refine wpAnyH_take (i := 11) (oi := ⟨_, _, _, _, _, _⟩) (v := undef) rfl (by kernel_rfl) (by kernel_rfl) (by kernel_rfl) (fun _ _ _ h => h) (Or.inr ⟨by rfl, rfl⟩) hHNR_0 ?_
                  try simp only [Act.put, List.setIfInBounds_toArray, List.set_cons_zero, List.set_cons_succ]
                  refine wpAnyH_take (i := 12) (oi := ⟨_, _, _, _, _, _⟩) (v := undef) rfl (by kernel_rfl) (by kernel_rfl) (by kernel_rfl) (fun _ _ _ h => h) (Or.inr ⟨by rfl, rfl⟩) hHNR_0 ?_
                  try simp only [Act.put, List.setIfInBounds_toArray, List.set_cons_zero, List.set_cons_succ]
                  refine wpAnyH_take (i := 13) (oi := ⟨_, _, _, _, _, _⟩) (v := undef) rfl (by kernel_rfl) (by kernel_rfl) (by kernel_rfl) (fun _ _ _ h => h) (Or.inr ⟨by rfl, rfl⟩) hHNR_0 ?_
                  try simp only [Act.put, List.setIfInBounds_toArray, List.set_cons_zero, List.set_cons_succ]
                  refine wpAnyH_take (i := 14) (oi := ⟨_, _, _, _, _, _⟩) (v := undef) rfl (by kernel_rfl) (by kernel_rfl) (by kernel_rfl) (fun _ _ _ h => h) (Or.inr ⟨by rfl, rfl⟩) hHNR_0 ?_
                  try simp only [Act.put, List.setIfInBounds_toArray, List.set_cons_zero, List.set_cons_succ]
                  refine wpAnyH_take (i := 15) (oi := ⟨_, _, _, _, _, _⟩) (v := undef) rfl (by kernel_rfl) (by kernel_rfl) (by kernel_rfl) (fun _ _ _ h => h) (Or.inr ⟨by rfl, rfl⟩) hHNR_0 ?_
                  try simp only [Act.put, List.setIfInBounds_toArray, List.set_cons_zero, List.set_cons_succ]
                  refine wpAnyH_take (i := 16) (oi := ⟨_, _, _, _, _, _⟩) (v := undef) rfl (by kernel_rfl) (by kernel_rfl) (by kernel_rfl) (fun _ _ _ h => h) (Or.inr ⟨by rfl, rfl⟩) hHNR_0 ?_
                  try simp only [Act.put, List.setIfInBounds_toArray, List.set_cons_zero, List.set_cons_succ]
                  refine wpAnyH_take (i := 17) (oi := ⟨_, _, _, _, _, _⟩) (v := undef) rfl (by kernel_rfl) (by kernel_rfl) (by kernel_rfl) (fun _ _ _ h => h) (Or.inr ⟨by rfl, rfl⟩) hHNR_0 ?_
                  try simp only [Act.put, List.setIfInBounds_toArray, List.set_cons_zero, List.set_cons_succ]
                  refine wpAnyH_take (i := 18) (oi := ⟨_, _, _, _, _, _⟩) (v := undef) rfl (by kernel_rfl) (by kernel_rfl) (by kernel_rfl) (fun _ _ _ h => h) (Or.inr ⟨by rfl, rfl⟩) hHNR_0 ?_
                  try simp only [Act.put, List.setIfInBounds_toArray, List.set_cons_zero, List.set_cons_succ]
                  refine wpAnyH_take (i := 19) (oi := ⟨_, _, _, _, _, _⟩) (v := ?_) rfl (by kernel_rfl) (by kernel_rfl) (by kernel_rfl) (fun _ _ _ h => h) (Or.inl ⟨by rfl, ?_⟩) hHNR_0 ?_
                  rotate_left
                  · intro wS hSw; (try dsimp only at hSw); go_simp; try with_reducible rfl
                  try simp only [Act.put, List.setIfInBounds_toArray, List.set_cons_zero, List.set_cons_succ]
                  refine wpAnyH_done (by kernel_rfl) ?_ _
                  go_wp2
                  go_roundw
                  case rel =>
                    refine ⟨k + 1, by omega, by go_num, Lib.hid (fun j hj => ?_), hVNR_0⟩
                    rcases Nat.lt_or_ge j k with h | h
                    · exact hQ.out j h
                    · rw [show j = k by omega]; exact HQ2.out
                  case measure => simp [intOf]; omega
              · obtain rfl : k = i := by omega
                have HROW := Lib.hid (show rowOk l nums n k = true from row_yes (by rw [HNI.out]; exact HNB.out.1) (by rw [HNI.out]; exact HNB.out.2) hQ.out)
                go_wp2
                go_roundw
                case rel =>
                  refine ⟨k + 1, by omega, by go_num, Lib.hid (fun j hj => ?_), hC⟩
                  rcases Nat.lt_or_ge j k with h | h
                  · exact hR.out j h
                  · rw [show j = k by omega]; exact HROW.out
                case measure => simp [intOf]; omega
      · obtain rfl : i = l.length := by omega
        have HY := Lib.hid (allot_yes HNE.out hR.out)
        have hx : ¬ (l.length : Int) < (nums.length : Int) := by have := HNE.out; omega
        have hx2 : ¬ l.length < nums.length := by have := HNE.out; omega
        go_wp2
        go_ret
        exact ⟨by rw [HY.out]; rfl, hC.out.be⟩
  · have HF := Lib.hid (show allotB l nums n = false from by unfold allotB; rw [decide_eq_false hne]; rfl)
    have hnb : ((nums.length : Int) != (l.length : Int)) = true := by simp; omega
    go_enter Try.func28, Try.ntmps28
    go_wp2
    go_ret
    exact ⟨by rw [HF.out]; rfl, Below.refl _ _⟩
set_option maxRecDepth 100000 in
set_option maxHeartbeats 8000000 in
theorem proveAllot_any (a a' : Option Addr) (m c m' c' : Nat) (l : List I2) (nums : List Int) (n d : Int) (hs : Sx 2 w a m c (L2 l)) (hs' : Sx 1 w a' m' c' (L1 nums)) (hl : m ≤ 1000) :
    Calls Try.prog 27 #[.slice a m c, .slice a' m' c', .int .i64 n, .int .i64 d] w (Gives (.bool (!usesBad l && allotB l nums n && (decide (n = 0) || decide (0 < n) && decide ((onB l d : Int) = n)))) w) := by
  obtain rfl := hs.n2
  obtain rfl := hs'.n1
  have HS := Lib.hid hs
  have HS' := Lib.hid hs'
  have HWU := Lib.hid (wrongUses_any w a l.length c l hs)
  clear hs hs'
  obtain ⟨ans, hans⟩ : ∃ ans, (!usesBad l && allotB l nums n && (decide (n = 0) || decide (0 < n) && decide ((onB l d : Int) = n))) = ans := ⟨_, rfl⟩
  rw [hans]
  have HANS := Lib.hid hans
  clear hans
  cases hub : usesBad l
  · have HON := Lib.hid (fun W (hW : Below w.heap.size w W) => on_any W a l.length c l d (HS.out.below hW) (fun u hu => by have := (uses_good hub).2 u hu; unfold goodUse at this; omega) hl)
    rw [hub] at HWU HANS
    by_cases hne : nums.length = l.length
    · have HNE := Lib.hid hne
      have hnb : ((nums.length : Int) != (l.length : Int)) = false := by simp; omega
      have hne1 : l.length ≤ nums.length := by omega
      clear hne
      go_enter Try.func27, Try.ntmps27
      go_wp2_with fail
      refine HWU.out.mono ?_
      rintro e W1 ⟨rfl, hb⟩
      have hC := Lib.hid ((Sy.enter w).call hb)
      clear hb HWU
      go_wp2
      go_loopw [23] (fun iv wr => ∃ i : Nat, i ≤ l.length ∧ iv = .int .i64 i ∧ Hid (∀ j, j < i → rowOk l nums n j = true) ∧ Hid (Sy w wr [] [] [])) (fun iv _ => l.length - (intOf iv).toNat)
      case atStart => exact ⟨0, Nat.zero_le _, rfl, Lib.hid (fun j h => absurd h (Nat.not_lt_zero j)), hC⟩
      case round =>
        clear hC
        obtain ⟨i, hi, rfl, hR, hC⟩ := hrel
        by_cases hlt : i < l.length
        · have hin : i < nums.length := by omega
          obtain ⟨g', o', rfl, x0⟩ := nums_at HS'.out hin hC.out.be
          obtain ⟨ni, hni⟩ : ∃ ni, nums.getD i 0 = ni := ⟨_, rfl⟩
          rw [hni] at x0
          have HNI := Lib.hid hni
          clear hni
          have i0 : (0 : Int) ≤ (i : Int) := by omega
          have i1 : (i : Int) < (l.length : Int) := by omega
          have i2 : (i : Int) < (nums.length : Int) := by omega
          by_cases hn0 : ni < 0
          · have HF := Lib.hid (show rowOk l nums n i = false from by unfold rowOk; rw [HNI.out, decide_eq_false (by omega)]; rfl)
            go_wp2
            go_ret
            exact ⟨by exact ret_bool (show false = ans from by rw [← HANS.out, allot_no hlt (HF.out)]; simp), hC.out.be⟩
          · by_cases hn1 : n ≤ ni
            · have HF := Lib.hid (show rowOk l nums n i = false from by unfold rowOk; rw [HNI.out, decide_eq_false (show ¬ ni < n by omega), Bool.and_false]; rfl)
              have hn1' : ni ≥ n := hn1
              go_wp2
              go_ret
              exact ⟨by exact ret_bool (show false = ans from by rw [← HANS.out, allot_no hlt (HF.out)]; simp), hC.out.be⟩
            · have HNB := Lib.hid (show 0 ≤ ni ∧ ni < n from by omega)
              have hn1' : ¬ ni ≥ n := hn1
              go_wp2
              go_loopw [36] (fun kv wr => ∃ k : Nat, k ≤ i ∧ kv = .int .i64 k ∧ Hid (∀ j, j < k → clash l nums i j = false) ∧ Hid (Sy w wr [] [] [])) (fun kv _ => i - (intOf kv).toNat)
              case atStart => exact ⟨0, Nat.zero_le _, rfl, Lib.hid (fun j h => absurd h (Nat.not_lt_zero j)), hC⟩
              case round =>
                clear hC
                obtain ⟨k, hk, rfl, hQ, hC⟩ := hrel
                by_cases hki : k < i
                · have hkl : k < l.length := by omega
                  obtain ⟨g0, o0, rfl⟩ := HS.out.addr (by omega)
                  have HNK := Lib.hid (fun W (hW : Below w.heap.size w W) => by
                    obtain ⟨g2, o2, e, h⟩ := nums_at HS'.out (show k < nums.length by omega) hW
                    cases e
                    exact h)
                  have HNI2 := Lib.hid (fun W (hW : Below w.heap.size w W) => by
                    obtain ⟨g2, o2, e, h⟩ := nums_at HS'.out hin hW
                    cases e
                    rw [HNI.out] at h
                    exact h)
                  obtain ⟨nk, hnk⟩ : ∃ nk, nums.getD k 0 = nk := ⟨_, rfl⟩
                  rw [hnk] at HNK
                  have HLK := Lib.hid (fun W (hW : Below w.heap.size w W) => (HS.out.below hW).at2 hkl)
                  have HLI := Lib.hid (fun W (hW : Below w.heap.size w W) => (HS.out.below hW).at2 hlt)
                  have HMT := Lib.hid (fun W => meets_any W l[k] l[i])
                  have HCL := Lib.hid (show clash l nums i k = (decide (nk = ni) && meetsB l[k] l[i]) from by unfold clash; rw [hnk, HNI.out, at0_at hkl, at0_at hlt])
                  clear hnk
                  generalize l[k] = p at *
                  generalize l[i] = q at *
                  obtain ⟨p0, p1⟩ := p
                  obtain ⟨q0, q1⟩ := q
                  dsimp only at HLK HLI HMT
                  have k0 : (0 : Int) ≤ (k : Int) := by omega
                  have k1 : (k : Int) < (l.length : Int) := by omega
                  have k2 : (k : Int) < (nums.length : Int) := by omega
                  by_cases hnn : nk = ni
                  · have hnb2 : (nk == ni) = true := by simpa using hnn
                    have HNN := Lib.hid hnn
                    clear hnn
                    go_upto_region 11 with fail
                    clear x0
                    refine wp_region_held_drew (S := (fun w' => w'.cell? ⟨g', o' + k, none⟩ = some (.int .i64 nk) ∧ w'.cell? ⟨g0, o0 + k * 2, none⟩ = some (.int .i64 p0) ∧ w'.cell? ⟨g0, o0 + k * 2 + 1, none⟩ = some (.int .i64 p1) ∧ w'.cell? ⟨g0, o0 + i * 2, none⟩ = some (.int .i64 q0) ∧ w'.cell? ⟨g0, o0 + i * 2 + 1, none⟩ = some (.int .i64 q1) ∧ True)) (by kernel_rfl) ⟨HNK.out _ hC.out.drew.be, (HLK.out _ hC.out.drew.be).1, (HLK.out _ hC.out.drew.be).2, (HLI.out _ hC.out.drew.be).1, (HLI.out _ hC.out.drew.be).2, trivial⟩ (fun hH => ?_)
                    refine wpAnyH_geny (show Sy w _ [] [] [] from hC.out.drew) hH ?_
                    intro VPG_0 hc hHPG_0
                    have hVPG_0 := Lib.hid hc
                    clear hc hH hC
                    refine wpAnyH_take (i := 0) (oi := ⟨_, _, _, _, _, _⟩) (v := ?_) rfl (by kernel_rfl) (by kernel_rfl) (by kernel_rfl) (fun _ _ _ h => h) (Or.inl ⟨by rfl, ?_⟩) hHPG_0 ?_
                    rotate_left
                    · intro wS hSw; (try dsimp only at hSw); go_simp; try with_reducible rfl
                    try simp only [Act.put, List.setIfInBounds_toArray, List.set_cons_zero, List.set_cons_succ]
                    refine wpAnyH_take (i := 1) (oi := ⟨_, _, _, _, _, _⟩) (v := ?_) rfl (by kernel_rfl) (by kernel_rfl) (by kernel_rfl) (fun _ _ _ h => h) (Or.inl ⟨by rfl, ?_⟩) hHPG_0 ?_
                    rotate_left
                    · intro wS hSw; (try dsimp only at hSw); go_simp; try with_reducible rfl
                    try simp only [Act.put, List.setIfInBounds_toArray, List.set_cons_zero, List.set_cons_succ]
                    refine wpAnyH_take (i := 2) (oi := ⟨_, _, _, _, _, _⟩) (v := ?_) rfl (by kernel_rfl) (by kernel_rfl) (by kernel_rfl) (fun _ _ _ h => h) (Or.inl ⟨by rfl, ?_⟩) hHPG_0 ?_
                    rotate_left
                    · intro wS hSw; (try dsimp only at hSw); go_simp; try with_reducible rfl
                    try simp only [Act.put, List.setIfInBounds_toArray, List.set_cons_zero, List.set_cons_succ]
                    refine wpAnyH_take (i := 3) (oi := ⟨_, _, _, _, _, _⟩) (v := ?_) rfl (by kernel_rfl) (by kernel_rfl) (by kernel_rfl) (fun _ _ _ h => h) (Or.inl ⟨by rfl, ?_⟩) hHPG_0 ?_
                    rotate_left
                    · intro wS hSw; (try dsimp only at hSw); go_simp; try with_reducible rfl
                    try simp only [Act.put, List.setIfInBounds_toArray, List.set_cons_zero, List.set_cons_succ]
                    refine wpAnyH_take (i := 4) (oi := ⟨_, _, _, _, _, _⟩) (v := ?_) rfl (by kernel_rfl) (by kernel_rfl) (by kernel_rfl) (fun _ _ _ h => h) (Or.inl ⟨by rfl, ?_⟩) hHPG_0 ?_
                    rotate_left
                    · intro wS hSw; (try dsimp only at hSw); go_simp; try with_reducible rfl
                    try simp only [Act.put, List.setIfInBounds_toArray, List.set_cons_zero, List.set_cons_succ]
                    refine wpAnyH_take (i := 5) (oi := ⟨_, _, _, _, _, _⟩) (v := ?_) rfl (by kernel_rfl) (by kernel_rfl) (by kernel_rfl) (fun _ _ _ h => h) (Or.inl ⟨by rfl, ?_⟩) hHPG_0 ?_
                    rotate_left
                    · intro wS hSw; (try dsimp only at hSw); go_simp; try with_reducible rfl
                    try simp only [Act.put, List.setIfInBounds_toArray, List.set_cons_zero, List.set_cons_succ]
                    refine wpAnyH_take (i := 6) (oi := ⟨_, _, _, _, _, _⟩) (v := ?_) rfl (by kernel_rfl) (by kernel_rfl) (by kernel_rfl) (fun _ _ _ h => h) (Or.inl ⟨by rfl, ?_⟩) hHPG_0 ?_
                    rotate_left
                    · intro wS hSw; (try dsimp only at hSw); go_simp; try with_reducible rfl
                    try simp only [Act.put, List.setIfInBounds_toArray, List.set_cons_zero, List.set_cons_succ]
                    refine wpAnyH_take (i := 7) (oi := ⟨_, _, _, _, _, _⟩) (v := ?_) rfl (by kernel_rfl) (by kernel_rfl) (by kernel_rfl) (fun _ _ _ h => h) (Or.inl ⟨by rfl, ?_⟩) hHPG_0 ?_
                    rotate_left
                    · intro wS hSw; (try dsimp only at hSw); go_simp; try with_reducible rfl
                    try simp only [Act.put, List.setIfInBounds_toArray, List.set_cons_zero, List.set_cons_succ]
                    refine wpAnyH_take (i := 8) (oi := ⟨_, _, _, _, _, _⟩) (v := ?_) rfl (by kernel_rfl) (by kernel_rfl) (by kernel_rfl) (fun _ _ _ h => h) (Or.inl ⟨by rfl, ?_⟩) hHPG_0 ?_
                    rotate_left
                    · intro wS hSw; (try dsimp only at hSw); go_simp; try with_reducible rfl
                    try simp only [Act.put, List.setIfInBounds_toArray, List.set_cons_zero, List.set_cons_succ]
                    refine wpAnyH_take (i := 9) (oi := ⟨_, _, _, _, _, _⟩) (v := ?_) rfl (by kernel_rfl) (by kernel_rfl) (by kernel_rfl) (fun _ _ _ h => h) (Or.inl ⟨by rfl, ?_⟩) hHPG_0 ?_
                    rotate_left
                    · intro wS hSw; (try dsimp only at hSw); go_simp; try with_reducible rfl
                    try simp only [Act.put, List.setIfInBounds_toArray, List.set_cons_zero, List.set_cons_succ]
                    refine wpAnyH_take (i := 10) (oi := ⟨_, _, _, _, _, _⟩) (v := ?_) rfl (by kernel_rfl) (by kernel_rfl) (by kernel_rfl) (fun _ _ _ h => h) (Or.inl ⟨by rfl, ?_⟩) hHPG_0 ?_
                    rotate_left
                    · intro wS hSw; (try dsimp only at hSw); go_simp; try with_reducible rfl
                    try simp only [Act.put, List.setIfInBounds_toArray, List.set_cons_zero, List.set_cons_succ]
                    refine wpAnyH_take (i := 11) (oi := ⟨_, _, _, _, _, _⟩) (v := ?_) rfl (by kernel_rfl) (by kernel_rfl) (by kernel_rfl) (fun _ _ _ h => h) (Or.inl ⟨by rfl, ?_⟩) hHPG_0 ?_
                    rotate_left
                    · intro wS hSw; (try dsimp only at hSw); go_simp; try with_reducible rfl
                    try simp only [Act.put, List.setIfInBounds_toArray, List.set_cons_zero, List.set_cons_succ]
                    refine wpAnyH_take (i := 12) (oi := ⟨_, _, _, _, _, _⟩) (v := ?_) rfl (by kernel_rfl) (by kernel_rfl) (by kernel_rfl) (fun _ _ _ h => h) (Or.inl ⟨by rfl, ?_⟩) hHPG_0 ?_
                    rotate_left
                    · intro wS hSw; (try dsimp only at hSw); go_simp; try with_reducible rfl
                    try simp only [Act.put, List.setIfInBounds_toArray, List.set_cons_zero, List.set_cons_succ]
                    refine wpAnyH_take (i := 13) (oi := ⟨_, _, _, _, _, _⟩) (v := ?_) rfl (by kernel_rfl) (by kernel_rfl) (by kernel_rfl) (fun _ _ _ h => h) (Or.inl ⟨by rfl, ?_⟩) hHPG_0 ?_
                    rotate_left
                    · intro wS hSw; (try dsimp only at hSw); go_simp; try with_reducible rfl
                    try simp only [Act.put, List.setIfInBounds_toArray, List.set_cons_zero, List.set_cons_succ]
                    refine wpAnyH_take (i := 14) (oi := ⟨_, _, _, _, _, _⟩) (v := ?_) rfl (by kernel_rfl) (by kernel_rfl) (by kernel_rfl) (fun _ _ _ h => h) (Or.inl ⟨by rfl, ?_⟩) hHPG_0 ?_
                    rotate_left
                    · intro wS hSw; (try dsimp only at hSw); go_simp; try with_reducible rfl
                    try simp only [Act.put, List.setIfInBounds_toArray, List.set_cons_zero, List.set_cons_succ]
                    refine wpAnyH_ready (rs := [15]) (by kernel_rfl) (by simp) ?_
                    refine AllReadyH.cons (o := ⟨_, _, _, _, _, _⟩) rfl (fun Kq hKq => ?_) AllReadyH.nil
                    go_simp
                    go_at_call 47
                    refine (HMT.out _).mono ?_
                    rintro e wT ⟨rfl, hb⟩
                    (try go_wp2_with fail)
                    refine stepY hKq (show Sy w _ [] [] [] from (hVPG_0.out.call hb)) (fun _ hX => ⟨HNK.out _ hX.be, (HLK.out _ hX.be).1, (HLK.out _ hX.be).2, (HLI.out _ hX.be).1, (HLI.out _ hX.be).2, trivial⟩) ?_
                    intro VPG_1 hc hHPG_1
                    have hVPG_1 := Lib.hid hc
                    clear hc hKq Kq hVPG_0 hb hHPG_0
                    try simp only [Act.put, List.setIfInBounds_toArray, List.set_cons_zero, List.set_cons_succ]
                    refine wpAnyH_take (i := 16) (oi := ⟨_, _, _, _, _, _⟩) (v := ?_) rfl (by kernel_rfl) (by kernel_rfl) (by kernel_rfl) (fun _ _ _ h => h) (Or.inl ⟨by rfl, ?_⟩) hHPG_1 ?_
                    rotate_left
                    · intro wS hSw; (try dsimp only at hSw); go_simp; try with_reducible rfl
                    try simp only [Act.put, List.setIfInBounds_toArray, List.set_cons_zero, List.set_cons_succ]
                    refine wpAnyH_done (by kernel_rfl) ?_ _
                    cases hmt : meetsB (p0, p1) (q0, q1)
                    · have HQ2 := Lib.hid (show clash l nums i k = false from by rw [HCL.out, hmt, Bool.and_false])
                      clear hmt
                      go_wp2
                      go_roundw
                      case rel =>
                        refine ⟨k + 1, by omega, by go_num, Lib.hid (fun j hj => ?_), hVPG_1⟩
                        rcases Nat.lt_or_ge j k with h | h
                        · exact hQ.out j h
                        · rw [show j = k by omega]; exact HQ2.out
                      case measure => simp [intOf]; omega
                    · have HF := Lib.hid (show rowOk l nums n i = false from row_no hki (by rw [HCL.out, hmt, HNN.out]; simp))
                      clear hmt
                      go_wp2
                      go_ret
                      exact ⟨by exact ret_bool (show false = ans from by rw [← HANS.out, allot_no hlt (HF.out)]; simp), hVPG_1.out.be⟩
                  · have HQ2 := Lib.hid (show clash l nums i k = false from by rw [HCL.out, decide_eq_false hnn, Bool.false_and])
                    have hnb2 : (nk == ni) = false := by simpa using hnn
                    clear hnn
                    go_upto_region 11 with fail
                    clear x0
                    refine wp_region_held_drew (S := (fun w' => w'.cell? ⟨g', o' + k, none⟩ = some (.int .i64 nk) ∧ True)) (by kernel_rfl) ⟨HNK.out _ hC.out.drew.be, trivial⟩ (fun hH => ?_)
                    refine wpAnyH_geny (show Sy w _ [] [] [] from hC.out.drew) hH ?_
                    intro VNG_0 hc hHNG_0
                    have hVNG_0 := Lib.hid hc
                    clear hc hH hC
                    refine wpAnyH_take (i := 0) (oi := ⟨_, _, _, _, _, _⟩) (v := ?_) rfl (by kernel_rfl) (by kernel_rfl) (by kernel_rfl) (fun _ _ _ h => h) (Or.inl ⟨by rfl, ?_⟩) hHNG_0 ?_
                    rotate_left
                    · intro wS hSw; (try dsimp only at hSw); go_simp; try with_reducible rfl
                    try simp only [Act.put, List.setIfInBounds_toArray, List.set_cons_zero, List.set_cons_succ]
                    refine wpAnyH_take (i := 1) (oi := ⟨_, _, _, _, _, _⟩) (v := ?_) rfl (by kernel_rfl) (by kernel_rfl) (by kernel_rfl) (fun _ _ _ h => h) (Or.inl ⟨by rfl, ?_⟩) hHNG_0 ?_
                    rotate_left
                    · intro wS hSw; (try dsimp only at hSw); go_simp; try with_reducible rfl
                    try simp only [Act.put, List.setIfInBounds_toArray, List.set_cons_zero, List.set_cons_succ]
                    refine wpAnyH_take (i := 2) (oi := ⟨_, _, _, _, _, _⟩) (v := ?_) rfl (by kernel_rfl) (by kernel_rfl) (by kernel_rfl) (fun _ _ _ h => h) (Or.inl ⟨by rfl, ?_⟩) hHNG_0 ?_
                    rotate_left
                    · intro wS hSw; (try dsimp only at hSw); go_simp; try with_reducible rfl
                    try simp only [Act.put, List.setIfInBounds_toArray, List.set_cons_zero, List.set_cons_succ]
                    refine wpAnyH_take (i := 3) (oi := ⟨_, _, _, _, _, _⟩) (v := ?_) rfl (by kernel_rfl) (by kernel_rfl) (by kernel_rfl) (fun _ _ _ h => h) (Or.inl ⟨by rfl, ?_⟩) hHNG_0 ?_
                    rotate_left
                    · intro wS hSw; (try dsimp only at hSw); go_simp; try with_reducible rfl
                    try simp only [Act.put, List.setIfInBounds_toArray, List.set_cons_zero, List.set_cons_succ]
                    refine wpAnyH_take (i := 4) (oi := ⟨_, _, _, _, _, _⟩) (v := ?_) rfl (by kernel_rfl) (by kernel_rfl) (by kernel_rfl) (fun _ _ _ h => h) (Or.inl ⟨by rfl, ?_⟩) hHNG_0 ?_
                    rotate_left
                    · intro wS hSw; (try dsimp only at hSw); go_simp; try with_reducible rfl
                    try simp only [Act.put, List.setIfInBounds_toArray, List.set_cons_zero, List.set_cons_succ]
                    refine wpAnyH_take (i := 5) (oi := ⟨_, _, _, _, _, _⟩) (v := ?_) rfl (by kernel_rfl) (by kernel_rfl) (by kernel_rfl) (fun _ _ _ h => h) (Or.inl ⟨by rfl, ?_⟩) hHNG_0 ?_
                    rotate_left
                    · intro wS hSw; (try dsimp only at hSw); go_simp; try with_reducible rfl
                    try simp only [Act.put, List.setIfInBounds_toArray, List.set_cons_zero, List.set_cons_succ]
                    refine wpAnyH_take (i := 6) (oi := ⟨_, _, _, _, _, _⟩) (v := ?_) rfl (by kernel_rfl) (by kernel_rfl) (by kernel_rfl) (fun _ _ _ h => h) (Or.inl ⟨by rfl, ?_⟩) hHNG_0 ?_
                    rotate_left
                    · intro wS hSw; (try dsimp only at hSw); go_simp; try with_reducible rfl
                    try simp only [Act.put, List.setIfInBounds_toArray, List.set_cons_zero, List.set_cons_succ]
                    refine wpAnyH_take (i := 7) (oi := ⟨_, _, _, _, _, _⟩) (v := undef) rfl (by kernel_rfl) (by kernel_rfl) (by kernel_rfl) (fun _ _ _ h => h) (Or.inr ⟨by rfl, rfl⟩) hHNG_0 ?_
                    try simp only [Act.put, List.setIfInBounds_toArray, List.set_cons_zero, List.set_cons_succ]
                    refine wpAnyH_take (i := 8) (oi := ⟨_, _, _, _, _, _⟩) (v := undef) rfl (by kernel_rfl) (by kernel_rfl) (by kernel_rfl) (fun _ _ _ h => h) (Or.inr ⟨by rfl, rfl⟩) hHNG_0 ?_
                    try simp only [Act.put, List.setIfInBounds_toArray, List.set_cons_zero, List.set_cons_succ]
                    refine wpAnyH_take (i := 9) (oi := ⟨_, _, _, _, _, _⟩) (v := undef) rfl (by kernel_rfl) (by kernel_rfl) (by kernel_rfl) (fun _ _ _ h => h) (Or.inr ⟨by rfl, rfl⟩) hHNG_0 ?_
                    try simp only [Act.put, List.setIfInBounds_toArray, List.set_cons_zero, List.set_cons_succ]
                    refine wpAnyH_take (i := 10) (oi := ⟨_, _, _, _, _, _⟩) (v := undef) rfl (by kernel_rfl) (by kernel_rfl) (by kernel_rfl) (fun _ _ _ h => h) (Or.inr ⟨by rfl, rfl⟩) hHNG_0 ?_
                    try simp only [Act.put, List.setIfInBounds_toArray, List.set_cons_zero, List.set_cons_succ]
                    refine wpAnyH_take (i := 11) (oi := ⟨_, _, _, _, _, _⟩) (v := undef) rfl (by kernel_rfl) (by kernel_rfl) (by kernel_rfl) (fun _ _ _ h => h) (Or.inr ⟨by rfl, rfl⟩) hHNG_0 ?_
                    try simp only [Act.put, List.setIfInBounds_toArray, List.set_cons_zero, List.set_cons_succ]
                    refine wpAnyH_take (i := 12) (oi := ⟨_, _, _, _, _, _⟩) (v := undef) rfl (by kernel_rfl) (by kernel_rfl) (by kernel_rfl) (fun _ _ _ h => h) (Or.inr ⟨by rfl, rfl⟩) hHNG_0 ?_
                    try simp only [Act.put, List.setIfInBounds_toArray, List.set_cons_zero, List.set_cons_succ]
                    refine wpAnyH_take (i := 13) (oi := ⟨_, _, _, _, _, _⟩) (v := undef) rfl (by kernel_rfl) (by kernel_rfl) (by kernel_rfl) (fun _ _ _ h => h) (Or.inr ⟨by rfl, rfl⟩) hHNG_0 ?_
                    try simp only [Act.put, List.setIfInBounds_toArray, List.set_cons_zero, List.set_cons_succ]
                    refine wpAnyH_take (i := 14) (oi := ⟨_, _, _, _, _, _⟩) (v := undef) rfl (by kernel_rfl) (by kernel_rfl) (by kernel_rfl) (fun _ _ _ h => h) (Or.inr ⟨by rfl, rfl⟩) hHNG_0 ?_
                    try simp only [Act.put, List.setIfInBounds_toArray, List.set_cons_zero, List.set_cons_succ]
                    refine wpAnyH_take (i := 15) (oi := ⟨_, _, _, _, _, _⟩) (v := undef) rfl (by kernel_rfl) (by kernel_rfl) (by kernel_rfl) (fun _ _ _ h => h) (Or.inr ⟨by rfl, rfl⟩) hHNG_0 ?_
                    try simp only [Act.put, List.setIfInBounds_toArray, List.set_cons_zero, List.set_cons_succ]
                    refine wpAnyH_take (i := 16) (oi := ⟨_, _, _, _, _, _⟩) (v := ?_) rfl (by kernel_rfl) (by kernel_rfl) (by kernel_rfl) (fun _ _ _ h => h) (Or.inl ⟨by rfl, ?_⟩) hHNG_0 ?_
                    rotate_left
                    · intro wS hSw; (try dsimp only at hSw); go_simp; try with_reducible rfl
                    try simp only [Act.put, List.setIfInBounds_toArray, List.set_cons_zero, List.set_cons_succ]
                    refine wpAnyH_done (by kernel_rfl) ?_ _
                    go_wp2
                    go_roundw
                    case rel =>
                      refine ⟨k + 1, by omega, by go_num, Lib.hid (fun j hj => ?_), hVNG_0⟩
                      rcases Nat.lt_or_ge j k with h | h
                      · exact hQ.out j h
                      · rw [show j = k by omega]; exact HQ2.out
                    case measure => simp [intOf]; omega
                · obtain rfl : k = i := by omega
                  have HROW := Lib.hid (show rowOk l nums n k = true from row_yes (by rw [HNI.out]; exact HNB.out.1) (by rw [HNI.out]; exact HNB.out.2) hQ.out)
                  go_wp2
                  go_roundw
                  case rel =>
                    refine ⟨k + 1, by omega, by go_num, Lib.hid (fun j hj => ?_), hC⟩
                    rcases Nat.lt_or_ge j k with h | h
                    · exact hR.out j h
                    · rw [show j = k by omega]; exact HROW.out
                  case measure => simp [intOf]; omega
        · obtain rfl : i = l.length := by omega
          have HY := Lib.hid (allot_yes HNE.out hR.out)
          have hx : ¬ (l.length : Int) < (nums.length : Int) := by have := HNE.out; omega
          have hx2 : ¬ l.length < nums.length := by have := HNE.out; omega
          rcases Int.lt_trichotomy n 0 with hn | hn | hn
          · have h1 : ¬ n = 0 := by omega
            have h2 : ¬ 0 < n := by omega
            have hb1 : (n == 0) = false := by simpa using h1
            have h3 : ¬ n > 0 := h2
            have HFX := Lib.hid (show (!false && allotB l nums n && (decide (n = 0) || decide (0 < n) && decide ((onB l d : Int) = n))) = false from by rw [decide_eq_false h1, decide_eq_false h2]; simp)
            clear h2
            go_wp2
            go_ret
            exact ⟨ret_bool (show _ = ans from by rw [← HANS.out, HFX.out]), hC.out.be⟩
          · have hb1 : (n == 0) = true := by simpa using hn
            have HFX := Lib.hid (show (!false && allotB l nums n && (decide (n = 0) || decide (0 < n) && decide ((onB l d : Int) = n))) = true from by rw [decide_eq_true hn, HY.out]; simp)
            clear hn
            go_wp2
            go_ret
            exact ⟨ret_bool (show _ = ans from by rw [← HANS.out, HFX.out]), hC.out.be⟩
          · have h1 : ¬ n = 0 := by omega
            have hb1 : (n == 0) = false := by simpa using h1
            have h3 : n > 0 := hn
            have HFX := Lib.hid (show (!false && allotB l nums n && (decide (n = 0) || decide (0 < n) && decide ((onB l d : Int) = n))) = decide ((onB l d : Int) = n) from by rw [decide_eq_false h1, decide_eq_true hn, HY.out]; simp)
            have HO2 := Lib.hid (HON.out _ hC.out.be)
            rw [sum_on] at HO2
            clear h1
            go_wp2_with fail
            refine HO2.out.mono ?_
            rintro e V ⟨rfl, hb⟩
            have hD := Lib.hid (hC.out.call hb)
            clear hb HO2
            go_wp2
            go_ret
            refine ⟨ret_bool (show _ = ans from ?_), hD.out.be⟩
            rw [← HANS.out, HFX.out]
            by_cases h : (onB l d : Int) = n <;> simp [h]
    · have HF := Lib.hid (show allotB l nums n = false from by unfold allotB; rw [decide_eq_false hne]; rfl)
      have hnb : ((nums.length : Int) != (l.length : Int)) = true := by simp; omega
      go_enter Try.func27, Try.ntmps27
      go_wp2_with fail
      refine HWU.out.mono ?_
      rintro e W1 ⟨rfl, hb⟩
      have hC := Lib.hid ((Sy.enter w).call hb)
      clear hb HWU
      go_wp2
      go_ret
      exact ⟨ret_bool (show false = ans from by rw [← HANS.out, HF.out]; simp), hC.out.be⟩
  · rw [hub] at HWU HANS
    go_enter Try.func27, Try.ntmps27
    go_wp2_with fail
    refine HWU.out.mono ?_
    rintro e W1 ⟨rfl, hb⟩
    have hC := Lib.hid ((Sy.enter w).call hb)
    clear hb HWU
    go_wp2
    go_ret
    exact ⟨ret_bool (show false = ans from by rw [← HANS.out]; simp), hC.out.be⟩
end
end Go.Proofs.Yteogibpmpppgmaa

/- the law GangAllotted, walked -/
import Derived.Test.YteogibpmpppgmaaGreatK4
import Derived.Test.YteogibpmpppgmaaGreatH21
import Derived.Test.YteogibpmpppgmaaGreatH4
namespace Go.Proofs.YteogibpmpppgmaaGreat
open Go.RowKit

theorem bads_eq (l : List I2) : (!(decide (60 < l.length) || l.any badU)) = !usesBad l := rfl
theorem allot_zero {l : List I2} {nums : List Int} (h : allotB l nums 0 = true) : l.length = 0 := by
  unfold allotB at h
  rw [Bool.and_eq_true, List.all_eq_true] at h
  apply Classical.byContradiction
  intro hl
  have h1 := h.2 0 (List.mem_range.2 (by omega))
  unfold rowOk at h1
  rw [Bool.and_eq_true, Bool.and_eq_true, decide_eq_true_eq, decide_eq_true_eq] at h1
  omega
theorem bool_beq (b : Bool) : (b == b) = true := by cases b <;> rfl
section
variable (w : World)
set_option maxRecDepth 100000 in
set_option maxHeartbeats 4000000 in
theorem gangAllotted_walk (a a' : Option Addr) (m c m' c' : Nat) (l : List I2) (nums : List Int) (n d : Int) (hs : Sx 2 w a m c (L2 l)) (hs' : Sx 1 w a' m' c' (L1 nums)) : Calls Tryz.prog 6 #[.slice a m c, .slice a' m' c', .int .i64 n, .int .i64 d] w (Gives (.bool true) w) := by
  have hcap := hs.cap
  have hcap' := hs'.cap
  unfold maxLen at hcap hcap'
  obtain rfl := hs.n2
  obtain rfl := hs'.n1
  have HW := Lib.hid wakes_any
  have HS := Lib.hid hs
  have HS' := Lib.hid hs'
  clear hs hs'
  by_cases h70 : 70 < l.length ∨ 70 < nums.length
  · rcases Nat.lt_or_ge 70 l.length with h1 | h1
    · have g1 : ((l.length : Int) > 70) := by omega
      go_enter Tryz.func6, Tryz.ntmps6
      go_wp2_with fail
      refine (HW.out _).mono ?_
      rintro e V ⟨rfl, hb⟩
      have hC := Lib.hid ((Sy.enter w).call hb)
      clear hb
      go_wp2
      go_ret
      exact ⟨rfl, hC.out.be⟩
    · have g1 : ¬ ((l.length : Int) > 70) := by omega
      have g2 : ((nums.length : Int) > 70) := by omega
      go_enter Tryz.func6, Tryz.ntmps6
      go_wp2_with fail
      refine (HW.out _).mono ?_
      rintro e V ⟨rfl, hb⟩
      have hC := Lib.hid ((Sy.enter w).call hb)
      clear hb
      go_wp2
      go_ret
      exact ⟨rfl, hC.out.be⟩
  · have g1 : ¬ ((l.length : Int) > 70) := by omega
    have g2 : ¬ ((nums.length : Int) > 70) := by omega
    have hl70 : l.length ≤ 70 := by omega
    clear h70
    obtain ⟨ans, hans⟩ : ∃ ans, (!usesBad l && allotB l nums n && (decide (n = 0) || decide (0 < n) && decide ((onB l d : Int) = n))) = ans := ⟨_, rfl⟩
    have HP := Lib.hid (fun W (a2 : Option Addr) (c2 : Nat) (h : Sx 2 W a2 l.length c2 (L2 l)) (h' : Sx 1 W a' nums.length c' (L1 nums)) => proveAllot_any W a2 a' l.length c2 nums.length c' l nums n d h h' (by omega))
    rw [hans] at HP
    have HRU := Lib.hid (refUses_any a l.length c l w HS.out)
    rw [bads_eq] at HRU
    have HCV := Lib.hid (fun W (hW : Below w.heap.size w W) => conv_Use a l.length c l W (HS.out.below hW) (by omega))
    have finish : ∀ (W : World), Below w.heap.size w W → True := fun _ _ => trivial
    clear finish
    cases hub : usesBad l
    · have HA := Lib.hid (fun W (hW : Below w.heap.size w W) => refAllotted_any W a a' l.length c nums.length c' l nums n (HS.out.below hW) (HS'.out.below hW) (uses_good hub).2 (by omega))
      have HO := Lib.hid (fun W (hW : Below w.heap.size w W) => refOn_any W a l.length c l d (HS.out.below hW))
      rw [hub] at HRU hans
      clear hub
      cases hal : allotB l nums n
      · rw [hal] at HA hans
        have hfa : ans = false := by rw [← hans]; rfl
        subst hfa
        clear hans hal
        go_enter Tryz.func6, Tryz.ntmps6
        go_wp2_with fail
        refine HRU.out.mono ?_
        rintro e W1 ⟨rfl, hb⟩
        have hB := Lib.hid ((Sy.enter w).call hb)
        clear hb
        go_wp2_with fail
        refine (HA.out _ hB.out.be).mono ?_
        rintro e W2 ⟨rfl, hb⟩
        have hC := Lib.hid (hB.out.call hb)
        clear hb hB
        go_wp2_with fail
        refine (HCV.out _ hC.out.be).mono ?_
        rintro e W3 ⟨a1, c1, rfl, hr, hb⟩
        have hD := Lib.hid (hC.out.adopt hb hr)
        clear hb hr hC
        go_wp2_with fail
        refine (HP.out W3 a1 c1 (hD.out.osx 0 rfl) (hD.out.sx HS'.out)).mono ?_
        rintro e W4 ⟨rfl, hb⟩
        have hE := Lib.hid (hD.out.call hb)
        clear hb hD
        go_wp2_with fail
        refine (HW.out _).mono ?_
        rintro e V ⟨rfl, hb⟩
        have hF := Lib.hid (hE.out.call hb)
        clear hb
        go_wp2
        go_ret
        exact ⟨rfl, hF.out.be⟩
      · rw [hal] at HA hans
        have HAL := Lib.hid hal
        clear hal
        rcases Int.lt_trichotomy n 0 with hn | hn | hn
        · have h1 : ¬ n = 0 := by omega
          have h2 : ¬ 0 < n := by omega
          have hb1 : (n == 0) = false := by simpa using h1
          have h3 : ¬ n > 0 := h2
          have hfa : ans = false := by rw [← hans, decide_eq_false h1, decide_eq_false h2]; rfl
          subst hfa
          clear hans h1 h2 hn
          go_enter Tryz.func6, Tryz.ntmps6
          go_wp2_with fail
          refine HRU.out.mono ?_
          rintro e W1 ⟨rfl, hb⟩
          have hB := Lib.hid ((Sy.enter w).call hb)
          clear hb
          go_wp2_with fail
          refine (HA.out _ hB.out.be).mono ?_
          rintro e W2 ⟨rfl, hb⟩
          have hC := Lib.hid (hB.out.call hb)
          clear hb hB
          go_wp2_with fail
          refine (HCV.out _ hC.out.be).mono ?_
          rintro e W3 ⟨a1, c1, rfl, hr, hb⟩
          have hD := Lib.hid (hC.out.adopt hb hr)
          clear hb hr hC
          go_wp2_with fail
          refine (HP.out W3 a1 c1 (hD.out.osx 0 rfl) (hD.out.sx HS'.out)).mono ?_
          rintro e W4 ⟨rfl, hb⟩
          have hE := Lib.hid (hD.out.call hb)
          clear hb hD
          go_wp2_with fail
          refine (HW.out _).mono ?_
          rintro e V ⟨rfl, hb⟩
          have hF := Lib.hid (hE.out.call hb)
          clear hb
          go_wp2
          go_ret
          exact ⟨rfl, hF.out.be⟩
        · subst hn
          have h0 := allot_zero HAL.out
          have h00 : ((l.length : Int) == 0) = true := by simp [h0]
          have hfa : ans = true := by rw [← hans]; rfl
          subst hfa
          clear hans h0
          go_enter Tryz.func6, Tryz.ntmps6
          go_wp2_with fail
          refine HRU.out.mono ?_
          rintro e W1 ⟨rfl, hb⟩
          have hB := Lib.hid ((Sy.enter w).call hb)
          clear hb
          go_wp2_with fail
          refine (HA.out _ hB.out.be).mono ?_
          rintro e W2 ⟨rfl, hb⟩
          have hC := Lib.hid (hB.out.call hb)
          clear hb hB
          go_wp2_with fail
          refine (HCV.out _ hC.out.be).mono ?_
          rintro e W3 ⟨a1, c1, rfl, hr, hb⟩
          have hD := Lib.hid (hC.out.adopt hb hr)
          clear hb hr hC
          go_wp2_with fail
          refine (HP.out W3 a1 c1 (hD.out.osx 0 rfl) (hD.out.sx HS'.out)).mono ?_
          rintro e W4 ⟨rfl, hb⟩
          have hE := Lib.hid (hD.out.call hb)
          clear hb hD
          go_wp2_with fail
          refine (HW.out _).mono ?_
          rintro e V ⟨rfl, hb⟩
          have hF := Lib.hid (hE.out.call hb)
          clear hb
          go_wp2
          go_ret
          exact ⟨rfl, hF.out.be⟩
        · have h1 : ¬ n = 0 := by omega
          have hb1 : (n == 0) = false := by simpa using h1
          have h3 : n > 0 := hn
          have hfa : ((onB l d : Int) == n) = ans := by
            rw [← hans, decide_eq_false h1, decide_eq_true hn]
            by_cases h : (onB l d : Int) = n <;> simp [h]
          generalize (onB l d : Int) = od at *
          clear hans h1
          go_enter Tryz.func6, Tryz.ntmps6
          go_wp2_with fail
          refine HRU.out.mono ?_
          rintro e W1 ⟨rfl, hb⟩
          have hB := Lib.hid ((Sy.enter w).call hb)
          clear hb
          go_wp2_with fail
          refine (HA.out _ hB.out.be).mono ?_
          rintro e W2 ⟨rfl, hb⟩
          have hC := Lib.hid (hB.out.call hb)
          clear hb hB
          go_wp2_with fail
          refine (HO.out _ hC.out.be).mono ?_
          rintro e W2' ⟨rfl, hb⟩
          have hC' := Lib.hid (hC.out.call hb)
          clear hb hC
          go_wp2_with fail
          refine (HCV.out _ hC'.out.be).mono ?_
          rintro e W3 ⟨a1, c1, rfl, hr, hb⟩
          have hD := Lib.hid (hC'.out.adopt hb hr)
          clear hb hr hC'
          go_wp2_with fail
          refine (HP.out W3 a1 c1 (hD.out.osx 0 rfl) (hD.out.sx HS'.out)).mono ?_
          rintro e W4 ⟨rfl, hb⟩
          have hE := Lib.hid (hD.out.call hb)
          clear hb hD
          have hbb := bool_beq ans
          go_wp2_with fail
          refine (HW.out _).mono ?_
          rintro e V ⟨rfl, hb⟩
          have hF := Lib.hid (hE.out.call hb)
          clear hb
          go_wp2
          go_ret
          exact ⟨rfl, hF.out.be⟩
    · rw [hub] at HRU hans
      have hfa : ans = false := by rw [← hans]; rfl
      subst hfa
      clear hans hub
      go_enter Tryz.func6, Tryz.ntmps6
      go_wp2_with fail
      refine HRU.out.mono ?_
      rintro e W1 ⟨rfl, hb⟩
      have hC := Lib.hid ((Sy.enter w).call hb)
      clear hb
      go_wp2_with fail
      refine (HCV.out _ hC.out.be).mono ?_
      rintro e W3 ⟨a1, c1, rfl, hr, hb⟩
      have hD := Lib.hid (hC.out.adopt hb hr)
      clear hb hr hC
      go_wp2_with fail
      refine (HP.out W3 a1 c1 (hD.out.osx 0 rfl) (hD.out.sx HS'.out)).mono ?_
      rintro e W4 ⟨rfl, hb⟩
      have hE := Lib.hid (hD.out.call hb)
      clear hb hD
      go_wp2_with fail
      refine (HW.out _).mono ?_
      rintro e V ⟨rfl, hb⟩
      have hF := Lib.hid (hE.out.call hb)
      clear hb
      go_wp2
      go_ret
      exact ⟨rfl, hF.out.be⟩
end
end Go.Proofs.YteogibpmpppgmaaGreat

/- Allot of no uses; the law GangFrames, walked -/
import Derived.Test.YteogibpmpppgmaaM7
import Derived.Test.YteogibpmpppgmaaH20
import Derived.Test.YteogibpmpppgmaaK4
import Derived.Test.YteogibpmpppgmaaH21
import Derived.Test.YteogibpmpppgmaaH4
import Derived.Test.YteogibpmpppgmaaH3
namespace Go.Proofs.Yteogibpmpppgmaa
open Go.RowKit

section
variable (w : World)
set_option maxRecDepth 100000 in
set_option maxHeartbeats 1000000 in
theorem insertion_nil (f : Value) : Calls Try.prog 77 #[.slice none 0 0, .int .i64 0, .int .i64 0, f] w fun e w' => e = .returned (.tuple #[]) ∧ w' = w := by
  go_enter Try.func77, Try.ntmps77
  go_wp2
  refine wp_loop_once ?_
  go_wp2
  go_end0
  exact ⟨rfl, rfl⟩
set_option maxRecDepth 100000 in
set_option maxHeartbeats 1000000 in
theorem stable_nil (f : Value) : Calls Try.prog 67 #[.slice none 0 0, .int .i64 0, f] w fun e w' => e = .returned (.tuple #[]) ∧ w' = w := by
  go_enter Try.func67, Try.ntmps67
  go_wp2
  refine wp_loop_once ?_
  go_wp2_with fail
  refine (insertion_nil _ f).mono ?_
  rintro e w1 ⟨rfl, rfl⟩
  go_wp2
  refine wp_loop_once ?_
  go_wp2
  go_end0
  exact ⟨rfl, rfl⟩
set_option maxRecDepth 100000 in
set_option maxHeartbeats 1000000 in
theorem sortStable_nil (f : Value) : Calls Try.prog 45 #[.slice none 0 0, f] w fun e w' => e = .returned (.tuple #[]) ∧ w' = w := by
  go_enter Try.func45, Try.ntmps45
  go_wp2_with fail
  refine (stable_nil _ f).mono ?_
  rintro e w1 ⟨rfl, rfl⟩
  go_wp2
  go_end0
  exact ⟨rfl, rfl⟩
set_option maxRecDepth 100000 in
set_option maxHeartbeats 2000000 in
theorem allot_nil (a : Option Addr) (c : Nat) (hs : Sx 2 w a 0 c (L2 [])) : Calls Try.prog 17 #[.slice a 0 c] w (Gives (.tuple #[.slice none 0 0, .int .i64 0, .int .i64 0, .int .i64 0]) w) := by
  have HW := Lib.hid (fun W (hW : Below w.heap.size w W) => wrongUses_any W a 0 c [] (hs.below hW))
  rw [show usesBad [] = false from rfl] at HW
  clear hs
  have hC := Lib.hid ((Sy.enter w).al w.heap.size #[.slice a 0 c] 42 rfl)
  go_enter Try.func17, Try.ntmps17
  go_wp2_with fail
  refine (HW.out _ hC.out.be).mono ?_
  rintro e V ⟨rfl, hb⟩
  have hD := Lib.hid (hC.out.call hb)
  clear hb hC
  have c0 := hD.out.cell 0 0 rfl rfl
  go_wp2
  refine wp_loop_once ?_
  go_wp2_with fail
  refine (sortStable_nil _ _).mono ?_
  rintro e w1 ⟨rfl, rfl⟩
  go_wp2
  refine wp_loop_once ?_
  go_wp2
  refine bodyPost_ret (results_tmp4 rfl _ _ _) rfl ?_
  exact ⟨rfl, hD.out.be⟩
end
theorem allotB_iff {l : List I2} {nums : List Int} {n : Int} : allotB l nums n = true ↔ allotted l nums n := by
  constructor
  · intro h
    have hlen : nums.length = l.length := by
      unfold allotB at h
      rw [Bool.and_eq_true, decide_eq_true_eq] at h
      exact h.1
    have hrow : ∀ i, i < l.length → rowOk l nums n i = true := fun i hi => by
      cases hr : rowOk l nums n i
      · rw [allot_no hi hr] at h; cases h
      · rfl
    have hgd : ∀ i, i < l.length → nums.getD i 0 = nums.getD i (-1) := fun i hi => by
      rw [List.getD_eq_getElem?_getD, List.getD_eq_getElem?_getD, List.getElem?_eq_getElem (by omega)]; rfl
    refine ⟨hlen, fun k hk => ?_, ?_⟩
    · have h1 := hrow k hk
      unfold rowOk at h1
      rw [Bool.and_eq_true, Bool.and_eq_true, decide_eq_true_eq, decide_eq_true_eq] at h1
      rw [← hgd k hk]
      exact h1.1
    · have key : ∀ i k, i < l.length → k < i → meetsB (at0 l k) (at0 l i) = true → nums.getD k (-1) ≠ nums.getD i (-1) := fun i k hi hk hm he => by
        have h1 := hrow i hi
        rw [row_no hk (show clash l nums i k = true from by
          unfold clash
          rw [hm, hgd k (by omega), hgd i hi, he]
          simp)] at h1
        cases h1
      intro i k hi hk hik hm
      rcases Nat.lt_trichotomy i k with h2 | h2 | h2
      · exact fun e => key k i hk h2 hm e
      · exact absurd h2 hik
      · exact fun e => key i k hi h2 (by rw [meets_symm]; exact hm) e.symm
  · rintro ⟨h1, h2, h3⟩
    have hgd : ∀ i, i < l.length → nums.getD i 0 = nums.getD i (-1) := fun i hi => by
      rw [List.getD_eq_getElem?_getD, List.getD_eq_getElem?_getD, List.getElem?_eq_getElem (by omega)]; rfl
    refine allot_yes h1 fun i hi => row_yes (by rw [hgd i hi]; exact (h2 i hi).1) (by rw [hgd i hi]; exact (h2 i hi).2) fun k hk => ?_
    unfold clash
    cases hm : meetsB (at0 l k) (at0 l i)
    · rw [Bool.and_false]
    · rw [Bool.and_true, hgd k (by omega), hgd i hi]
      exact decide_eq_false (h3 k i (by omega) hi (by omega) hm)
section
variable (w : World)
set_option maxRecDepth 100000 in
set_option maxHeartbeats 8000000 in
theorem gangFrames_walk (a a' : Option Addr) (m c m' c' : Nat) (l : List I2) (nums : List Int) (hs : Sx 2 w a m c (L2 l)) (hs' : Sx 1 w a' m' c' (L1 nums)) : Calls Try.prog 9 #[.slice a m c, .slice a' m' c'] w (Gives (.bool true) w) := by
  have hcap := hs.cap
  have hcap' := hs'.cap
  unfold maxLen at hcap hcap'
  obtain rfl := hs.n2
  obtain rfl := hs'.n1
  have HW := Lib.hid wakes_any
  have HS := Lib.hid hs
  have HS' := Lib.hid hs'
  have HU := Lib.hid (refUses_any a _ c l w hs)
  rw [show (!(decide (60 < l.length) || l.any badU)) = !usesBad l from rfl] at HU
  clear hs hs'
  cases hb : usesBad l
  rotate_left
  · rw [hb] at HU
    clear hb
    go_enter Try.func9, Try.ntmps9
    go_wp2_with fail
    refine HU.out.mono ?_
    rintro e V ⟨rfl, hb⟩
    have hC := Lib.hid ((Sy.enter w).call hb)
    clear hb
    go_wp2_with fail
    refine (HW.out _).mono ?_
    rintro e V ⟨rfl, hb⟩
    have hD := Lib.hid (hC.out.call hb)
    clear hb
    go_wp2
    go_ret
    exact ⟨rfl, hD.out.be⟩
  obtain ⟨h60, hg⟩ := uses_good hb
  rw [hb] at HU
  by_cases hn : (nums.length : Int) > 60
  · clear hb
    go_enter Try.func9, Try.ntmps9
    go_wp2_with fail
    refine HU.out.mono ?_
    rintro e V ⟨rfl, hb⟩
    have hC := Lib.hid ((Sy.enter w).call hb)
    clear hb
    go_wp2_with fail
    refine (HW.out _).mono ?_
    rintro e V ⟨rfl, hb⟩
    have hD := Lib.hid (hC.out.call hb)
    clear hb
    go_wp2
    go_ret
    exact ⟨rfl, hD.out.be⟩
  have HCU := Lib.hid (fun W (h : Below w.heap.size w W) => conv_Use a _ c l W (HS.out.below h) (by omega))
  by_cases hl : l = []
  · subst hl
    have HPA := Lib.hid (fun W (b b' : Option Addr) (d d' : Nat) (h0 : Sx 2 W b 0 d (L2 [])) (h1 : Sx 1 W b' 0 d' (L1 [])) => proveAllot_any W b b' 0 d 0 d' [] [] 0 0 h0 h1 (by omega))
    rw [show (!usesBad [] && allotB [] [] 0 && (decide ((0 : Int) = 0) || decide ((0 : Int) < 0) && decide ((onB [] 0 : Int) = 0))) = true from rfl] at HPA
    have HAN := Lib.hid (fun W b d h => allot_nil W b d h)
    clear hb hg h60
    go_enter Try.func9, Try.ntmps9
    go_wp2_with fail
    refine HU.out.mono ?_
    rintro e V1 ⟨rfl, hb⟩
    have hA := Lib.hid ((Sy.enter w).call hb)
    clear hb
    go_wp2_with fail
    refine (HCU.out _ hA.out.be).mono ?_
    rintro e V2 ⟨a5, c5, rfl, hr, hb⟩
    have hB := Lib.hid (hA.out.adopt hb hr)
    clear hb hr hA
    go_wp2_with fail
    refine (HAN.out _ _ _ (hB.out.osx 0 rfl)).mono ?_
    rintro e V3 ⟨rfl, hb⟩
    have hC := Lib.hid (hB.out.call hb)
    clear hb hB
    go_wp2_with fail
    refine (HCU.out _ hC.out.be).mono ?_
    rintro e V4 ⟨a6, c6, rfl, hr, hb⟩
    have hD := Lib.hid (hC.out.adopt hb hr)
    clear hb hr hC
    go_wp2_with fail
    refine (HPA.out _ _ _ _ _ (hD.out.osx 1 rfl) Sx.nil).mono ?_
    rintro e V5 ⟨rfl, hb⟩
    have hE := Lib.hid (hD.out.call hb)
    clear hb hD
    go_wp2_with fail
    refine (HW.out _).mono ?_
    rintro e V ⟨rfl, hb⟩
    have hF := Lib.hid (hE.out.call hb)
    clear hb
    go_wp2
    go_ret
    exact ⟨rfl, hF.out.be⟩
  · have hpos : 0 < l.length := List.length_pos_iff.2 hl
    have HAO := Lib.hid (fun W (b : Option Addr) (d : Nat) (h : Sx 2 W b l.length d (L2 l)) => allot_ok W b l.length d l h hb hpos (sorts_all h60))
    have HL0 := Lib.hid hl
    have HGD := Lib.hid hg
    have HPA := Lib.hid (fun W (b b' : Option Addr) (d d' : Nat) (ns : List Int) (N D : Int) (hns : ns.length = l.length) (hal : allotB l ns N = true) (hN : 0 < N) (hD : (onB l D : Int) = N) (h0 : Sx 2 W b l.length d (L2 l)) (h1 : Sx 1 W b' l.length d' (L1 ns)) => (show Calls Try.prog 27 #[.slice b l.length d, .slice b' l.length d', .int .i64 N, .int .i64 D] W (Gives (.bool true) W) from by
      have h := proveAllot_any W b b' l.length d l.length d' l ns N D h0 h1 (by omega)
      rw [hb, hal, decide_eq_true hN, decide_eq_true hD] at h
      rw [show (!false && true && (decide (N = 0) || true && true)) = true from by simp] at h
      exact h))
    have HRA := Lib.hid (fun W (N : Int) (hf : allotB l nums N = false) (h : Below w.heap.size w W) => (show Calls Try.prog 28 #[.slice a l.length c, .slice a' nums.length c', .int .i64 N] W (Gives (.bool false) W) from by
      have h2 := refAllotted_any W a a' _ c _ c' l nums N (HS.out.below h) (HS'.out.below h) hg (by omega)
      rw [hf] at h2
      exact h2))
    clear hb hg hl
    go_enter Try.func9, Try.ntmps9
    go_wp2_with fail
    refine HU.out.mono ?_
    rintro e V1 ⟨rfl, hb⟩
    have hA := Lib.hid ((Sy.enter w).call hb)
    clear hb
    go_wp2_with fail
    refine (HCU.out _ hA.out.be).mono ?_
    rintro e V2 ⟨a5, c5, rfl, hr, hb⟩
    have hB := Lib.hid (hA.out.adopt hb hr)
    clear hb hr hA
    go_wp2_with fail
    refine (HAO.out _ _ _ (hB.out.osx 0 rfl)).mono ?_
    rintro e V3 ⟨order, a7, c7, ho, rfl, hr, hb⟩
    have hC := Lib.hid (hB.out.adopt hb hr)
    have h1 := allot_allotted HGD.out ho
    have h2 := (allot_peak HGD.out ho).2 HL0.out
    have h3 := not_fewer HGD.out ho (by omega) nums
    have HAL := Lib.hid (allotB_iff.2 h1)
    have HNF := Lib.hid (show allotB l nums ((allotRun l order).2.1 - 1) = false from by
      cases hx : allotB l nums ((allotRun l order).2.1 - 1)
      · rfl
      · exact absurd (allotB_iff.1 hx) h3)
    have hon : (onB l (allotRun l order).2.2 : Int) ≤ 60 := by
      have := List.countP_le_length (p := hasDay (allotRun l order).2.2) (l := l)
      unfold onB
      omega
    obtain ⟨h2a, h2b⟩ := h2
    have HLN := Lib.hid h1.1
    clear hb hr hB h1 h3 ho
    generalize (allotRun l order).1 = ns at *
    generalize (allotRun l order).2.1 = N at *
    generalize (allotRun l order).2.2 = D at *
    have HOD := Lib.hid h2a
    have hN0 : ¬ N < 0 := by omega
    have hNd : decide (N < 0) = false := decide_eq_false hN0
    have hNz : ¬ N = 0 := by omega
    have hNe : (N == 0) = false := beq_eq_false_iff_ne.2 hNz
    have w1 : IntKind.i64.wrap (N - 1) = N - 1 := IntWalk.i64_in _ (by omega)
    clear h2a hon
    go_wp2_with fail
    refine (HCU.out _ hC.out.be).mono ?_
    rintro e V4 ⟨a6, c6, rfl, hr, hb⟩
    have hD := Lib.hid (hC.out.adopt hb hr)
    clear hb hr hC
    go_wp2_with fail
    refine (HPA.out _ _ _ _ _ ns N D HLN.out HAL.out h2b HOD.out (hD.out.osx 2 rfl) (hD.out.osx 1 rfl)).mono ?_
    rintro e V5 ⟨rfl, hb⟩
    have hE := Lib.hid (hD.out.call hb)
    clear hb hD
    go_wp2_with fail
    refine (HRA.out _ _ HNF.out hE.out.be).mono ?_
    rintro e V6 ⟨rfl, hb⟩
    have hF := Lib.hid (hE.out.call hb)
    clear hb hE
    go_wp2_with fail
    refine (HW.out _).mono ?_
    rintro e V ⟨rfl, hb⟩
    have hG := Lib.hid (hF.out.call hb)
    clear hb
    go_wp2
    go_ret
    exact ⟨rfl, hG.out.be⟩
end
end Go.Proofs.Yteogibpmpppgmaa

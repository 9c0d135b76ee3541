/- the reference's yard: Yard, Enough, Unit; together, On -/
import Derived.Test.YteogibpmpppgmaaH2
import Derived.Test.YteogibpmpppgmaaH4
namespace Go.Proofs.Yteogibpmpppgmaa
open Go.RowKit
section
variable (w : World)
set_option maxHeartbeats 2000000 in
set_option maxRecDepth 100000 in
theorem refYard_any (a a' : Option Addr) (n c n' c' : Nat) (P : List I3) (N : List I2) (hs : Sx 3 w a n c (L3 P)) (hs' : Sx 2 w a' n' c' (L2 N)) : Calls Try.prog 21 #[.slice a n c, .slice a' n' c'] w (Gives (.bool (!yardBad P N)) w) := by
  have hlen := hs.n3
  have hlen' := hs'.n2
  have hm : P.length ≤ 9223372036854775807 := by have := hs.cap; unfold maxLen at this; omega
  have hm' : N.length ≤ 9223372036854775807 := by have := hs'.cap; unfold maxLen at this; omega
  have HS := Lib.hid hs
  have HS' := Lib.hid hs'
  obtain rfl : P.length = n := hlen.symm
  obtain rfl : N.length = n' := hlen'.symm
  clear hs hs' hlen hlen'
  go_enter Try.func21, Try.ntmps21
  go_wp2
  go_loop [5] (fun iv => ∃ k : Nat, k ≤ P.length ∧ iv = .int .i64 k ∧ Hid (∀ i (h : i < P.length), i < k → badPile P[i] = false)) (fun iv => P.length - (intOf iv).toNat)
  case atStart => exact ⟨0, Nat.zero_le _, rfl, Lib.hid (fun i _ h => absurd h (Nat.not_lt_zero i))⟩
  case round =>
    obtain ⟨k, hk, rfl, hI⟩ := hrel
    by_cases hlt : k < P.length
    · obtain ⟨g0, o0, rfl⟩ := HS.out.addr (by omega)
      obtain ⟨x0, x1, x2⟩ := HS.out.at3 hlt
      have HE := Lib.hid (show ∀ i (h : i < P.length), i = k → P[i] = P[k] from fun i h e => by subst e; rfl)
      have HM := Lib.hid (show P[k] ∈ P from List.getElem_mem hlt)
      generalize P[k] = x at *
      obtain ⟨u0, u1, u2⟩ := x
      have HB := Lib.hid (show badPile (u0, u1, u2) = true → Ending.returned (.bool false) = .returned (.bool (!yardBad P N)) from fun h => ret_bool (by unfold yardBad; rw [List.any_eq_true.2 ⟨_, HM.out, h⟩]; simp))
      have HD := Lib.hid (show badPile (u0, u1, u2) = (!inB u0 (-100000) 100000 || !inB u1 0 1000000 || !inB u2 0 1000000) from rfl)
      cases h1 : inB u0 (-100000) 100000
      · have HG := Lib.hid (show badPile (u0, u1, u2) = true by rw [HD.out, h1]; rfl)
        go_wp2_with ((with_reducible refine (In_any _ _ _ _).mono ?_); rintro e w1 ⟨rfl, rfl⟩)
        go_ret
        exact ⟨HB.out HG.out, Below.refl _ _⟩
      · cases h2 : inB u1 0 1000000
        · have HG := Lib.hid (show badPile (u0, u1, u2) = true by rw [HD.out, h1, h2]; rfl)
          go_wp2_with ((with_reducible refine (In_any _ _ _ _).mono ?_); rintro e w1 ⟨rfl, rfl⟩)
          go_ret
          exact ⟨HB.out HG.out, Below.refl _ _⟩
        · cases h3 : inB u2 0 1000000
          · have HG := Lib.hid (show badPile (u0, u1, u2) = true by rw [HD.out, h1, h2, h3]; rfl)
            go_wp2_with ((with_reducible refine (In_any _ _ _ _).mono ?_); rintro e w1 ⟨rfl, rfl⟩)
            go_ret
            exact ⟨HB.out HG.out, Below.refl _ _⟩
          · have HG := Lib.hid (show badPile (u0, u1, u2) = false by rw [HD.out, h1, h2, h3]; rfl)
            go_wp2_with ((with_reducible refine (In_any _ _ _ _).mono ?_); rintro e w1 ⟨rfl, rfl⟩)
            go_round
            case rel => exact ⟨k + 1, by omega, by go_num, Lib.hid (fun i h hik => by
              rcases Nat.lt_or_ge i k with h1 | h1
              · exact hI.out i h h1
              · rw [HE.out i h (by omega)]; exact HG.out)⟩
            case measure => simp [intOf]; omega
    · have HP := Lib.hid (show P.any badPile = false from List.any_eq_false.2 fun x hx => by
        obtain ⟨i, hi, rfl⟩ := List.getElem_of_mem hx
        rw [hI.out i hi (by omega)]; decide)
      clear hI
      go_wp2
      go_loop [6] (fun iv => ∃ k : Nat, k ≤ N.length ∧ iv = .int .i64 k ∧ Hid (∀ i (h : i < N.length), i < k → badNeed N[i] = false)) (fun iv => N.length - (intOf iv).toNat)
      case atStart => exact ⟨0, Nat.zero_le _, rfl, Lib.hid (fun i _ h => absurd h (Nat.not_lt_zero i))⟩
      case round =>
        obtain ⟨k2, hk2, rfl, hI⟩ := hrel
        by_cases hlt2 : k2 < N.length
        · obtain ⟨g0, o0, rfl⟩ := HS'.out.addr (by omega)
          obtain ⟨x0, x1⟩ := HS'.out.at2 hlt2
          have HE := Lib.hid (show ∀ i (h : i < N.length), i = k2 → N[i] = N[k2] from fun i h e => by subst e; rfl)
          have HM := Lib.hid (show N[k2] ∈ N from List.getElem_mem hlt2)
          generalize N[k2] = x at *
          obtain ⟨u0, u1⟩ := x
          have HB := Lib.hid (show badNeed (u0, u1) = true → Ending.returned (.bool false) = .returned (.bool (!yardBad P N)) from fun h => ret_bool (by unfold yardBad; rw [List.any_eq_true.2 ⟨_, HM.out, h⟩]; simp))
          have HD := Lib.hid (show badNeed (u0, u1) = (!inB u0 (-100000) 100000 || !inB u1 0 1000000) from rfl)
          cases h1 : inB u0 (-100000) 100000
          · have HG := Lib.hid (show badNeed (u0, u1) = true by rw [HD.out, h1]; rfl)
            go_wp2_with ((with_reducible refine (In_any _ _ _ _).mono ?_); rintro e w1 ⟨rfl, rfl⟩)
            go_ret
            exact ⟨HB.out HG.out, Below.refl _ _⟩
          · cases h2 : inB u1 0 1000000
            · have HG := Lib.hid (show badNeed (u0, u1) = true by rw [HD.out, h1, h2]; rfl)
              go_wp2_with ((with_reducible refine (In_any _ _ _ _).mono ?_); rintro e w1 ⟨rfl, rfl⟩)
              go_ret
              exact ⟨HB.out HG.out, Below.refl _ _⟩
            · have HG := Lib.hid (show badNeed (u0, u1) = false by rw [HD.out, h1, h2]; rfl)
              go_wp2_with ((with_reducible refine (In_any _ _ _ _).mono ?_); rintro e w1 ⟨rfl, rfl⟩)
              go_round
              case rel => exact ⟨k2 + 1, by omega, by go_num, Lib.hid (fun i h hik => by
                rcases Nat.lt_or_ge i k2 with h1 | h1
                · exact hI.out i h h1
                · rw [HE.out i h (by omega)]; exact HG.out)⟩
              case measure => simp [intOf]; omega
        · have HN := Lib.hid (show N.any badNeed = false from List.any_eq_false.2 fun x hx => by
            obtain ⟨i, hi, rfl⟩ := List.getElem_of_mem hx
            rw [hI.out i hi (by omega)]; decide)
          clear hI
          have HY := Lib.hid (show yardBad P N = (decide (20 < P.length) || decide (20 < N.length)) by unfold yardBad; rw [HP.out, HN.out, Bool.or_false, Bool.or_false])
          by_cases hp20 : P.length ≤ 20
          · go_wp2
            go_ret
            exact ⟨ret_bool (by rw [HY.out, show decide (20 < P.length) = false from decide_eq_false (by omega), Bool.false_or, ← decide_not]; simp; first | omega | (intro; omega) | skip), Below.refl _ _⟩
          · go_wp2
            go_ret
            exact ⟨ret_bool (by rw [HY.out, show decide (20 < P.length) = true from decide_eq_true (by omega)]; rfl), Below.refl _ _⟩
set_option maxHeartbeats 2000000 in
set_option maxRecDepth 100000 in
theorem refEnough_any (a a' : Option Addr) (n c n' c' : Nat) (P : List I3) (N : List I2) (hs : Sx 3 w a n c (L3 P)) (hs' : Sx 2 w a' n' c' (L2 N)) (hg : yardBad P N = false) : Calls Try.prog 22 #[.slice a n c, .slice a' n' c'] w (Gives (.bool (enoughB P N)) w) := by
  obtain ⟨g1, g2, g3, g4⟩ := yard_good hg
  have hlen := hs.n3
  have hlen' := hs'.n2
  have HS := Lib.hid hs
  have HS' := Lib.hid hs'
  obtain rfl : P.length = n := hlen.symm
  obtain rfl : N.length = n' := hlen'.symm
  have HBP := Lib.hid (show ∀ k, 0 ≤ sumBy (fun x : I3 => x.2.1) (P.take k) ∧ sumBy (fun x : I3 => x.2.1) (P.take k) ≤ 20000000 from fun k => by
    have h1 : ∀ y ∈ (P.take k).map (fun x : I3 => x.2.1), 0 ≤ y := fun y hy => by obtain ⟨x, hx, rfl⟩ := List.mem_map.1 hy; exact (g3 x (List.mem_of_mem_take hx)).2.1.1
    have h2 : ∀ y ∈ (P.take k).map (fun x : I3 => x.2.1), y ≤ 1000000 := fun y hy => by obtain ⟨x, hx, rfl⟩ := List.mem_map.1 hy; exact (g3 x (List.mem_of_mem_take hx)).2.1.2
    have h3 := lsum_ge h1
    have h4 := lsum_le h2
    rw [List.length_map, List.length_take] at h3 h4
    unfold sumBy
    omega)
  have HBN := Lib.hid (show ∀ k, 0 ≤ sumBy (fun x : I2 => x.2) (N.take k) ∧ sumBy (fun x : I2 => x.2) (N.take k) ≤ 20000000 from fun k => by
    have h1 : ∀ y ∈ (N.take k).map (fun x : I2 => x.2), 0 ≤ y := fun y hy => by obtain ⟨x, hx, rfl⟩ := List.mem_map.1 hy; exact (g4 x (List.mem_of_mem_take hx)).2.1
    have h2 : ∀ y ∈ (N.take k).map (fun x : I2 => x.2), y ≤ 1000000 := fun y hy => by obtain ⟨x, hx, rfl⟩ := List.mem_map.1 hy; exact (g4 x (List.mem_of_mem_take hx)).2.2
    have h3 := lsum_ge h1
    have h4 := lsum_le h2
    rw [List.length_map, List.length_take] at h3 h4
    unfold sumBy
    omega)
  have HG3 := Lib.hid g3
  have HG4 := Lib.hid g4
  clear hs hs' hlen hlen' g3 g4 hg
  unfold enoughB
  generalize hS : sumBy (fun x : I3 => x.2.1) P = S
  generalize hT : sumBy (fun x : I2 => x.2) N = T
  have HSS := Lib.hid hS
  have HTT := Lib.hid hT
  clear hS hT
  go_enter Try.func22, Try.ntmps22
  go_wp2
  go_loop [5, 6] (fun sv iv => ∃ k : Nat, k ≤ P.length ∧ iv = .int .i64 k ∧ sv = .int .i64 (sumBy (fun x : I3 => x.2.1) (P.take k))) (fun _ iv => P.length - (intOf iv).toNat)
  case atStart => exact ⟨0, Nat.zero_le _, rfl, rfl⟩
  case round =>
    obtain ⟨k, hk, rfl, rfl⟩ := hrel
    by_cases hlt : k < P.length
    · obtain ⟨g0, o0, rfl⟩ := HS.out.addr (by omega)
      obtain ⟨x0, x1, x2⟩ := HS.out.at3 hlt
      have HT := Lib.hid (sumBy_take (fun x : I3 => x.2.1) P k hlt)
      have h1 := HBP.out k
      have h2 := (HG3.out _ (List.getElem_mem hlt)).2.1
      generalize P[k] = x at *
      obtain ⟨u0, u1, u2⟩ := x
      have h2 : 0 ≤ u1 ∧ u1 ≤ 1000000 := h2
      generalize hz : sumBy (fun x : I3 => x.2.1) (P.take k) = z at *
      have HZ := Lib.hid hz
      clear hz
      go_wp2
      go_round
      case rel => exact ⟨k + 1, by omega, by go_num, by rw [HT.out]⟩
      case measure => simp [intOf]; omega
    · obtain rfl : k = P.length := by omega
      have h0 := HBP.out P.length
      rw [List.take_length, HSS.out] at h0
      rw [List.take_length, HSS.out]
      clear HBP
      go_wp2
      go_loop [5, 7] (fun sv iv => ∃ k : Nat, k ≤ N.length ∧ iv = .int .i64 k ∧ sv = .int .i64 (S - sumBy (fun x : I2 => x.2) (N.take k))) (fun _ iv => N.length - (intOf iv).toNat)
      case atStart => exact ⟨0, Nat.zero_le _, rfl, by show _ = Value.int .i64 (S - 0); rw [Int.sub_zero]⟩
      case round =>
        obtain ⟨k2, hk2, rfl, rfl⟩ := hrel
        by_cases hlt2 : k2 < N.length
        · obtain ⟨g0, o0, rfl⟩ := HS'.out.addr (by omega)
          obtain ⟨x0, x1⟩ := HS'.out.at2 hlt2
          have HT := Lib.hid (sumBy_take (fun x : I2 => x.2) N k2 hlt2)
          have h1 := HBN.out k2
          have h2 := (HG4.out _ (List.getElem_mem hlt2)).2
          generalize N[k2] = x at *
          obtain ⟨u0, u1⟩ := x
          have h2 : 0 ≤ u1 ∧ u1 ≤ 1000000 := h2
          generalize hz : sumBy (fun x : I2 => x.2) (N.take k2) = z at *
          have HZ := Lib.hid hz
          clear hz
          go_wp2
          go_round
          case rel => exact ⟨k2 + 1, by omega, by go_num, by rw [HT.out]; show Value.int .i64 _ = Value.int .i64 (S - (z + u1)); rw [show S - (z + u1) = S - z - u1 by omega]⟩
          case measure => simp [intOf]; omega
        · obtain rfl : k2 = N.length := by omega
          have h1 := HBN.out N.length
          rw [List.take_length, HTT.out] at h1
          rw [List.take_length, HTT.out]
          clear HBN
          go_wp2
          go_ret
          exact ⟨ret_bool (decide_eq_decide.2 (by omega)), Below.refl _ _⟩
set_option maxHeartbeats 400000 in
theorem refUnit_any (p : I3) (n : I2) (h1 : -1000000 ≤ p.1 ∧ p.1 ≤ 1000000) (h2 : -1000000 ≤ n.1 ∧ n.1 ≤ 1000000) (h3 : 0 ≤ p.2.2 ∧ p.2.2 ≤ 1000000) : Calls Try.prog 54 #[.agg #[.int .i64 p.1, .int .i64 p.2.1, .int .i64 p.2.2], .agg #[.int .i64 n.1, .int .i64 n.2]] w (Gives (.int .i64 (unitI p n)) w) := by
  obtain ⟨x0, x1, x2⟩ := p
  obtain ⟨y0, y1⟩ := n
  show Calls Try.prog 54 #[.agg #[.int .i64 x0, .int .i64 x1, .int .i64 x2], .agg #[.int .i64 y0, .int .i64 y1]] w (Gives (.int .i64 (max (x0 - y0) (y0 - x0) + x2)) w)
  have a1 : -1000000 ≤ x0 := h1.1
  have a2 : x0 ≤ 1000000 := h1.2
  have a3 : -1000000 ≤ y0 := h2.1
  have a4 : y0 ≤ 1000000 := h2.2
  have a5 : 0 ≤ x2 := h3.1
  have a6 : x2 ≤ 1000000 := h3.2
  clear h1 h2 h3
  go_enter Try.func54, Try.ntmps54
  go_wp2
  all_goals
    go_ret
    exact ⟨ret_int (by omega), below2 _ _ _⟩
def togetherB (a b : I2) : Bool := decide (max a.1 b.1 < min a.2 b.2)
set_option maxHeartbeats 400000 in
theorem together_any (p n : I2) : Calls Try.prog 49 #[.agg #[.int .i64 p.1, .int .i64 p.2], .agg #[.int .i64 n.1, .int .i64 n.2]] w (Gives (.bool (togetherB p n)) w) := by
  obtain ⟨x0, x1⟩ := p
  obtain ⟨y0, y1⟩ := n
  show Calls Try.prog 49 #[.agg #[.int .i64 x0, .int .i64 x1], .agg #[.int .i64 y0, .int .i64 y1]] w (Gives (.bool (decide (max x0 y0 < min x1 y1))) w)
  go_enter Try.func49, Try.ntmps49
  go_wp2
  all_goals
    go_ret
    exact ⟨ret_bool (decide_eq_decide.2 (by omega)), below2 _ _ _⟩
theorem onB_take (d : Int) (l : List I2) (k : Nat) (h : k < l.length) : onB (l.take (k + 1)) d = onB (l.take k) d + if hasDay d l[k] = true then 1 else 0 := by
  unfold onB
  rw [List.take_succ_eq_append_getElem h, List.countP_append, List.countP_singleton]
set_option maxHeartbeats 2000000 in
set_option maxRecDepth 100000 in
theorem refOn_any (a : Option Addr) (n c : Nat) (l : List I2) (d : Int) (hs : Sx 2 w a n c (L2 l)) : Calls Try.prog 50 #[.slice a n c, .int .i64 d] w (Gives (.int .i64 (onB l d)) w) := by
  have hlen := hs.n2
  have hm : l.length ≤ 9223372036854775807 := by have := hs.cap; unfold maxLen at this; omega
  have HS := Lib.hid hs
  obtain rfl : l.length = n := hlen.symm
  clear hs hlen
  go_enter Try.func50, Try.ntmps50
  go_wp2
  go_loop [5, 6] (fun sv iv => ∃ k : Nat, k ≤ l.length ∧ iv = .int .i64 k ∧ sv = .int .i64 (onB (l.take k) d)) (fun _ iv => l.length - (intOf iv).toNat)
  case atStart => exact ⟨0, Nat.zero_le _, rfl, rfl⟩
  case round =>
    obtain ⟨k, hk, rfl, rfl⟩ := hrel
    by_cases hlt : k < l.length
    · obtain ⟨g0, o0, rfl⟩ := HS.out.addr (by omega)
      obtain ⟨x0, x1⟩ := HS.out.at2 hlt
      have HT := Lib.hid (onB_take d l k hlt)
      have h1 : onB (l.take k) d ≤ k := by unfold onB; exact Nat.le_trans List.countP_le_length (List.length_take_le _ _)
      generalize l[k] = x at *
      obtain ⟨u0, u1⟩ := x
      generalize onB (l.take k) d = z at *
      have HD := Lib.hid (show hasDay d (u0, u1) = (decide (u0 ≤ d) && decide (d < u1)) from rfl)
      cases h2 : decide (u0 ≤ d)
      · have HG := Lib.hid (show hasDay d (u0, u1) = false by rw [HD.out, h2]; rfl)
        go_wp2
        go_round
        case rel => exact ⟨k + 1, by omega, by go_num, by rw [HT.out, HG.out]; rfl⟩
        case measure => simp [intOf]; omega
      · cases h3 : decide (d < u1)
        · have HG := Lib.hid (show hasDay d (u0, u1) = false by rw [HD.out, h2, h3]; rfl)
          go_wp2
          go_round
          case rel => exact ⟨k + 1, by omega, by go_num, by rw [HT.out, HG.out]; rfl⟩
          case measure => simp [intOf]; omega
        · have HG := Lib.hid (show hasDay d (u0, u1) = true by rw [HD.out, h2, h3]; rfl)
          go_wp2
          go_round
          case rel => exact ⟨k + 1, by omega, by go_num, by rw [HT.out, HG.out]; rfl⟩
          case measure => simp [intOf]; omega
    · obtain rfl : k = l.length := by omega
      go_wp2
      go_ret
      exact ⟨rfl, Below.refl _ _⟩
end

end Go.Proofs.Yteogibpmpppgmaa

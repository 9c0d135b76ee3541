/- the laws' comparisons, and the reference's tests of uses and yards -/
import Derived.Test.YteogibpmpppgmaaH0
import Derived.Test.YteogibpmpppgmaaG5
namespace Go.Proofs.Yteogibpmpppgmaa
open Go.RowKit
theorem below_dN {B : Nat} {a w : World} (h : Below B a w) (n : Nat) : Below B a (w.drewN n) := ⟨h.os, h.tape, h.output, h.size, h.block⟩
set_option maxHeartbeats 1000000 in
theorem ints_any (a a' : Option Addr) (n c n' c' : Nat) (l r : List Int) (w : World) (hs : Sx 1 w a n c (L1 l)) (hs' : Sx 1 w a' n' c' (L1 r)) : Calls Try.prog 13 #[.slice a n c, .slice a' n' c'] w (Gives (.bool (decide (l = r))) w) := by
  have hlen := hs.n1
  have hlen' := hs'.n1
  have hm : l.length ≤ 9223372036854775807 := by have := hs.cap; unfold maxLen at this; omega
  have hm' : r.length ≤ 9223372036854775807 := by have := hs'.cap; unfold maxLen at this; omega
  have HS := Lib.hid hs
  have HS' := Lib.hid hs'
  obtain rfl : l.length = n := hlen.symm
  obtain rfl : r.length = n' := hlen'.symm
  clear hs hs' hlen hlen'
  by_cases hl : l.length = r.length
  · have HL := Lib.hid hl
    have hl0 : ((l.length : Int) != (r.length : Int)) = false := by simp [hl]
    have hle : l.length ≤ r.length := by omega
    clear hl
    go_enter Try.func13, Try.ntmps13
    go_wp2
    go_loopw [5] (fun iv wr => ∃ k : Nat, k ≤ l.length ∧ iv = .int .i64 k ∧ Hid ((∀ i (h : i < l.length) (h' : i < r.length), i < k → l[i] = r[i]) ∧ Below w.heap.size w wr)) (fun iv _ => l.length - (intOf iv).toNat)
    case atStart => exact ⟨0, Nat.zero_le _, rfl, Lib.hid ⟨fun i _ _ h => absurd h (Nat.not_lt_zero i), Below.refl _ _⟩⟩
    case round =>
      obtain ⟨k, hk, rfl, hI⟩ := hrel
      by_cases hlt : k < l.length
      · have hlt' : k < r.length := by omega
        obtain ⟨g0, o0, rfl⟩ := HS.out.addr (by omega)
        obtain ⟨g1, o1, rfl⟩ := HS'.out.addr (by omega)
        have x0 := (HS.out.below hI.out.2).at1 hlt
        have y0 := (HS'.out.below hI.out.2).at1 hlt'
        have hi0 : (0 : Int) ≤ (k : Int) := by omega
        have hi1 : (k : Int) < (l.length : Int) := by omega
        have hi2 : (k : Int) < (r.length : Int) := by omega
        have HE := Lib.hid (show ∀ i (h : i < l.length) (h' : i < r.length), i = k → l[i] = l[k] ∧ r[i] = r[k] from fun i h h' e => by subst e; exact ⟨rfl, rfl⟩)
        have HN := Lib.hid (show l = r → l[k] = r[k] from fun e => by subst e; rfl)
        generalize l[k] = x at *
        generalize r[k] = y at *
        by_cases hxy : x = y
        · subst hxy
          have hne : (x != x) = false := by simp
          go_wp2
          go_quiet (fail)
          go_wp2
          go_roundw
          case rel => exact ⟨k + 1, by omega, by go_num, Lib.hid ⟨fun i h h' hik => by
            rcases Nat.lt_or_ge i k with h1 | h1
            · exact hI.out.1 i h h' h1
            · obtain ⟨e1, e2⟩ := HE.out i h h' (by omega)
              rw [e1, e2], below_dN hI.out.2 _⟩⟩
          case measure => simp [intOf]; omega
        · have hne : (x != y) = true := by simpa using hxy
          have HX := Lib.hid hxy
          clear hxy
          go_wp2
          go_quiet (fail)
          go_wp2
          go_ret
          exact ⟨ret_bool (Eq.symm (decide_eq_false fun e => HX.out (HN.out e))), below_dN hI.out.2 _⟩
      · have HEQ := Lib.hid (show l = r from List.ext_getElem HL.out fun i h h' => hI.out.1 i h h' (by omega))
        go_wp2
        go_ret
        exact ⟨ret_bool (Eq.symm (decide_eq_true HEQ.out)), hI.out.2⟩
  · have HL := Lib.hid (show ¬ l = r from fun e => hl (by rw [e]))
    have hl0 : ((l.length : Int) != (r.length : Int)) = true := by simp; omega
    clear hl
    go_enter Try.func13, Try.ntmps13
    go_wp2
    go_ret
    exact ⟨ret_bool (Eq.symm (decide_eq_false HL.out)), Below.refl _ _⟩
def badU (u : I2) : Bool := decide (u.1 < 0) || decide (100000 < u.2) || decide (u.2 ≤ u.1)
set_option maxHeartbeats 2000000 in
set_option maxRecDepth 100000 in
theorem refUses_any (a : Option Addr) (n c : Nat) (l : List I2) (w : World) (hs : Sx 2 w a n c (L2 l)) : Calls Try.prog 19 #[.slice a n c] w (Gives (.bool (!(decide (60 < l.length) || l.any badU))) w) := by
  have hlen := hs.n2
  have hm : l.length ≤ 9223372036854775807 := by have := hs.cap; unfold maxLen at this; omega
  have HS := Lib.hid hs
  obtain rfl : l.length = n := hlen.symm
  clear hs hlen
  go_enter Try.func19, Try.ntmps19
  go_wp2
  go_loopw [3] (fun iv wr => ∃ k : Nat, k ≤ l.length ∧ iv = .int .i64 k ∧ Hid ((∀ i (h : i < l.length), i < k → badU l[i] = false) ∧ Below w.heap.size w wr)) (fun iv _ => l.length - (intOf iv).toNat)
  case atStart => exact ⟨0, Nat.zero_le _, rfl, Lib.hid ⟨fun i _ h => absurd h (Nat.not_lt_zero i), Below.refl _ _⟩⟩
  case round =>
    obtain ⟨k, hk, rfl, hI⟩ := hrel
    by_cases hlt : k < l.length
    · obtain ⟨g0, o0, rfl⟩ := HS.out.addr (by omega)
      obtain ⟨x0, x1⟩ := (HS.out.below hI.out.2).at2 hlt
      have hi0 : (0 : Int) ≤ (k : Int) := by omega
      have hi1 : (k : Int) < (l.length : Int) := by omega
      have HE := Lib.hid (show ∀ i (h : i < l.length), i = k → l[i] = l[k] from fun i h e => by subst e; rfl)
      have HM := Lib.hid (show l[k] ∈ l from List.getElem_mem hlt)
      generalize l[k] = x at *
      obtain ⟨u0, u1⟩ := x
      have hbad : badU (u0, u1) = true → Ending.returned (.bool false) = .returned (.bool (!(decide (60 < l.length) || l.any badU))) := fun h => ret_bool (by rw [List.any_eq_true.2 ⟨_, HM.out, h⟩]; simp)
      have HB := Lib.hid hbad
      clear hbad
      cases h1 : decide (u0 < 0)
      · cases h2 : decide (100000 < u1)
        · cases h3 : decide (u1 ≤ u0)
          · have HG := Lib.hid (show badU (u0, u1) = false by show (decide (u0 < 0) || decide (100000 < u1) || decide (u1 ≤ u0)) = false; rw [h1, h2, h3]; rfl)
            go_wp2
            go_quiet (fail)
            go_wp2
            go_roundw
            case rel => exact ⟨k + 1, by omega, by go_num, Lib.hid ⟨fun i h hik => by
              rcases Nat.lt_or_ge i k with h1 | h1
              · exact hI.out.1 i h h1
              · rw [HE.out i h (by omega)]; exact HG.out, below_dN hI.out.2 _⟩⟩
            case measure => simp [intOf]; omega
          · have HG := Lib.hid (show badU (u0, u1) = true by show (decide (u0 < 0) || decide (100000 < u1) || decide (u1 ≤ u0)) = true; rw [h1, h2, h3]; rfl)
            go_wp2
            go_quiet (fail)
            go_wp2
            go_ret
            exact ⟨HB.out HG.out, below_dN hI.out.2 _⟩
        · have HG := Lib.hid (show badU (u0, u1) = true by show (decide (u0 < 0) || decide (100000 < u1) || decide (u1 ≤ u0)) = true; rw [h1, h2]; rfl)
          go_wp2
          go_quiet (fail)
          go_wp2
          go_ret
          exact ⟨HB.out HG.out, below_dN hI.out.2 _⟩
      · have HG := Lib.hid (show badU (u0, u1) = true by show (decide (u0 < 0) || decide (100000 < u1) || decide (u1 ≤ u0)) = true; rw [h1]; rfl)
        go_wp2
        go_quiet (fail)
        go_wp2
        go_ret
        exact ⟨HB.out HG.out, below_dN hI.out.2 _⟩
    · have HA := Lib.hid (show l.any badU = false from List.any_eq_false.2 fun x hx => by
        obtain ⟨i, hi, rfl⟩ := List.getElem_of_mem hx
        rw [hI.out.1 i hi (by omega)]; decide)
      go_wp2
      go_ret
      exact ⟨ret_bool (by rw [HA.out, Bool.or_false, ← decide_not]; exact decide_eq_decide.2 (by omega)), hI.out.2⟩

end Go.Proofs.Yteogibpmpppgmaa

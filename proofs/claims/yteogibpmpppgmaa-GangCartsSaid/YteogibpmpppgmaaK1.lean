/- the laws GangTrips and GangCarts, walked -/
import Derived.Test.YteogibpmpppgmaaH21
import Derived.Test.YteogibpmpppgmaaH3
namespace Go.Proofs.Yteogibpmpppgmaa
open Go.RowKit

theorem div_small {a b : Int} (h0 : 0 ≤ a) (h1 : a < b) : a / b = 0 := Int.ediv_eq_zero_of_lt h0 h1
theorem trips_ref {x cart : Int} (hc : 1 ≤ cart) : x / cart + (if x % cart = 0 then 0 else 1) = (x - 1) / cart + 1 := by
  have h1 : cart * (x / cart) + x % cart = x := Int.mul_ediv_add_emod x cart
  have h2 := Int.emod_nonneg x (show cart ≠ 0 by omega)
  have h3 := Int.emod_lt_of_pos x (show 0 < cart by omega)
  have h0 : cart ≠ 0 := by omega
  generalize x / cart = d at *
  generalize x % cart = m at *
  subst h1
  by_cases h : m = 0
  · subst h
    rw [if_pos rfl, show cart * d + 0 - 1 = (cart - 1) + cart * (d - 1) by rw [Int.mul_sub, Int.mul_one]; omega, Int.add_mul_ediv_left _ _ h0, div_small (a := cart - 1) (by omega) (by omega)]
    omega
  · rw [if_neg h, show cart * d + m - 1 = (m - 1) + cart * d by omega, Int.add_mul_ediv_left _ _ h0, div_small (a := m - 1) (by omega) (by omega)]
    omega
theorem div_le {a b : Int} (h0 : 0 ≤ a) : a / b ≤ a := Int.ediv_le_self b h0
theorem trips_bd {cart : Int} (hc : 1 ≤ cart) {l : List I3} (hb : tripsBad l = false) (k : Nat) : 0 ≤ sumBy (tripsOf cart) (l.take k) ∧ sumBy (tripsOf cart) (l.take k) ≤ l.length * 1000000 := by
  have hx : ∀ x ∈ l, 0 ≤ tripsOf cart x ∧ tripsOf cart x ≤ 1000000 := fun x hx => by
    have h := List.any_eq_false.1 hb x hx
    simp only [Bool.not_eq_true, Bool.not_eq_false'] at h
    have h2 := inB_iff.1 h
    unfold tripsOf
    have h3 := Int.ediv_nonneg (show 0 ≤ x.2.2 - 1 by omega) (show 0 ≤ cart by omega)
    have h4 := div_le (b := cart) (show 0 ≤ x.2.2 - 1 by omega)
    omega
  have h1 : ∀ y ∈ (l.take k).map (tripsOf cart), 0 ≤ y := fun y hy => by obtain ⟨x, h, rfl⟩ := List.mem_map.1 hy; exact (hx x (List.mem_of_mem_take h)).1
  have h2 : ∀ y ∈ (l.take k).map (tripsOf cart), y ≤ 1000000 := fun y hy => by obtain ⟨x, h, rfl⟩ := List.mem_map.1 hy; exact (hx x (List.mem_of_mem_take h)).2
  have h3 := lsum_ge h1
  have h4 := lsum_le h2
  rw [List.length_map, List.length_take] at h3 h4
  unfold sumBy
  omega
end Go.Proofs.Yteogibpmpppgmaa

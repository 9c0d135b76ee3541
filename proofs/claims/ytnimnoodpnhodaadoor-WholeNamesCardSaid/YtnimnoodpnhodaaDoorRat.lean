/- ratios by numerator and denominator: plain. -/
import Derived.Test.YtnimnoodpnhodaaDoorNum
import Derived.Test.YtnimnoodpnhodaaDoorZ4
namespace Go.Proofs.YtnimnoodpnhodaaDoor
theorem sgn_num (q : Rat) : sgn q.num = sgnQ q := by
  unfold sgn sgnQ
  have h : q.num < 0 ↔ q < 0 := by
    rw [← Int.not_le, Rat.num_nonneg, Rat.not_le]
  simp only [Rat.num_eq_zero, h]
theorem sgn_cross (a b : Rat) : sgn (a.num * b.den - b.num * a.den) = cmpQ a b := by
  unfold sgn cmpQ
  have h1 : a.num * b.den - b.num * a.den = 0 ↔ a = b := by rw [Rat.eq_iff_mul_eq_mul]; omega
  have h2 : a.num * b.den - b.num * a.den < 0 ↔ a < b := by rw [Rat.lt_iff]; omega
  simp only [h1, h2]
theorem cmpQ_zero (a : Rat) : cmpQ a 0 = sgnQ a := rfl
theorem ratio_parts (n d : Int) (hd : d ≠ 0) :
    n / (if d < 0 then -(Int.gcd n d : Int) else (Int.gcd n d : Int)) = (Rat.divInt n d).num ∧ d / (if d < 0 then -(Int.gcd n d : Int) else (Int.gcd n d : Int)) = ((Rat.divInt n d).den : Int) := by
  rw [Rat.num_divInt, Rat.den_divInt, if_neg hd, Int.gcd_comm d n]
  have g1 : ((Int.gcd n d : Nat) : Int) ∣ n := Int.gcd_dvd_left ..
  have g2 : ((Int.gcd n d : Nat) : Int) ∣ d := Int.gcd_dvd_right ..
  rcases Int.lt_trichotomy d 0 with h | h | h
  · rw [if_pos h, Int.sign_eq_neg_one_of_neg h, Int.ediv_neg, Int.ediv_neg, Int.neg_one_mul, Int.neg_ediv_of_dvd g1]
    refine ⟨rfl, ?_⟩
    rw [← Int.neg_ediv_of_dvd g2]
    rw [show -d = ((d.natAbs : Nat) : Int) by omega]
    exact_mod_cast rfl
  · exact absurd h hd
  · rw [if_neg (by omega), Int.sign_eq_one_of_pos h, Int.one_mul]
    refine ⟨rfl, ?_⟩
    conv => lhs; rw [show d = ((d.natAbs : Nat) : Int) by omega]
    exact_mod_cast rfl
theorem gcd_pos' (n : Int) {d : Int} (hd : d ≠ 0) : (0 : Int) < Int.gcd n d := by
  have : 0 < Int.gcd n d := Int.gcd_pos_of_ne_zero_right n hd
  omega
theorem abs_num (q : Rat) : (if 0 ≤ q then q else -q).num = (q.num.natAbs : Int) := by
  by_cases h : 0 ≤ q
  · rw [if_pos h]; have := Rat.num_nonneg.2 h; omega
  · rw [if_neg h, Rat.neg_num]; have := mt Rat.num_nonneg.1 h; omega
theorem abs_den (q : Rat) : (if 0 ≤ q then q else -q).den = q.den := by
  by_cases h : 0 ≤ q
  · rw [if_pos h]
  · rw [if_neg h, Rat.neg_den]
theorem floor_eq (q : Rat) : q.num / (q.den : Int) = q.floor := (Rat.floor_def q).symm
end Go.Proofs.YtnimnoodpnhodaaDoor

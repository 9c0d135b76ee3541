/- how large integers and ratios are; ratios by numerator and denominator; plain. -/
import Derived.Test.YtnimnoodpnhodaaDoorDig
namespace Go.Proofs.YtnimnoodpnhodaaDoor
open Dig

/-- below 2^n in absolute value -/
def Bd (n : Nat) (z : Int) : Prop := z.natAbs < 2 ^ n

theorem Bd.mono {n m : Nat} {z : Int} (h : Bd n z) (hn : n ≤ m) : Bd m z := Nat.lt_of_lt_of_le h (Nat.pow_le_pow_right (by omega) hn)
theorem Bd.len_le {n k : Nat} {z : Int} (h : Bd n z) (hn : n ≤ 24 * k) : (dg 16777216 z.natAbs).length ≤ k := by
  refine dg_len_le (by omega) ?_
  refine Nat.lt_of_lt_of_le (h.mono hn) ?_
  rw [show (16777216 : Nat) = 2 ^ 24 from rfl, ← Nat.pow_mul]
  exact Nat.le_refl _
theorem Bd.len {n : Nat} {z : Int} (h : Bd n z) (hn : n ≤ 1000000) : (dg 16777216 z.natAbs).length ≤ 50000 := h.len_le (by omega)
theorem Bd.mul {n m : Nat} {x y : Int} (h : Bd n x) (k : Bd m y) : Bd (n + m) (x * y) := by
  unfold Bd at *
  rw [Int.natAbs_mul, Nat.pow_add]
  exact Nat.mul_lt_mul'' h k
theorem Bd.add {n m : Nat} {x y : Int} (h : Bd n x) (k : Bd m y) : Bd (n + m + 1) (x + y) := by
  have h1 : x.natAbs < 2 ^ (n + m) := h.mono (by omega)
  have h2 : y.natAbs < 2 ^ (n + m) := k.mono (by omega)
  unfold Bd
  rw [Nat.pow_succ]
  have := Int.natAbs_add_le x y
  omega
theorem Bd.neg {n : Nat} {x : Int} (h : Bd n x) : Bd n (-x) := by unfold Bd at *; rw [Int.natAbs_neg]; exact h
theorem Bd.abs {n : Nat} {x : Int} (h : Bd n x) : Bd n (x.natAbs : Int) := by unfold Bd at *; rw [Int.natAbs_natCast]; exact h
theorem Bd.sub {n m : Nat} {x y : Int} (h : Bd n x) (k : Bd m y) : Bd (n + m + 1) (x - y) := by rw [Int.sub_eq_add_neg]; exact h.add k.neg
theorem Bd.zero {n : Nat} : Bd n 0 := by unfold Bd; rw [Int.natAbs_zero]; exact Nat.pow_pos (by omega)
theorem Bd.gcd {n m : Nat} {x y : Int} (h : Bd n x) (k : Bd m y) : Bd (n + m) (Int.gcd x y : Int) := by
  unfold Bd
  rw [Int.natAbs_natCast]
  by_cases hx : x = 0
  · subst hx; rw [Int.gcd_zero_left]; exact k.mono (by omega)
  · exact Nat.lt_of_le_of_lt (Nat.gcd_le_left _ (by omega)) (h.mono (by omega))
theorem Bd.div {n : Nat} {x : Int} (h : Bd n x) (y : Int) : Bd n (x / y) := Nat.lt_of_le_of_lt (Int.natAbs_ediv_le_natAbs x y) h
theorem Bd.mod {n m : Nat} {x y : Int} (h : Bd n x) (k : Bd m y) : Bd (n + m) (x % y) := by
  by_cases hy : y = 0
  · subst hy; rw [Int.emod_zero]; exact h.mono (by omega)
  · have h1 := Int.emod_nonneg x hy
    have h2 := Int.emod_lt x hy
    have : y.natAbs < 2 ^ (n + m) := k.mono (by omega)
    unfold Bd
    omega
theorem Bd.i64 {k : Int} (h : -9223372036854775808 ≤ k ∧ k < 9223372036854775808) : Bd 64 k := by
  unfold Bd
  have : (2 : Nat) ^ 64 = 18446744073709551616 := rfl
  omega

/-- numerator and denominator are below 2^n -/
structure Bq (n : Nat) (q : Rat) : Prop where
  num : Bd n q.num
  den : Bd n (q.den : Int)

theorem Bq.mono {n m : Nat} {q : Rat} (h : Bq n q) (hn : n ≤ m) : Bq m q := ⟨h.num.mono hn, h.den.mono hn⟩
theorem Bd.of_le {n : Nat} {x y : Int} (h : Bd n x) (hl : y.natAbs ≤ x.natAbs) : Bd n y := Nat.lt_of_le_of_lt hl h

theorem divInt_num_le (x y : Int) : (Rat.divInt x y).num.natAbs ≤ x.natAbs := by
  rw [Rat.num_divInt]
  refine Nat.le_trans (Int.natAbs_ediv_le_natAbs _ _) ?_
  rw [Int.natAbs_mul]
  have : y.sign.natAbs ≤ 1 := by
    rcases Int.lt_trichotomy y 0 with h | h | h
    · rw [Int.sign_eq_neg_one_of_neg h]; decide
    · subst h; decide
    · rw [Int.sign_eq_one_of_pos h]; decide
  have := Nat.mul_le_mul_right x.natAbs this
  omega
theorem divInt_den_le (x : Int) {y : Int} (hy : y ≠ 0) : (Rat.divInt x y).den ≤ y.natAbs := by
  rw [Rat.den_divInt, if_neg hy]
  exact Nat.div_le_self _ _
theorem Bq.ofInt {n m k : Nat} {x y : Int} (h : Bd n x) (g : Bd m y) (hy : y ≠ 0) (h1 : n ≤ k) (h2 : m ≤ k) : Bq k (Rat.divInt x y) :=
  ⟨(h.of_le (divInt_num_le x y)).mono h1, (g.of_le (by rw [Int.natAbs_natCast]; exact divInt_den_le x hy)).mono h2⟩

theorem den_ne (q : Rat) : (q.den : Int) ≠ 0 := by have := q.den_nz; omega
theorem add_eq (a b : Rat) : a + b = Rat.divInt (a.num * b.den + b.num * a.den) (a.den * b.den) := by
  conv => lhs; rw [← Rat.num_divInt_den a, ← Rat.num_divInt_den b]
  rw [Rat.divInt_add_divInt _ _ (den_ne a) (den_ne b)]
theorem mul_eq (a b : Rat) : a * b = Rat.divInt (a.num * b.num) (a.den * b.den) := by
  conv => lhs; rw [← Rat.num_divInt_den a, ← Rat.num_divInt_den b]
  rw [Rat.divInt_mul_divInt]
theorem div_eq (a b : Rat) : a / b = Rat.divInt (a.num * b.den) (a.den * b.num) := by
  rw [Rat.div_def]
  conv => lhs; rw [← Rat.num_divInt_den a, ← Rat.num_divInt_den b]
  rw [Rat.inv_divInt, Rat.divInt_mul_divInt]
theorem Bq.add {n m : Nat} {a b : Rat} (h : Bq n a) (k : Bq m b) : Bq (2 * n + 2 * m + 1) (a + b) := by
  rw [add_eq]
  exact Bq.ofInt ((h.num.mul k.den).add (k.num.mul h.den)) (h.den.mul k.den) (Int.mul_ne_zero (den_ne a) (den_ne b)) (by omega) (by omega)
theorem Bq.mul {n m : Nat} {a b : Rat} (h : Bq n a) (k : Bq m b) : Bq (n + m) (a * b) := by
  rw [mul_eq]
  exact Bq.ofInt (h.num.mul k.num) (h.den.mul k.den) (Int.mul_ne_zero (den_ne a) (den_ne b)) (by omega) (by omega)
theorem Bq.neg {n : Nat} {a : Rat} (h : Bq n a) : Bq n (-a) := ⟨by rw [Rat.neg_num]; exact h.num.neg, by rw [Rat.neg_den]; exact h.den⟩
theorem Bq.sub {n m : Nat} {a b : Rat} (h : Bq n a) (k : Bq m b) : Bq (2 * n + 2 * m + 1) (a - b) := by rw [Rat.sub_eq_add_neg]; exact h.add k.neg
theorem Bq.div {n m : Nat} {a b : Rat} (h : Bq n a) (k : Bq m b) (hb : b ≠ 0) : Bq (n + m) (a / b) := by
  rw [div_eq]
  exact Bq.ofInt (h.num.mul k.den) (h.den.mul k.num) (Int.mul_ne_zero (den_ne a) (fun e => hb (Rat.num_eq_zero.1 e))) (by omega) (by omega)
theorem Bq.int {n : Nat} {z : Int} (h : Bd n z) : Bq (n + 1) (z : Rat) := ⟨by rw [Rat.num_intCast]; exact h.mono (by omega), by
  rw [Rat.den_intCast]; unfold Bd; rw [Nat.pow_succ]; have : 0 < 2 ^ n := Nat.pow_pos (by omega); simp; omega⟩
theorem Bq.zero {n : Nat} : Bq (n + 1) 0 := by
  have := Bq.int (n := n) (z := 0) Bd.zero
  exact this

/-- the sign of an integer, of a ratio; how two of them compare -/
def sgnQ (q : Rat) : Int := if q = 0 then 0 else if q < 0 then -1 else 1
def cmpQ (a b : Rat) : Int := if a = b then 0 else if a < b then -1 else 1

end Go.Proofs.YtnimnoodpnhodaaDoor

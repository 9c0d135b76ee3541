/- contracts as the laws on ratios want them -/
import Derived.Test.YtmfplelodnoicaaGreatDoorWB5
import Derived.Test.YtmfplelodnoicaaGreatDoorWI
namespace Go.Proofs.YtmfplelodnoicaaGreatDoor
open Go.RowKit Dig

section
variable {w : World} {a1 : Option Addr} {n1 c1 : Nat} {m1 : Bool} {d1 : Option Addr} {e1 f1 : Nat} {q1 : Rat} {a2 : Option Addr} {n2 c2 : Nat} {m2 : Bool} {d2 : Option Addr} {e2 f2 : Nat} {q2 : Rat} {k1 k2 : Nat}
theorem rcmp_is {v : Int} (h1 : Rd w (.slice a1 n1 c1) m1 (.slice d1 e1 f1) q1) (h2 : Rd w (.slice a2 n2 c2) m2 (.slice d2 e2 f2) q2) (b1 : Bq k1 q1) (b2 : Bq k2 q2) (hk1 : k1 ≤ 40000) (hk2 : k2 ≤ 40000) (hv : cmpQ q1 q2 = v) :
    Calls Tryz.prog 32 #[.agg #[.slice a1 n1 c1, .bool m1, .slice d1 e1 f1], .agg #[.slice a2 n2 c2, .bool m2, .slice d2 e2 f2]] w fun e w' => e = .returned (.int .i64 v) ∧ Below w.heap.size w w' := by
  subst hv; exact rcmp_b h1 h2 b1 b2 hk1 hk2
theorem rsign_is {v : Int} (h1 : Rd w (.slice a1 n1 c1) m1 (.slice d1 e1 f1) q1) (hv : sgnQ q1 = v) : Calls Tryz.prog 23 #[.agg #[.slice a1 n1 c1, .bool m1, .slice d1 e1 f1]] w fun e w' => e = .returned (.int .i64 v) ∧ Below w.heap.size w w' := by
  subst hv; exact rsign_any _ _ _ _ _ _ _ _ _ h1
theorem den_b (h1 : Rd w (.slice a1 n1 c1) m1 (.slice d1 e1 f1) q1) (b1 : Bq k1 q1) (hk1 : k1 ≤ 40000) : Calls Tryz.prog 58 #[.agg #[.slice a1 n1 c1, .bool m1, .slice d1 e1 f1]] w (RetZ w (q1.den : Int)) := den_any _ _ _ _ _ _ _ _ _ h1 k1 b1 hk1
theorem rdiv_b (h1 : Rd w (.slice a1 n1 c1) m1 (.slice d1 e1 f1) q1) (h2 : Rd w (.slice a2 n2 c2) m2 (.slice d2 e2 f2) q2) (b1 : Bq k1 q1) (b2 : Bq k2 q2) (hk1 : k1 ≤ 40000) (hk2 : k2 ≤ 40000) (hq : q2 ≠ 0) :
    Calls Tryz.prog 64 #[.agg #[.slice a1 n1 c1, .bool m1, .slice d1 e1 f1], .agg #[.slice a2 n2 c2, .bool m2, .slice d2 e2 f2]] w (RetRE w (q1 / q2) 0) := by
  have := rdiv_any _ _ _ _ _ _ _ _ _ _ _ _ _ _ _ _ _ h1 h2 k1 k2 b1 b2 hk1 hk2
  rw [← div_eq] at this
  have e : ofzE ((q1.den : Int) * q2.num) = 0 := by
    unfold ofzE
    rw [if_neg (Int.mul_ne_zero (den_ne q1) (fun e => hq (Rat.num_eq_zero.1 e)))]
  rw [e] at this
  exact this
end
theorem cmpQ_eq {a b : Rat} (h : a = b) : cmpQ a b = 0 := by unfold cmpQ; rw [if_pos h]
theorem cmpQ_bd (a b : Rat) : -1 ≤ cmpQ a b ∧ cmpQ a b ≤ 1 := by unfold cmpQ; split; omega; split <;> omega
theorem cmpQ_add (a b c : Rat) : cmpQ (a + c) (b + c) = cmpQ a b := by
  unfold cmpQ
  have e1 : (a + c = b + c) = (a = b) := propext ⟨fun h => by have := congrArg (· - c) h; simpa [Rat.add_sub_cancel] using this, fun h => by rw [h]⟩
  have e2 : (a + c < b + c) = (a < b) := propext Rat.add_lt_add_right
  simp only [e1, e2]
theorem cmpQ_swap (a b : Rat) : cmpQ b a = -cmpQ a b := by
  rw [← sgn_cross, ← sgn_cross]
  unfold sgn
  have e : b.num * (a.den : Int) - a.num * (b.den : Int) = -(a.num * (b.den : Int) - b.num * (a.den : Int)) := by omega
  rw [e]
  generalize a.num * (b.den : Int) - b.num * (a.den : Int) = t
  by_cases h : t = 0
  · subst h; rfl
  · by_cases h2 : t < 0
    · rw [if_neg (by omega), if_neg (by omega), if_neg h, if_pos h2]; rfl
    · rw [if_neg (by omega), if_pos (by omega), if_neg h, if_neg h2]

end Go.Proofs.YtmfplelodnoicaaGreatDoor

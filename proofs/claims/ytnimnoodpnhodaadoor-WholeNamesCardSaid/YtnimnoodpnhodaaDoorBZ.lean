/- contracts as the laws on integers want them -/
import Derived.Test.YtnimnoodpnhodaaDoorR1
namespace Go.Proofs.YtnimnoodpnhodaaDoor
open Go.RowKit Dig

section
variable {w : World} {a1 : Option Addr} {n1 c1 : Nat} {m1 : Bool} {z1 : Int} {a2 : Option Addr} {n2 c2 : Nat} {m2 : Bool} {z2 : Int} {k1 k2 : Nat}
theorem cmp_is {v : Int} (h1 : Zd w (.slice a1 n1 c1) m1 z1) (h2 : Zd w (.slice a2 n2 c2) m2 z2) (b1 : Bd k1 z1) (b2 : Bd k2 z2) (hk1 : k1 ≤ 1000000) (hk2 : k2 ≤ 1000000) (hv : sgn (z1 - z2) = v) :
    Calls Tryd.prog 23 #[.agg #[.slice a1 n1 c1, .bool m1], .agg #[.slice a2 n2 c2, .bool m2]] w fun e w' => e = .returned (.int .i64 v) ∧ Below w.heap.size w w' := by
  subst hv; exact cmp_b h1 h2 b1 b2 hk1 hk2
theorem sign_is {v : Int} (h1 : Zd w (.slice a1 n1 c1) m1 z1) (hv : sgn z1 = v) : Calls Tryd.prog 6 #[.agg #[.slice a1 n1 c1, .bool m1]] w fun e w' => e = .returned (.int .i64 v) ∧ Below w.heap.size w w' := by
  subst hv; exact sign_b h1
end
theorem sgn_eq {x y : Int} (h : x = y) : sgn (x - y) = 0 := by subst h; unfold sgn; rw [if_pos (by omega)]
theorem sgn_0 {x : Int} (h : x = 0) : sgn x = 0 := by subst h; rfl

theorem sgn_1 {x : Int} (h : 0 < x) : sgn x = 1 := by unfold sgn; rw [if_neg (by omega), if_neg (by omega)]
theorem sgn_m {x : Int} (h : x < 0) : sgn x = -1 := by unfold sgn; rw [if_neg (by omega), if_pos h]
theorem sgn_ge {x : Int} (h : 0 ≤ x) : 0 ≤ sgn x := by unfold sgn; split; omega; split <;> omega

end Go.Proofs.YtnimnoodpnhodaaDoor

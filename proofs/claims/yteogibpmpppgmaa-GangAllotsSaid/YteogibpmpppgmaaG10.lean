/- the loads of a yard, plain: their list, its cost -/
import Derived.Test.YteogibpmpppgmaaG9
namespace Go.Proofs.Yteogibpmpppgmaa

def ldOf (X : Nat → Nat → Int) (i k : Nat) : List (Int × Int × Int) := if 0 < X i k then [((i : Int), (k : Int), X i k)] else []
def loadRow (nn : Nat) (X : Nat → Nat → Int) (i : Nat) : List (Int × Int × Int) := (List.range nn).flatMap (ldOf X i)
def loadsOf (np nn : Nat) (X : Nat → Nat → Int) : List (Int × Int × Int) := (List.range np).flatMap (loadRow nn X)
theorem loadsOf_succ (np nn : Nat) (X : Nat → Nat → Int) : loadsOf (np + 1) nn X = loadsOf np nn X ++ loadRow nn X np := by
  unfold loadsOf
  rw [List.range_succ, List.flatMap_append]
  simp
theorem row_succ (X : Nat → Nat → Int) (i k : Nat) : (List.range (k + 1)).flatMap (ldOf X i) = (List.range k).flatMap (ldOf X i) ++ ldOf X i k := by
  rw [List.range_succ, List.flatMap_append]
  simp
theorem row_len (X : Nat → Nat → Int) (i : Nat) : ∀ k, ((List.range k).flatMap (ldOf X i)).length ≤ k
  | 0 => by simp
  | k + 1 => by
    rw [row_succ, List.length_append]
    have := row_len X i k
    have h : (ldOf X i k).length ≤ 1 := by unfold ldOf; split <;> simp
    omega
theorem loads_len (nn : Nat) (X : Nat → Nat → Int) : ∀ np, (loadsOf np nn X).length ≤ np * nn
  | 0 => by simp [loadsOf]
  | np + 1 => by
    rw [loadsOf_succ, List.length_append, Nat.succ_mul]
    have := loads_len nn X np
    have := row_len X np nn
    unfold loadRow
    omega
theorem rsum_abs {f : Nat → Int} {B : Int} : ∀ n : Nat, (∀ i, i < n → 0 ≤ f i ∧ f i ≤ B) → 0 ≤ rsum f n ∧ rsum f n ≤ n * B
  | 0, _ => by simp [rsum]
  | n + 1, h => by
    have h1 := rsum_abs n fun i hi => h i (by omega)
    have h2 := h n (by omega)
    show 0 ≤ rsum f n + f n ∧ rsum f n + f n ≤ ((n + 1 : Nat) : Int) * B
    rw [show ((n + 1 : Nat) : Int) = (n : Int) + 1 by omega, Int.add_mul]
    omega
end Go.Proofs.Yteogibpmpppgmaa

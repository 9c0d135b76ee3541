/- are numbers a proof for a cost: the reference's Proof -/
import Derived.Test.YteogibpmpppgmaaK9
namespace Go.Proofs.Yteogibpmpppgmaa
open Go.RowKit

def usOk (u : List Int) : Bool := u.all fun x => inB x 0 1000000000
def suP (P : List I3) (u : List Int) (k : Nat) : Int := rsum (fun i => hA P i * u.getD i 0) k
def svN (N : List I2) (v : List Int) (k : Nat) : Int := rsum (fun i => hB N i * v.getD i 0) k
def pairsOk (P : List I3) (N : List I2) (u v : List Int) : Bool := (List.range N.length).all fun k => (List.range P.length).all fun i => decide (v.getD k 0 - u.getD i 0 ≤ unitI (P.getD i ld0) (N.getD k (0, 0)))
def proofB (P : List I3) (N : List I2) (cost : Int) (u v : List Int) : Bool := decide (u.length = P.length) && decide (v.length = N.length) && usOk u && usOk v && pairsOk P N u v && decide (svN N v N.length - suP P u P.length = cost)
theorem us_no {u : List Int} {k : Nat} (h : k < u.length) (hb : inB (u.getD k 0) 0 1000000000 = false) : usOk u = false := by
  unfold usOk
  rw [List.all_eq_false]
  exact ⟨u[k], List.getElem_mem h, by rw [← getD_at h, hb]; decide⟩
theorem us_yes {u : List Int} (h : ∀ i, i < u.length → inB (u.getD i 0) 0 1000000000 = true) : usOk u = true := by
  unfold usOk
  rw [List.all_eq_true]
  intro x hx
  obtain ⟨i, hi, rfl⟩ := List.getElem_of_mem hx
  rw [← getD_at hi]
  exact h i hi
theorem pairs_no {P : List I3} {N : List I2} {u v : List Int} {i k : Nat} (hi : i < P.length) (hk : k < N.length) (h : unitI (P.getD i ld0) (N.getD k (0, 0)) < v.getD k 0 - u.getD i 0) : pairsOk P N u v = false := by
  unfold pairsOk
  rw [List.all_eq_false]
  refine ⟨k, List.mem_range.2 hk, ?_⟩
  rw [Bool.not_eq_true, List.all_eq_false]
  exact ⟨i, List.mem_range.2 hi, by rw [decide_eq_true_eq]; omega⟩
theorem pairs_yes {P : List I3} {N : List I2} {u v : List Int} (h : ∀ k, k < N.length → ∀ i, i < P.length → v.getD k 0 - u.getD i 0 ≤ unitI (P.getD i ld0) (N.getD k (0, 0))) : pairsOk P N u v = true := by
  unfold pairsOk
  rw [List.all_eq_true]
  intro k hk
  rw [List.all_eq_true]
  exact fun i hi => decide_eq_true (h k (List.mem_range.1 hk) i (List.mem_range.1 hi))
section
variable {P : List I3} {N : List I2} {cost : Int} {u v : List Int}
theorem proof_no0 (h : ¬ u.length = P.length) : proofB P N cost u v = false := by unfold proofB; rw [decide_eq_false h]; rfl
theorem proof_no1 (h : ¬ v.length = N.length) : proofB P N cost u v = false := by unfold proofB; rw [decide_eq_false h, Bool.and_false]; rfl
theorem proof_no2 (h : usOk u = false) : proofB P N cost u v = false := by unfold proofB; rw [h, Bool.and_false]; rfl
theorem proof_no3 (h : usOk v = false) : proofB P N cost u v = false := by unfold proofB; rw [h, Bool.and_false]; rfl
theorem proof_no4 (h : pairsOk P N u v = false) : proofB P N cost u v = false := by unfold proofB; rw [h, Bool.and_false]; rfl
theorem proof_yes (h0 : u.length = P.length) (h1 : v.length = N.length) (h2 : usOk u = true) (h3 : usOk v = true) (h4 : pairsOk P N u v = true) : proofB P N cost u v = decide (svN N v N.length - suP P u P.length = cost) := by unfold proofB; rw [decide_eq_true h0, decide_eq_true h1, h2, h3, h4]; simp only [Bool.true_and, Bool.and_self]
end
section
variable (w : World)
end
end Go.Proofs.Yteogibpmpppgmaa

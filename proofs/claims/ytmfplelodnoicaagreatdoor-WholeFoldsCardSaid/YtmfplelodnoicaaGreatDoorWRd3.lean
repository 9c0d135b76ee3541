/- a row of numbers that is handed in, opened -/
import Derived.Test.YtmfplelodnoicaaGreatDoorWRd2
import Derived.Test.YtmfplelodnoicaaGreatDoorWB17
namespace Go.Proofs.YtmfplelodnoicaaGreatDoor
open Go.ChangeShapes Go.WideShapes Go.RowKit Go.Deep Go.Joins

theorem laidOut : laidOutB Tryz.prog = true := by kernel_rfl

section
variable {H : Type} {enc : TypeId × Value → H} {W : World} {base : Nat}
set_option maxRecDepth 100000 in
theorem open_Nums {v : Value} {d : DataW H} {p : List MemPlace} (hv : Value.okWide Tryz.prog W .any base 96 v) (h : DataW.Trod enc Tryz.prog W 0 (fun _ => true) true 96 v d p) :
    ∃ (a : Option Addr) (l : List (Int × Int)) (c : Nat), v = .slice a l.length c ∧ NumRow W a l := by
  obtain ⟨a0, len, cap, rfl⟩ := okWide_slice Tryz.underlying96 hv
  obtain ⟨fuel, hf⟩ := h
  rcases open_slice_fields Tryz.underlying96 Tryz.underlying60 (by kernel_rfl) (by kernel_rfl) hf with ⟨hcs, hx⟩ | ⟨a, len', cap', m, D, Pl, hcs, hb, hl, hm, hmm, hx, hi⟩
  · simp [Value.cells] at hcs
    obtain ⟨rfl, rfl, rfl⟩ := hcs
    exact ⟨none, [], 0, rfl, fun k hk => absurd hk (Nat.not_lt_zero k)⟩
  · simp [Value.cells] at hcs
    obtain ⟨rfl, rfl, rfl⟩ := hcs
    have key : ∀ k, k < len → ∃ x : Int × Int, W.cell? (a.add (k * 2)) = some (.int .i64 x.1) ∧ W.cell? ⟨(a.add (k * 2)).block, (a.add (k * 2)).off + 1, none⟩ = some (.int .i64 x.2) ∧
        (-9223372036854775808 ≤ x.1 ∧ x.1 < 9223372036854775808) ∧ (-9223372036854775808 ≤ x.2 ∧ x.2 < 9223372036854775808) := by
      intro k hk
      obtain ⟨ys, n, h1, h2, h3, h4⟩ := hi k (by simp at hmm; omega)
      obtain ⟨v0, y0, c0, _, t0⟩ := h4 0 _ rfl
      obtain ⟨v1, y1, c1, _, t1⟩ := h4 1 _ rfl
      obtain ⟨z0, e0, _, w0⟩ := DataW.trod_int Tryz.underlying2 t0
      obtain ⟨z1, e1, _, w1⟩ := DataW.trod_int Tryz.underlying2 t1
      simp at e0 e1
      subst e0 e1
      refine ⟨(z0, z1), c0, ?_, i64_wf w0, i64_wf w1⟩
      rw [← Go.Deep.add_add] at c1
      exact c1
    obtain ⟨f, hf'⟩ := choose_lt key
    have hl2 : ((List.range len).map f).length = len := by simp
    refine ⟨some a, (List.range len).map f, cap, by rw [hl2], fun k hk => ?_⟩
    rw [hl2] at hk
    obtain ⟨c0, c1, b0, b1⟩ := hf' k hk
    have e : ((List.range len).map f)[k]'(by rw [hl2]; exact hk) = f k := by simp
    refine ⟨a, rfl, ?_, ?_⟩
    · have := World.block_lt_of_cell? W _ c0
      rwa [add_block] at this
    · rw [e]
      exact ⟨c0, c1, b0, b1⟩
end

end Go.Proofs.YtmfplelodnoicaaGreatDoor

/- cmp.Compare, cmp.Or; the shares' closures -/
import Derived.Test.YtchignmnnbepnaaGreatJ7
import Derived.Test.YtchignmnnbepnaaGreatJ8
import Derived.StillTailTactics
import Derived.Sort.Grow
namespace Go.Proofs.YtchignmnnbepnaaGreat
open Go.RowKit
theorem und_int : Tryz.prog.underlying 31 = some (.slice 3) := Tryz.underlying31
theorem info_int : (Tryz.prog.info? 3).map (fun i => (i.zero, i.size, i.bytes)) = some (some (.int .i64 0), 1, 8) := by kernel_rfl
def cmpI (x y : Int) : Int := if x < y then -1 else if y < x then 1 else 0
section
variable (w : World)
set_option maxHeartbeats 400000 in
theorem isNaN_any (x : Int) : Calls Tryz.prog 77 #[.int .i64 x] w fun e w' => e = .returned (.bool false) ∧ w' = w := by
  have h : (x != x) = false := by simp
  go_enter Tryz.func77, Tryz.ntmps77
  go_wp2
  go_ret
  exact ⟨rfl, rfl⟩
set_option maxHeartbeats 400000 in
theorem compare_any (x y : Int) : Calls Tryz.prog 47 #[.int .i64 x, .int .i64 y] w fun e w' => e = .returned (.int .i64 (cmpI x y)) ∧ w' = w := by
  unfold cmpI
  by_cases h1 : x < y
  · rw [if_pos h1]
    go_enter Tryz.func47, Tryz.ntmps47
    go_wp2_with ((with_reducible refine (isNaN_any _ _).mono ?_); rintro e w1 ⟨rfl, rfl⟩)
    go_ret
    exact ⟨rfl, rfl⟩
  · rw [if_neg h1]
    by_cases h2 : y < x
    · rw [if_pos h2]
      go_enter Tryz.func47, Tryz.ntmps47
      go_wp2_with ((with_reducible refine (isNaN_any _ _).mono ?_); rintro e w1 ⟨rfl, rfl⟩)
      go_ret
      exact ⟨rfl, rfl⟩
    · rw [if_neg h2]
      go_enter Tryz.func47, Tryz.ntmps47
      go_wp2_with ((with_reducible refine (isNaN_any _ _).mono ?_); rintro e w1 ⟨rfl, rfl⟩)
      go_ret
      exact ⟨rfl, rfl⟩
theorem cell_two (w : World) (u v : Value) (t : TypeId) : (w.alloc (.cells #[u, v] t)).cell? ⟨w.heap.size, 0, none⟩ = some u ∧ (w.alloc (.cells #[u, v] t)).cell? ⟨w.heap.size, 1, none⟩ = some v := by
  have h : (w.alloc (.cells #[u, v] t)).heap[w.heap.size]? = some (.cells #[u, v] t (0, 0)) := by show (w.heap.push _)[w.heap.size]? = _; rw [Array.getElem?_push, if_pos rfl]
  constructor <;> (unfold World.cell?; rw [h]; rfl)
def orI (x y : Int) : Int := if x ≠ 0 then x else y
set_option maxHeartbeats 1000000 in
theorem or_any (g : Nat) (x y : Int) (h0 : w.cell? ⟨g, 0, none⟩ = some (.int .i64 x)) (h1 : w.cell? ⟨g, 1, none⟩ = some (.int .i64 y)) : Calls Tryz.prog 46 #[.slice (some ⟨g, 0, none⟩) 2 2] w fun e w' => e = .returned (.int .i64 (orI x y)) ∧ w' = w := by
  unfold orI
  cases hx : (x != 0)
  · have hx0 : ¬ x ≠ 0 := by simpa using hx
    rw [if_neg hx0]
    clear hx0
    cases hy : (y != 0)
    · have HY := Lib.hid (show y = 0 by simpa using hy)
      go_enter Tryz.func46, Tryz.ntmps46
      go_wp2
      refine wp_loop_rounds 3 ?_
      rw [rounds_succ]
      go_wp2
      rw [rounds_succ]
      go_wp2
      rw [rounds_succ]
      go_wp2
      go_ret
      exact ⟨ret_int HY.out.symm, rfl⟩
    · go_enter Tryz.func46, Tryz.ntmps46
      go_wp2
      refine wp_loop_rounds 2 ?_
      rw [rounds_succ]
      go_wp2
      rw [rounds_succ]
      go_wp2
      go_ret
      exact ⟨rfl, rfl⟩
  · have hx0 : x ≠ 0 := by simpa using hx
    rw [if_pos hx0]
    clear hx0
    go_enter Tryz.func46, Tryz.ntmps46
    go_wp2
    refine wp_loop_rounds 1 ?_
    rw [rounds_succ]
    go_wp2
    go_ret
    exact ⟨rfl, rfl⟩
set_option maxHeartbeats 400000 in
theorem share1_any (x : Int) : Calls Tryz.prog 41 #[.int .i64 x] w (Gives (.bool (!inB x 0 1000000)) w) := by
  go_enter Tryz.func41, Tryz.ntmps41
  go_wp2_with ((with_reducible refine (within_any _ _ _ _).mono ?_); rintro e w1 ⟨rfl, rfl⟩)
  go_ret
  exact ⟨rfl, Below.refl _ _⟩
set_option maxHeartbeats 400000 in
theorem share2_any (x : Int) : Calls Tryz.prog 42 #[.int .i64 x] w (Gives (.int .i64 x) w) := by
  go_enter Tryz.func42, Tryz.ntmps42
  go_wp2
  go_ret
  exact ⟨rfl, Below.refl _ _⟩
theorem eg_share1 : EG 41 := enters_of Tryz.func41 (by kernel_rfl) rfl
theorem eg_share2 : EG 42 := enters_of Tryz.func42 (by kernel_rfl) rfl
theorem eg_share3 : EG 45 := enters_of Tryz.func45 (by kernel_rfl) rfl
/-- what the order of the pennies compares -/
def shareCmp (s A : Int) (parts : List Int) (i k : Nat) : Int := orI (cmpI (s * parts.getD k 0 % A) (s * parts.getD i 0 % A)) (cmpI i k)
set_option maxHeartbeats 2000000 in
set_option maxRecDepth 100000 in
theorem share3_any (b0 b1 b2 : Nat) (a : Option Addr) (n c : Nat) (s A : Int) (parts : List Int) (i k : Nat) (hi : i < n) (hk : k < n) (hs : Sx 1 w a n c (L1 parts)) (hg : ∀ x ∈ parts, 0 ≤ x ∧ x ≤ 1000000) (hs0 : 0 ≤ s) (hs1 : s ≤ 1000000000) (hA : 1 ≤ A) (hA2 : A ≤ 1000000000)
    (h0 : w.cell? ⟨b0, 0, none⟩ = some (.int .i64 s)) (h1 : w.cell? ⟨b1, 0, none⟩ = some (.slice a n c)) (h2 : w.cell? ⟨b2, 0, none⟩ = some (.int .i64 A)) (hn : n ≤ 60) :
    Calls Tryz.prog 45 #[.int .i64 i, .int .i64 k, .pointer (some ⟨b0, 0, none⟩), .pointer (some ⟨b1, 0, none⟩), .pointer (some ⟨b2, 0, none⟩)] w fun e w' => e = .returned (.int .i64 (shareCmp s A parts i k)) ∧ ∃ q os, w' = Sort.grow (w.drewN q) os := by
  have hlen := hs.n1
  obtain ⟨g, o, rfl⟩ := hs.addr (by omega)
  have x0 := hs.at1 (i := i) (by omega)
  have y0 := hs.at1 (i := k) (by omega)
  unfold shareCmp
  rw [getD_at (by omega), getD_at (by omega)]
  have gx := hg parts[i] (List.getElem_mem _)
  have gy := hg parts[k] (List.getElem_mem _)
  generalize parts[i] = x at *
  generalize parts[k] = y at *
  have p0 : 0 ≤ s * x := Int.mul_nonneg hs0 gx.1
  have p1 : s * x ≤ 1000000000 * 1000000 := Int.mul_le_mul hs1 gx.2 gx.1 (by decide)
  have q0 : 0 ≤ s * y := Int.mul_nonneg hs0 gy.1
  have q1 : s * y ≤ 1000000000 * 1000000 := Int.mul_le_mul hs1 gy.2 gy.1 (by decide)
  have i0 : (0 : Int) ≤ (i : Int) := by omega
  have i1 : (i : Int) < (n : Int) := by omega
  have k0 : (0 : Int) ≤ (k : Int) := by omega
  have k1 : (k : Int) < (n : Int) := by omega
  have wy : IntKind.i64.wrap (s * y) = s * y := IntWalk.i64_in _ (by omega)
  have wx : IntKind.i64.wrap (s * x) = s * x := IntWalk.i64_in _ (by omega)
  have ty : (s * y).tmod A = s * y % A := Int.tmod_eq_emod_of_nonneg q0
  have tx : (s * x).tmod A = s * x % A := Int.tmod_eq_emod_of_nonneg p0
  have hA0 : ¬ A = 0 := by omega
  clear hs hlen hg p0 p1 q0 q1
  go_enter Tryz.func45, Tryz.ntmps45
  go_wp2
  go_still_tail 20, (by kernel_rfl)
  clear wx wy tx ty
  still_call (compare_any _ _ _)
  repeat still_step
  still_call (compare_any _ _ _)
  refine wpStill_nil ?_
  change wpList _ _ _ _ _ w.drew
  generalize hwd : w.drew = w2
  have HW := Lib.hid hwd
  clear hwd h0 h1 h2 x0 y0
  generalize hu : cmpI (s * y % A) (s * x % A) = u
  generalize hv : cmpI (i : Int) (k : Int) = v
  have HU := Lib.hid hu
  have HV := Lib.hid hv
  clear hu hv
  go_wp2_with fail
  refine (or_any _ _ u v (cell_two _ _ _ _).1 (cell_two _ _ _ _).2).mono ?_
  rintro e w3 ⟨rfl, rfl⟩
  go_wp2
  go_ret
  exact ⟨ret_int (by rw [HU.out, HV.out]), 1, #[_], by rw [← HW.out, Sort.alloc_eq_grow]; rfl⟩
end
end Go.Proofs.YtchignmnnbepnaaGreat

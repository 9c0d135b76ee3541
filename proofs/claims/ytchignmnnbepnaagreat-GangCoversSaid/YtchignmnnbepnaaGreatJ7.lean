/- the gang's closures, and what rests on them: Trips, wrongUses, on, wrongYard, enough, costs, yardError -/
import Derived.Test.YtchignmnnbepnaaGreatJ5
import Derived.Test.YtchignmnnbepnaaGreatJ6
import Derived.Shelf.Abstract
import Derived.Laws.EntriesVeiled
namespace Go.Proofs.YtchignmnnbepnaaGreat
open Go.RowKit

section
variable (w W : World)
theorem below1 (w : World) (o : Obj) : Below w.heap.size w (w.alloc o) := (Below.refl _ _).alloc (Nat.le_refl _) _
theorem cell_box (w : World) (v : Value) (t : TypeId) : (w.alloc (.cells #[v] t)).cell? ⟨w.heap.size, 0, none⟩ = some v := by
  have h : (w.alloc (.cells #[v] t)).heap[w.heap.size]? = some (.cells #[v] t (0, 0)) := by show (w.heap.push _)[w.heap.size]? = _; rw [Array.getElem?_push, if_pos rfl]
  unfold World.cell?
  rw [h]
  rfl
theorem below2 (w : World) (o o' : Obj) : Below w.heap.size w ((w.alloc o).alloc o') := (below1 w o).alloc (by simp) _
set_option maxHeartbeats 400000 in
theorem trips1_any (x : I3) : Calls Tryz.prog 52 #[.agg #[.int .i64 x.1, .int .i64 x.2.1, .int .i64 x.2.2]] W (Gives (.bool (!inB x.2.2 1 1000000)) W) := by
  obtain ⟨x0, x1, x2⟩ := x
  show Calls Tryz.prog 52 #[.agg #[.int .i64 x0, .int .i64 x1, .int .i64 x2]] W (Gives (.bool (!inB x2 1 1000000)) W)
  go_enter Tryz.func52, Tryz.ntmps52
  go_wp2_with fail
  refine (within_any _ _ _ _).mono ?_
  rintro e w1 ⟨rfl, rfl⟩
  go_wp2
  go_ret
  exact ⟨rfl, below1 _ _⟩
def tripsOf (cart : Int) (x : I3) : Int := (x.2.2 - 1) / cart + 1
set_option maxHeartbeats 400000 in
theorem trips2_any (x : I3) (b : Nat) (cart : Int) (hb : W.cell? ⟨b, 0, none⟩ = some (.int .i64 cart)) (hlt : b < W.heap.size) (h1 : 1 ≤ cart) (hx : 1 ≤ x.2.2 ∧ x.2.2 ≤ 1000000) (hc : cart ≤ 9223372036854775807) :
    Calls Tryz.prog 54 #[.agg #[.int .i64 x.1, .int .i64 x.2.1, .int .i64 x.2.2], .pointer (some ⟨b, 0, none⟩)] W (Gives (.int .i64 (tripsOf cart x)) W) := by
  obtain ⟨x0, x1, x2⟩ := x
  show Calls Tryz.prog 54 #[.agg #[.int .i64 x0, .int .i64 x1, .int .i64 x2], .pointer (some ⟨b, 0, none⟩)] W (Gives (.int .i64 ((x2 - 1) / cart + 1)) W)
  have h2 : 1 ≤ x2 := hx.1
  have h3 : x2 ≤ 1000000 := hx.2
  have hd0 : 0 ≤ (x2 - 1) / cart := Int.ediv_nonneg (by omega) (by omega)
  have hd1 : (x2 - 1) / cart ≤ x2 - 1 := Int.ediv_le_self _ (by omega)
  clear hx
  go_enter Tryz.func54, Tryz.ntmps54
  go_wp2
  go_ret
  exact ⟨rfl, below1 _ _⟩
def badUse (u : I2) : Bool := decide (u.1 < 0) || decide (100000 < u.2) || decide (u.2 ≤ u.1)
set_option maxHeartbeats 400000 in
theorem wrongUses1_any (u : I2) : Calls Tryz.prog 84 #[.agg #[.int .i64 u.1, .int .i64 u.2]] W (Gives (.bool (badUse u)) W) := by
  obtain ⟨x0, x1⟩ := u
  show Calls Tryz.prog 84 #[.agg #[.int .i64 x0, .int .i64 x1]] W (Gives (.bool (decide (x0 < 0) || decide (100000 < x1) || decide (x1 ≤ x0))) W)
  cases h1 : decide (x0 < 0)
  · cases h2 : decide (100000 < x1)
    · cases h3 : decide (x1 ≤ x0)
      all_goals
        go_enter Tryz.func84, Tryz.ntmps84
        go_wp2
        go_ret
        exact ⟨ret_bool (by simp), below1 _ _⟩
    · go_enter Tryz.func84, Tryz.ntmps84
      go_wp2
      go_ret
      exact ⟨ret_bool (by simp), below1 _ _⟩
  · go_enter Tryz.func84, Tryz.ntmps84
    go_wp2
    go_ret
    exact ⟨ret_bool (by simp), below1 _ _⟩
def badPile (x : I3) : Bool := !inB x.1 (-100000) 100000 || !inB x.2.1 0 1000000 || !inB x.2.2 0 1000000
def badNeed (x : I2) : Bool := !inB x.1 (-100000) 100000 || !inB x.2 0 1000000
set_option maxHeartbeats 400000 in
theorem far_any (x y z : Int) : Calls Tryz.prog 112 #[.int .i64 x, .int .i64 y, .int .i64 z] W fun e w' => e = .returned (.bool (badPile (x, y, z))) ∧ w' = W := by
  show Calls Tryz.prog 112 #[.int .i64 x, .int .i64 y, .int .i64 z] W fun e w' => e = .returned (.bool (!inB x (-100000) 100000 || !inB y 0 1000000 || !inB z 0 1000000)) ∧ w' = W
  cases h1 : inB x (-100000) 100000
  · go_enter Tryz.func112, Tryz.ntmps112
    go_wp2_with ((with_reducible refine (within_any _ _ _ _).mono ?_); rintro e w1 ⟨rfl, rfl⟩)
    go_ret
    exact ⟨rfl, rfl⟩
  · cases h2 : inB y 0 1000000
    · go_enter Tryz.func112, Tryz.ntmps112
      go_wp2_with ((with_reducible refine (within_any _ _ _ _).mono ?_); rintro e w1 ⟨rfl, rfl⟩)
      go_ret
      exact ⟨rfl, rfl⟩
    · cases h3 : inB z 0 1000000
      all_goals
        go_enter Tryz.func112, Tryz.ntmps112
        go_wp2_with ((with_reducible refine (within_any _ _ _ _).mono ?_); rintro e w1 ⟨rfl, rfl⟩)
        go_ret
        exact ⟨rfl, rfl⟩
set_option maxHeartbeats 400000 in
theorem wrongYard2_any (x : I3) (b : Nat) (hb : W.cell? ⟨b, 0, none⟩ = some (.func (.func 112) #[] #[])) (hlt : b < W.heap.size) : Calls Tryz.prog 114 #[.agg #[.int .i64 x.1, .int .i64 x.2.1, .int .i64 x.2.2], .pointer (some ⟨b, 0, none⟩)] W (Gives (.bool (badPile x)) W) := by
  obtain ⟨x0, x1, x2⟩ := x
  show Calls Tryz.prog 114 #[.agg #[.int .i64 x0, .int .i64 x1, .int .i64 x2], .pointer (some ⟨b, 0, none⟩)] W (Gives (.bool (badPile (x0, x1, x2))) W)
  go_enter Tryz.func114, Tryz.ntmps114
  go_wp2_with ((with_reducible refine (far_any _ _ _ _).mono ?_); rintro e w1 ⟨rfl, rfl⟩)
  go_ret
  exact ⟨rfl, below1 _ _⟩
set_option maxHeartbeats 400000 in
theorem wrongYard3_any (x : I2) (b : Nat) (hb : W.cell? ⟨b, 0, none⟩ = some (.func (.func 112) #[] #[])) (hlt : b < W.heap.size) : Calls Tryz.prog 116 #[.agg #[.int .i64 x.1, .int .i64 x.2], .pointer (some ⟨b, 0, none⟩)] W (Gives (.bool (badPile (x.1, x.2, 0))) W) := by
  obtain ⟨x0, x1⟩ := x
  show Calls Tryz.prog 116 #[.agg #[.int .i64 x0, .int .i64 x1], .pointer (some ⟨b, 0, none⟩)] W (Gives (.bool (badPile (x0, x1, 0))) W)
  go_enter Tryz.func116, Tryz.ntmps116
  go_wp2_with ((with_reducible refine (far_any _ _ _ _).mono ?_); rintro e w1 ⟨rfl, rfl⟩)
  go_ret
  exact ⟨rfl, below1 _ _⟩
theorem badPile_need (x : I2) : badPile (x.1, x.2, 0) = badNeed x := by
  unfold badPile badNeed
  rw [show inB (0 : Int) 0 1000000 = true from rfl]
  simp
set_option maxHeartbeats 400000 in
theorem enough1_any (x : I3) : Calls Tryz.prog 118 #[.agg #[.int .i64 x.1, .int .i64 x.2.1, .int .i64 x.2.2]] W (Gives (.int .i64 x.2.1) W) := by
  obtain ⟨x0, x1, x2⟩ := x
  show Calls Tryz.prog 118 #[.agg #[.int .i64 x0, .int .i64 x1, .int .i64 x2]] W (Gives (.int .i64 x1) W)
  go_enter Tryz.func118, Tryz.ntmps118
  go_wp2
  go_ret
  exact ⟨rfl, below1 _ _⟩
set_option maxHeartbeats 400000 in
theorem enough2_any (x : I2) : Calls Tryz.prog 120 #[.agg #[.int .i64 x.1, .int .i64 x.2]] W (Gives (.int .i64 x.2) W) := by
  obtain ⟨x0, x1⟩ := x
  show Calls Tryz.prog 120 #[.agg #[.int .i64 x0, .int .i64 x1]] W (Gives (.int .i64 x1) W)
  go_enter Tryz.func120, Tryz.ntmps120
  go_wp2
  go_ret
  exact ⟨rfl, below1 _ _⟩
def unitI (p : I3) (n : I2) : Int := max (p.1 - n.1) (n.1 - p.1) + p.2.2
set_option maxHeartbeats 400000 in
theorem costs_any (p : I3) (n : I2) (h1 : -1000000 ≤ p.1 ∧ p.1 ≤ 1000000) (h2 : -1000000 ≤ n.1 ∧ n.1 ≤ 1000000) (h3 : 0 ≤ p.2.2 ∧ p.2.2 ≤ 1000000) : Calls Tryz.prog 81 #[.agg #[.int .i64 p.1, .int .i64 p.2.1, .int .i64 p.2.2], .agg #[.int .i64 n.1, .int .i64 n.2]] W (Gives (.int .i64 (unitI p n)) W) := by
  obtain ⟨x0, x1, x2⟩ := p
  obtain ⟨y0, y1⟩ := n
  show Calls Tryz.prog 81 #[.agg #[.int .i64 x0, .int .i64 x1, .int .i64 x2], .agg #[.int .i64 y0, .int .i64 y1]] W (Gives (.int .i64 (max (x0 - y0) (y0 - x0) + x2)) W)
  have a1 : -1000000 ≤ x0 := h1.1
  have a2 : x0 ≤ 1000000 := h1.2
  have a3 : -1000000 ≤ y0 := h2.1
  have a4 : y0 ≤ 1000000 := h2.2
  have a5 : 0 ≤ x2 := h3.1
  have a6 : x2 ≤ 1000000 := h3.2
  clear h1 h2 h3
  go_enter Tryz.func81, Tryz.ntmps81
  go_wp2
  all_goals
    go_ret
    exact ⟨ret_int (by omega), below2 _ _ _⟩
end
theorem eg_trips1 : EG 52 := enters_of Tryz.func52 (by kernel_rfl) rfl
theorem eg_trips2 : EG 54 := enters_of Tryz.func54 (by kernel_rfl) rfl
theorem eg_wu1 : EG 84 := enters_of Tryz.func84 (by kernel_rfl) rfl
theorem eg_wy2 : EG 114 := enters_of Tryz.func114 (by kernel_rfl) rfl
theorem eg_wy3 : EG 116 := enters_of Tryz.func116 (by kernel_rfl) rfl
theorem eg_e1 : EG 118 := enters_of Tryz.func118 (by kernel_rfl) rfl
theorem eg_e2 : EG 120 := enters_of Tryz.func120 (by kernel_rfl) rfl
theorem sumBy_bd {α : Type} {f : α → Int} {B : Int} {l : List α} (hB : 0 ≤ B) (h : ∀ x ∈ l, -B ≤ f x ∧ f x ≤ B) (hl : (l.length : Int) * B ≤ 9223372036854775807) : ∀ k, -9223372036854775808 ≤ sumBy f (l.take k) ∧ sumBy f (l.take k) ≤ 9223372036854775807 := by
  intro k
  unfold sumBy
  have h1 : ∀ y ∈ (l.take k).map f, -B ≤ y := fun y hy => by obtain ⟨x, hx, rfl⟩ := List.mem_map.1 hy; exact (h x (List.mem_of_mem_take hx)).1
  have h2 : ∀ y ∈ (l.take k).map f, y ≤ B := fun y hy => by obtain ⟨x, hx, rfl⟩ := List.mem_map.1 hy; exact (h x (List.mem_of_mem_take hx)).2
  have h3 := lsum_ge h1
  have h4 := lsum_le h2
  rw [List.length_map, List.length_take] at h3 h4
  have h5 : ((min k l.length : Nat) : Int) * B ≤ (l.length : Int) * B := Int.mul_le_mul_of_nonneg_right (by omega) hB
  rw [Int.mul_neg] at h3
  omega
section
variable (w : World)
/-- how many trips: the error, or the sum -/
def tripsBad (l : List I3) : Bool := l.any fun x => !inB x.2.2 1 1000000
set_option maxHeartbeats 1000000 in
theorem trips_ok (a : Option Addr) (n c : Nat) (l : List I3) (cart : Int) (hs : Sx 3 w a n c (L3 l)) (h : 1 ≤ cart) (hcm : cart ≤ 9223372036854775807) (hl : n ≤ 400) (hb : tripsBad l = false) : Calls Tryz.prog 24 #[.slice a n c, .int .i64 cart] w (Gives (.tuple #[.int .i64 (sumBy (tripsOf cart) l), .int .i64 0]) w) := by
  have hx := fun W (hW : Below w.heap.size w W) => containsFunc_Load a n c l 52 #[] _ W (hs.below hW) eg_trips1 (fun W' _ x _ => trips1_any W' x)
  have hall : ∀ x ∈ l, 1 ≤ x.2.2 ∧ x.2.2 ≤ 1000000 := fun x hx => by
    have := List.any_eq_false.1 hb x hx
    simp only [Bool.not_eq_true, Bool.not_eq_false'] at this
    exact inB_iff.1 this
  have hlen := hs.n3
  have hsum : ∀ k, -9223372036854775808 ≤ sumBy (tripsOf cart) (l.take k) ∧ sumBy (tripsOf cart) (l.take k) ≤ 9223372036854775807 := sumBy_bd (B := 1000000) (by decide) (fun x hx => by
    obtain ⟨h1, h2⟩ := hall x hx
    have hd0 : 0 ≤ (x.2.2 - 1) / cart := Int.ediv_nonneg (by omega) (by omega)
    have hd1 : (x.2.2 - 1) / cart ≤ x.2.2 - 1 := Int.ediv_le_self _ (by omega)
    unfold tripsOf
    omega) (by omega)
  have ht := fun (b : Nat) W (hW : Below w.heap.size w W) (hc : W.cell? ⟨b, 0, none⟩ = some (.int .i64 cart)) (hbl : b < W.heap.size) => total_Load a n c l 54 #[.pointer (some ⟨b, 0, none⟩)] (tripsOf cart) W (hs.below hW) eg_trips2
    (fun W' hW' x hx => trips2_any W' x b cart (by rw [hW'.cell (p := ⟨b, 0, none⟩) hbl]; exact hc) (Nat.lt_of_lt_of_le hbl hW'.size) h (hall x hx) hcm) (Lib.hid hsum)
  have HX := Lib.hid hx
  have HB := Lib.hid hb
  have HT := Lib.hid ht
  clear hx hb hs ht hall hsum hlen
  go_enter Tryz.func24, Tryz.ntmps24
  go_wp2_with fail
  refine (HX.out _ (below1 _ _)).mono ?_
  rintro e w1 ⟨rfl, hb1⟩
  have hB := Lib.hid ((below1 w _).trans (hb1.mono (by simp)))
  have hc := (hb1.cell (p := ⟨w.heap.size, 0, none⟩) (by simp)).trans (show (w.alloc (.cells #[.int .i64 cart] 3)).cell? ⟨w.heap.size, 0, none⟩ = some (.int .i64 cart) from cell_box _ _ _)
  have hlt : w.heap.size < w1.heap.size := by have := hb1.size; simp at this; omega
  clear hb1 HX
  rw [show (l.any fun x => !inB x.2.2 1 1000000) = false from HB.out]
  go_wp2_with fail
  refine (HT.out _ _ hB.out hc hlt).mono ?_
  rintro e w2 ⟨rfl, hb2⟩
  have hB2 := Lib.hid (hB.out.trans (hb2.mono hB.out.size))
  clear hb2 HT
  go_wp2
  go_ret2
  exact ⟨rfl, hB2.out⟩
def usesBad (l : List I2) : Bool := decide (60 < l.length) || l.any badUse
set_option maxHeartbeats 1000000 in
theorem wrongUses_any (a : Option Addr) (n c : Nat) (l : List I2) (hs : Sx 2 w a n c (L2 l)) : Calls Tryz.prog 55 #[.slice a n c] w (Gives (.bool (usesBad l)) w) := by
  have hlen := hs.n2
  have hm : n ≤ 9223372036854775807 := by have := hs.cap; unfold maxLen at this; omega
  unfold usesBad
  by_cases hl : 60 < n
  · rw [show decide (60 < l.length) = true by simpa [← hlen] using hl, Bool.true_or]
    clear hlen hs
    go_enter Tryz.func55, Tryz.ntmps55
    go_wp2
    go_ret
    exact ⟨rfl, Below.refl _ _⟩
  · rw [show decide (60 < l.length) = false by simpa [← hlen] using hl, Bool.false_or]
    have HX := Lib.hid (containsFunc_Use a n c l 84 #[] badUse w hs eg_wu1 (fun W' _ x _ => wrongUses1_any W' x))
    clear hs hlen
    go_enter Tryz.func55, Tryz.ntmps55
    go_wp2_with fail
    refine HX.out.mono ?_
    rintro e w1 ⟨rfl, hb1⟩
    have hB := Lib.hid hb1
    clear hb1
    go_wp2
    go_ret
    exact ⟨ret_bool (by rw [show decide ((60 : Int) < (n : Int)) = false from decide_eq_false (by omega), Bool.false_or]), hB.out⟩
def yardBad (P : List I3) (N : List I2) : Bool := decide (20 < P.length) || decide (20 < N.length) || P.any badPile || N.any badNeed
set_option maxHeartbeats 1000000 in
theorem wrongYard_any (a a' : Option Addr) (n c n' c' : Nat) (P : List I3) (N : List I2) (hs : Sx 3 w a n c (L3 P)) (hs' : Sx 2 w a' n' c' (L2 N)) : Calls Tryz.prog 78 #[.slice a n c, .slice a' n' c'] w (Gives (.bool (yardBad P N)) w) := by
  have hlen := hs.n3
  have hlen' := hs'.n2
  have hm : n ≤ 9223372036854775807 := by have := hs.cap; unfold maxLen at this; omega
  have hm' : n' ≤ 9223372036854775807 := by have := hs'.cap; unfold maxLen at this; omega
  unfold yardBad
  have HX := Lib.hid (fun W (hW : Below w.heap.size w W) b (hc : W.cell? ⟨b, 0, none⟩ = some (.func (.func 112) #[] #[])) (hbl : b < W.heap.size) => containsFunc_Pile a n c P 114 #[.pointer (some ⟨b, 0, none⟩)] badPile W (hs.below hW) eg_wy2
    (fun W' hW' x _ => wrongYard2_any W' x b (by rw [hW'.cell (p := ⟨b, 0, none⟩) hbl]; exact hc) (Nat.lt_of_lt_of_le hbl hW'.size)))
  have HY := Lib.hid (fun W (hW : Below w.heap.size w W) b (hc : W.cell? ⟨b, 0, none⟩ = some (.func (.func 112) #[] #[])) (hbl : b < W.heap.size) => containsFunc_Need a' n' c' N 116 #[.pointer (some ⟨b, 0, none⟩)] badNeed W (hs'.below hW) eg_wy3
    (fun W' hW' x _ => by rw [← badPile_need]; exact wrongYard3_any W' x b (by rw [hW'.cell (p := ⟨b, 0, none⟩) hbl]; exact hc) (Nat.lt_of_lt_of_le hbl hW'.size)))
  clear hs hs'
  by_cases hl : 20 < n
  · rw [show decide (20 < P.length) = true by simpa [← hlen] using hl, Bool.true_or, Bool.true_or, Bool.true_or]
    clear hlen hlen' HX HY
    go_enter Tryz.func78, Tryz.ntmps78
    go_wp2
    go_ret
    exact ⟨rfl, below1 _ _⟩
  · rw [show decide (20 < P.length) = false by simpa [← hlen] using hl, Bool.false_or]
    by_cases hl' : 20 < n'
    · rw [show decide (20 < N.length) = true by simpa [← hlen'] using hl', Bool.true_or, Bool.true_or]
      clear hlen hlen' HX HY
      go_enter Tryz.func78, Tryz.ntmps78
      go_wp2
      go_ret
      exact ⟨rfl, below1 _ _⟩
    · rw [show decide (20 < N.length) = false by simpa [← hlen'] using hl', Bool.false_or]
      clear hlen hlen'
      cases hP : P.any badPile
      · have HP := Lib.hid hP
        clear hP
        go_enter Tryz.func78, Tryz.ntmps78
        go_wp2_with fail
        refine (HX.out _ (below1 _ _) _ (cell_box _ _ _) (by simp)).mono ?_
        rintro e w1 ⟨rfl, hb1⟩
        have hB := Lib.hid ((below1 w _).trans (hb1.mono (by simp)))
        have HC := Lib.hid ((hb1.cell (p := ⟨w.heap.size, 0, none⟩) (by simp)).trans (cell_box _ _ _))
        have hlt : w.heap.size < w1.heap.size := by have := hb1.size; simp at this; omega
        clear hb1 HX
        rw [HP.out]
        go_wp2_with fail
        refine (HY.out _ hB.out _ HC.out hlt).mono ?_
        rintro e w2 ⟨rfl, hb2⟩
        have hB2 := Lib.hid (hB.out.trans (hb2.mono hB.out.size))
        clear hb2 HY HC hB
        go_wp2
        go_ret
        exact ⟨ret_bool (by rw [show decide ((20 : Int) < (n : Int)) = false from decide_eq_false (by omega), show decide ((20 : Int) < (n' : Int)) = false from decide_eq_false (by omega)]; simp), hB2.out⟩
      · have HP := Lib.hid hP
        clear hP HY
        go_enter Tryz.func78, Tryz.ntmps78
        go_wp2_with fail
        refine (HX.out _ (below1 _ _) _ (cell_box _ _ _) (by simp)).mono ?_
        rintro e w1 ⟨rfl, hb1⟩
        have hB := Lib.hid ((below1 w _).trans (hb1.mono (by simp)))
        clear hb1 HX
        rw [HP.out]
        go_wp2
        go_ret
        exact ⟨by simp, hB.out⟩
def enoughB (P : List I3) (N : List I2) : Bool := decide (sumBy (fun x : I2 => x.2) N ≤ sumBy (fun x : I3 => x.2.1) P)
theorem yard_good {P : List I3} {N : List I2} (h : yardBad P N = false) : P.length ≤ 20 ∧ N.length ≤ 20 ∧ (∀ x ∈ P, (-100000 ≤ x.1 ∧ x.1 ≤ 100000) ∧ (0 ≤ x.2.1 ∧ x.2.1 ≤ 1000000) ∧ (0 ≤ x.2.2 ∧ x.2.2 ≤ 1000000)) ∧ ∀ x ∈ N, (-100000 ≤ x.1 ∧ x.1 ≤ 100000) ∧ (0 ≤ x.2 ∧ x.2 ≤ 1000000) := by
  unfold yardBad at h
  simp only [Bool.or_eq_false_iff, decide_eq_false_iff_not] at h
  obtain ⟨⟨⟨h1, h2⟩, h3⟩, h4⟩ := h
  refine ⟨by omega, by omega, fun x hx => ?_, fun x hx => ?_⟩
  · have := List.any_eq_false.1 h3 x hx
    simp only [badPile, Bool.or_eq_true, Bool.not_eq_true', not_or, Bool.not_eq_false] at this
    exact ⟨inB_iff.1 this.1.1, inB_iff.1 this.1.2, inB_iff.1 this.2⟩
  · have := List.any_eq_false.1 h4 x hx
    simp only [badNeed, Bool.or_eq_true, Bool.not_eq_true', not_or, Bool.not_eq_false] at this
    exact ⟨inB_iff.1 this.1, inB_iff.1 this.2⟩
set_option maxHeartbeats 1000000 in
theorem enough_any (a a' : Option Addr) (n c n' c' : Nat) (P : List I3) (N : List I2) (hs : Sx 3 w a n c (L3 P)) (hs' : Sx 2 w a' n' c' (L2 N)) (hg : yardBad P N = false) : Calls Tryz.prog 79 #[.slice a n c, .slice a' n' c'] w (Gives (.bool (enoughB P N)) w) := by
  obtain ⟨g1, g2, g3, g4⟩ := yard_good hg
  have HX := Lib.hid (fun W (hW : Below w.heap.size w W) => total_Pile a n c P 118 #[] (fun x => x.2.1) W (hs.below hW) eg_e1 (fun W' _ x _ => enough1_any W' x) (Lib.hid (sumBy_bd (B := 1000000) (by decide) (fun x hx => by have := (g3 x hx).2.1; omega) (by omega))))
  have HY := Lib.hid (fun W (hW : Below w.heap.size w W) => total_Need a' n' c' N 120 #[] (fun x => x.2) W (hs'.below hW) eg_e2 (fun W' _ x _ => enough2_any W' x) (Lib.hid (sumBy_bd (B := 1000000) (by decide) (fun x hx => by have := (g4 x hx).2; omega) (by omega))))
  clear hs hs' hg g1 g2 g3 g4
  unfold enoughB
  go_enter Tryz.func79, Tryz.ntmps79
  go_wp2_with fail
  refine (HX.out _ (Below.refl _ _)).mono ?_
  rintro e w1 ⟨rfl, hb1⟩
  have hB := Lib.hid hb1
  clear hb1 HX
  go_wp2_with fail
  refine (HY.out _ hB.out).mono ?_
  rintro e w2 ⟨rfl, hb2⟩
  have hB2 := Lib.hid (hB.out.trans (hb2.mono hB.out.size))
  clear hb2 HY hB
  go_wp2
  go_ret
  exact ⟨rfl, hB2.out⟩
def yardErr (P : List I3) (N : List I2) : Int := if yardBad P N = true then 2 else if enoughB P N = true then 0 else 14
set_option maxHeartbeats 1000000 in
theorem yardError_any (a a' : Option Addr) (n c n' c' : Nat) (P : List I3) (N : List I2) (hs : Sx 3 w a n c (L3 P)) (hs' : Sx 2 w a' n' c' (L2 N)) : Calls Tryz.prog 48 #[.slice a n c, .slice a' n' c'] w (Gives (.int .i64 (yardErr P N)) w) := by
  have HX := Lib.hid (wrongYard_any w a a' n c n' c' P N hs hs')
  have HY := Lib.hid (fun W (hW : Below w.heap.size w W) (hg : yardBad P N = false) => enough_any W a a' n c n' c' P N (hs.below hW) (hs'.below hW) hg)
  clear hs hs'
  unfold yardErr
  cases hy : yardBad P N
  · have hE := HY.out
    have HG := Lib.hid hy
    clear hE
    cases he : enoughB P N
    all_goals
      have HE := Lib.hid he
      clear he hy
      go_enter Tryz.func48, Tryz.ntmps48
      go_wp2_with fail
      refine HX.out.mono ?_
      rintro e w1 ⟨rfl, hb1⟩
      have hB := Lib.hid hb1
      clear hb1 HX
      rw [HG.out]
      go_wp2_with fail
      refine (HY.out _ hB.out HG.out).mono ?_
      rintro e w2 ⟨rfl, hb2⟩
      have hB2 := Lib.hid (hB.out.trans (hb2.mono hB.out.size))
      clear hb2 HY hB
      rw [HE.out]
      go_wp2
      go_ret
      exact ⟨by simp, hB2.out⟩
  · have HG := Lib.hid hy
    clear hy HY
    go_enter Tryz.func48, Tryz.ntmps48
    go_wp2_with fail
    refine HX.out.mono ?_
    rintro e w1 ⟨rfl, hb1⟩
    have hB := Lib.hid hb1
    clear hb1 HX
    rw [HG.out]
    go_wp2
    go_ret
    exact ⟨by simp, hB.out⟩
end

end Go.Proofs.YtchignmnnbepnaaGreat

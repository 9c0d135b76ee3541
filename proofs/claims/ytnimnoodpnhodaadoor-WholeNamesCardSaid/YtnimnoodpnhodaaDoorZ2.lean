/- the integers: two of them -/
import Derived.Test.YtnimnoodpnhodaaDoorZ1
namespace Go.Proofs.YtnimnoodpnhodaaDoor
open Go.RowKit Dig

/-- what lies in the blocks of a method of two integers -/
structure Z2 (w W : World) (s1 : Value) (m1 : Bool) (z1 : Int) (s2 : Value) (m2 : Bool) (z2 : Int) : Prop where
  x1 : Bz W w.heap.size s1 m1
  x2 : Bz W (w.heap.size + 1) s2 m2
  x3 : Bz W (w.heap.size + 2) (.slice none 0 0) false
  d1 : Zd W s1 m1 z1
  d2 : Zd W s2 m2 z2
  be : Below w.heap.size w W
theorem Z2.later {w W W' : World} {s1 s2 : Value} {m1 m2 : Bool} {z1 z2 : Int} (h : Z2 w W s1 m1 z1 s2 m2 z2) (hb : Below W.heap.size W W') : Z2 w W' s1 m1 z1 s2 m2 z2 :=
  ⟨h.x1.below hb, h.x2.below hb, h.x3.below hb, h.d1.mono hb, h.d2.mono hb, h.be.trans (hb.mono h.be.size)⟩
theorem Z2.S {w W : World} {s1 s2 : Value} {m1 m2 : Bool} {z1 z2 : Int} (h : Z2 w W s1 m1 z1 s2 m2 z2) :
    W.cell? ⟨w.heap.size, 0, none⟩ = some s1 ∧ W.cell? ⟨w.heap.size, 1, none⟩ = some (.bool m1) ∧ W.cell? ⟨w.heap.size + 1, 0, none⟩ = some s2 ∧ W.cell? ⟨w.heap.size + 1, 1, none⟩ = some (.bool m2) :=
  ⟨h.x1.c0, h.x1.c1, h.x2.c0, h.x2.c1⟩
theorem Z2.S' {w W : World} {s1 s2 : Value} {m1 m2 : Bool} {z1 z2 : Int} (h : Z2 w W s1 m1 z1 s2 m2 z2) (u u' : Value) :
    ((W.setCell ⟨w.heap.size + 2, 0, none⟩ u).setCell ⟨w.heap.size + 2, 1, none⟩ u').cell? ⟨w.heap.size, 0, none⟩ = some s1 ∧ ((W.setCell ⟨w.heap.size + 2, 0, none⟩ u).setCell ⟨w.heap.size + 2, 1, none⟩ u').cell? ⟨w.heap.size, 1, none⟩ = some (.bool m1) ∧
    ((W.setCell ⟨w.heap.size + 2, 0, none⟩ u).setCell ⟨w.heap.size + 2, 1, none⟩ u').cell? ⟨w.heap.size + 1, 0, none⟩ = some s2 ∧ ((W.setCell ⟨w.heap.size + 2, 0, none⟩ u).setCell ⟨w.heap.size + 2, 1, none⟩ u').cell? ⟨w.heap.size + 1, 1, none⟩ = some (.bool m2) :=
  ⟨((h.x1.other (by omega) _).other (by omega) _).c0, ((h.x1.other (by omega) _).other (by omega) _).c1, ((h.x2.other (by omega) _).other (by omega) _).c0, ((h.x2.other (by omega) _).other (by omega) _).c1⟩
theorem Z2.drew {w W : World} {s1 s2 : Value} {m1 m2 : Bool} {z1 z2 : Int} (h : Z2 w W s1 m1 z1 s2 m2 z2) : Z2 w W.drew s1 m1 z1 s2 m2 z2 := h.later (Below.refl _ _).drew
theorem Z2.start {w : World} {s1 s2 : Value} {m1 m2 : Bool} {z1 z2 : Int} (h1 : Zd w s1 m1 z1) (h2 : Zd w s2 m2 z2) :
    Z2 w (((w.alloc (.cells #[s1, .bool m1] 27)).alloc (.cells #[s2, .bool m2] 27)).alloc (.cells #[.slice none 0 0, .bool false] 27)) s1 m1 z1 s2 m2 z2 := by
  have hb := (((Below.refl w.heap.size w).alloc (Nat.le_refl _) (.cells #[s1, .bool m1] 27)).alloc (by go_size) (.cells #[s2, .bool m2] 27)).alloc (by go_size) (.cells #[.slice none 0 0, .bool false] 27)
  exact ⟨((Bz.new' rfl).alloc _).alloc _, (Bz.new' (by simp)).alloc _, Bz.new' (by simp), h1.mono hb, h2.mono hb, hb⟩

set_option maxHeartbeats 1000000 in
theorem mul_any (a : Option Addr) (n c : Nat) (m : Bool) (z : Int) (a2 : Option Addr) (n2 c2 : Nat) (m2 : Bool) (z2 : Int) (w : World) (h : Zd w (.slice a n c) m z) (h2 : Zd w (.slice a2 n2 c2) m2 z2)
    (hl : (dg 16777216 z.natAbs).length ≤ 10000000) (hl2 : (dg 16777216 z2.natAbs).length ≤ 10000000) :
    Calls Tryd.prog 21 #[.agg #[.slice a n c, .bool m], .agg #[.slice a2 n2 c2, .bool m2]] w (RetZ w (z * z2)) := by
  go_enter Tryd.func21, Tryd.ntmps21
  have hC := Lib.hid (Z2.start h h2)
  have hm1 := Lib.hid h.m
  have hm2 := Lib.hid h2.m
  clear h h2
  have hzz := Lib.hid (show z * z2 = if (m != m2) then -((z.natAbs * z2.natAbs : Nat) : Int) else ((z.natAbs * z2.natAbs : Nat) : Int) from by
    rw [hm1.out, hm2.out, ← Int.natAbs_mul]
    rcases Int.lt_or_le z 0 with h1 | h1 <;> rcases Int.lt_or_le z2 0 with h2 | h2
    · have := Int.mul_pos_of_neg_of_neg h1 h2
      simp only [h1, h2, decide_true, bne_self_eq_false, Bool.false_eq_true, if_false]; omega
    · have := Int.mul_nonpos_of_nonpos_of_nonneg (Int.le_of_lt h1) h2
      simp [h1, Int.not_lt.2 h2]; omega
    · have := Int.mul_nonpos_of_nonneg_of_nonpos h1 (Int.le_of_lt h2)
      simp [h2, Int.not_lt.2 h1]; omega
    · have := Int.mul_nonneg h1 h2
      simp only [Int.not_lt.2 h1, Int.not_lt.2 h2, decide_false, bne_self_eq_false, Bool.false_eq_true, if_false]; omega)
  go_wp2
  go_region_held3 (fun w' => w'.cell? ⟨w.heap.size, 0, none⟩ = some (.slice a n c) ∧ w'.cell? ⟨w.heap.size, 1, none⟩ = some (.bool m) ∧ w'.cell? ⟨w.heap.size + 1, 0, none⟩ = some (.slice a2 n2 c2) ∧ w'.cell? ⟨w.heap.size + 1, 1, none⟩ = some (.bool m2))
    (first | exact hCb.out.S' _ _ | exact hCb.out.S | exact hCa.out.S | exact hC.out.S)
    (first
      | (go_at_call 46; refine (times_any a n c a2 n2 c2 z.natAbs z2.natAbs _ hC.out.drew.d1.d hC.out.drew.d2.d hl hl2).mono ?_; rintro e wa ⟨b1, k1, d1, rfl, hd, hb⟩; have hCa := Lib.hid (hC.out.drew.later hb); have hDa := Lib.hid hd; clear hd hb)
      | (go_at_call 30; refine (made_any (m != m2) b1 k1 d1 (z.natAbs * z2.natAbs) _ hDa.out (z * z2) hzz.out).mono ?_; rintro e wb ⟨b2, k2, d2, mb, rfl, hz, hb⟩; have hCb := Lib.hid (hCa.out.later hb); have hZb := Lib.hid hz; have HBb := Lib.hid hb; clear hz hb; have c0 := hCb.out.x3.c0; have c1 := hCb.out.x3.c1; have f0 := hCb.out.x3.f0; have f1 := hCb.out.x3.f1))
  go_wp2
  have bs := fun u u' => (hCb.out.x3.set u u').c0
  have bs1 := fun u u' => (hCb.out.x3.set u u').c1
  exact bodyPost_ret (v := .agg #[.slice b2 k2 d2, .bool mb]) (by simp [results, Tryd.results21, go_sem, bs, bs1]) rfl (fin_Z hCa.out.be HBb.out hCb.out.x3 (Nat.le_add_right _ 2) hZb.out)

end Go.Proofs.YtnimnoodpnhodaaDoor

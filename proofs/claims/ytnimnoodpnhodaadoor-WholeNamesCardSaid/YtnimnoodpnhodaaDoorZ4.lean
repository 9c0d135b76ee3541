/- the integers: Sign, Sub, Cmp, Int -/
import Derived.Test.YtnimnoodpnhodaaDoorZ3
namespace Go.Proofs.YtnimnoodpnhodaaDoor
open Go.RowKit Dig

set_option maxHeartbeats 1000000 in
theorem sub_any (a : Option Addr) (n c : Nat) (m : Bool) (z : Int) (a2 : Option Addr) (n2 c2 : Nat) (m2 : Bool) (z2 : Int) (w : World) (h : Zd w (.slice a n c) m z) (h2 : Zd w (.slice a2 n2 c2) m2 z2)
    (hl : (dg 16777216 z.natAbs).length ≤ 10000000) (hl2 : (dg 16777216 z2.natAbs).length ≤ 10000000) :
    Calls Tryd.prog 39 #[.agg #[.slice a n c, .bool m], .agg #[.slice a2 n2 c2, .bool m2]] w (RetZ w (z - z2)) := by
  go_enter Tryd.func39, Tryd.ntmps39
  have hC := Lib.hid (Z2.start h h2)
  have hln := Lib.hid (show (dg 16777216 (-z2).natAbs).length ≤ 10000000 by rw [Int.natAbs_neg]; exact hl2)
  clear h h2
  go_wp2
  go_region_held3 (fun w' => w'.cell? ⟨w.heap.size, 0, none⟩ = some (.slice a n c) ∧ w'.cell? ⟨w.heap.size, 1, none⟩ = some (.bool m) ∧ w'.cell? ⟨w.heap.size + 1, 0, none⟩ = some (.slice a2 n2 c2) ∧ w'.cell? ⟨w.heap.size + 1, 1, none⟩ = some (.bool m2))
    (first | exact hCb.out.S' _ _ | exact hCb.out.S | exact hCa.out.S | exact hC.out.S)
    (first
      | (go_at_call 41; refine (neg_any a2 n2 c2 m2 z2 _ hC.out.drew.d2).mono ?_; rintro e wa ⟨b1, k1, d1, ma, rfl, hd, hb⟩; have hCa := Lib.hid (hC.out.drew.later hb); have hDa := Lib.hid hd; clear hd hb)
      | (go_at_call 22; refine (add_any a n c m z b1 k1 d1 ma (-z2) _ hCa.out.d1 hDa.out hl hln.out).mono ?_; rintro e wb ⟨b2, k2, d2, mb, rfl, hz, hb⟩; have hCb := Lib.hid (hCa.out.later hb); have hZb := Lib.hid hz; have HBb := Lib.hid hb; clear hz hb; have c0 := hCb.out.x3.c0; have c1 := hCb.out.x3.c1; have f0 := hCb.out.x3.f0; have f1 := hCb.out.x3.f1))
  go_wp2
  have bs := fun u u' => (hCb.out.x3.set u u').c0
  have bs1 := fun u u' => (hCb.out.x3.set u u').c1
  have hz : Zd wb (.slice b2 k2 d2) mb (z - z2) := by rw [Int.sub_eq_add_neg]; exact hZb.out
  exact bodyPost_ret (v := .agg #[.slice b2 k2 d2, .bool mb]) (by simp [results, Tryd.results39, go_sem, bs, bs1]) rfl (fin_Z hCa.out.be HBb.out hCb.out.x3 (Nat.le_add_right _ 2) hz)

/-- the sign of an integer -/
def sgn (z : Int) : Int := if z = 0 then 0 else if z < 0 then -1 else 1

set_option maxHeartbeats 400000 in
theorem sign_any (a : Option Addr) (n c : Nat) (m : Bool) (z : Int) (w : World) (h : Zd w (.slice a n c) m z) :
    Calls Tryd.prog 6 #[.agg #[.slice a n c, .bool m]] w fun e w' => e = .returned (.int .i64 (sgn z)) ∧ Below w.heap.size w w' := by
  have hn := Sl.len h.d
  have e0 : (n = 0) ↔ z = 0 := by
    rw [hn, List.length_eq_zero_iff, dg_nil_iff (b := 16777216) (by omega)]; omega
  have HM := Lib.hid h.m
  go_enter Tryd.func6, Tryd.ntmps6
  have hW := Lib.hid (((Below.refl w.heap.size w).alloc (Nat.le_refl _) (.cells #[.slice a n c, .bool m] 27)).alloc (by go_size) (.cells #[.slice a n c] 25))
  have hx := (Bz.new' (w := w) (s := .slice a n c) (m := m) (b := w.heap.size) rfl).alloc (.cells #[.slice a n c] 25)
  have c0 := hx.c0
  have c1 := hx.c1
  clear h hx hn
  go_wp2_with fail
  refine (none_any _ _ _ _).mono ?_
  rintro e w' ⟨rfl, rfl⟩
  by_cases hz : z = 0
  · have hn0 : ((n : Int) == 0) = true := by simpa using e0.2 hz
    rw [hn0]
    go_wp2
    go_ret
    exact ⟨by simp [sgn, hz], hW.out⟩
  · have hn0 : ((n : Int) == 0) = false := by simpa using fun e => hz (e0.1 e)
    rw [hn0]
    by_cases hlt : z < 0
    · have e1 : m = true := by rw [HM.out]; simpa using hlt
      subst e1
      go_wp2
      go_ret
      exact ⟨by simp [sgn, hz, hlt], hW.out⟩
    · have e1 : m = false := by rw [HM.out]; simpa using hlt
      subst e1
      go_wp2
      go_ret
      exact ⟨by simp [sgn, hz, hlt], hW.out⟩

set_option maxHeartbeats 400000 in
theorem int_any (k : Int) (hk : -9223372036854775808 ≤ k ∧ k < 9223372036854775808) (w : World) : Calls Tryd.prog 11 #[.int .i64 k] w (RetZ w k) := by
  go_enter Tryd.func11, Tryd.ntmps11
  have hX := Lib.hid (Bz.new' (w := w) (s := .slice none 0 0) (m := false) (b := w.heap.size) rfl)
  have hW := Lib.hid ((Below.refl w.heap.size w).alloc (Nat.le_refl _) (.cells #[.slice none 0 0, .bool false] 27))
  by_cases hlt : k < 0
  · have e1 : IntKind.u64.wrap k = ((18446744073709551616 - k.natAbs : Nat) : Int) := by rw [IntKind.wrap_u64]; omega
    have e2 : IntKind.u64.wrap (-((18446744073709551616 - k.natAbs : Nat) : Int)) = ((k.natAbs : Nat) : Int) := by rw [IntKind.wrap_u64]; omega
    go_wp2_with fail
    refine (word_any k.natAbs _ (by omega)).mono ?_
    rintro e wa ⟨b1, k1, d1, rfl, hd, hb⟩
    have hXa := Lib.hid (hX.out.below hb); have hWa := Lib.hid (hW.out.trans (hb.mono hW.out.size)); have hDa := Lib.hid hd
    clear hd hb
    go_wp2_with fail
    refine (made_any true b1 k1 d1 k.natAbs _ hDa.out k (by simp; omega)).mono ?_
    rintro e wb ⟨b2, k2, d2, mb, rfl, hz, hb⟩
    have hXb := Lib.hid (hXa.out.below hb); have hZb := Lib.hid hz; have HBb := Lib.hid hb
    clear hz hb
    have c0 := hXb.out.c0; have c1 := hXb.out.c1; have f0 := hXb.out.f0; have f1 := hXb.out.f1
    go_wp2
    have bs := fun u u' => (hXb.out.set u u').c0
    have bs1 := fun u u' => (hXb.out.set u u').c1
    exact bodyPost_ret (v := .agg #[.slice b2 k2 d2, .bool mb]) (by simp [results, Tryd.results11, go_sem, bs, bs1]) rfl (fin_Z hWa.out HBb.out hXb.out (Nat.le_refl _) hZb.out)
  · have e1 : IntKind.u64.wrap k = ((k.natAbs : Nat) : Int) := by rw [IntKind.wrap_u64]; omega
    go_wp2_with fail
    refine (word_any k.natAbs _ (by omega)).mono ?_
    rintro e wa ⟨b1, k1, d1, rfl, hd, hb⟩
    have hXa := Lib.hid (hX.out.below hb); have hWa := Lib.hid (hW.out.trans (hb.mono hW.out.size)); have hDa := Lib.hid hd
    clear hd hb
    go_wp2_with fail
    refine (made_any false b1 k1 d1 k.natAbs _ hDa.out k (by simp; omega)).mono ?_
    rintro e wb ⟨b2, k2, d2, mb, rfl, hz, hb⟩
    have hXb := Lib.hid (hXa.out.below hb); have hZb := Lib.hid hz; have HBb := Lib.hid hb
    clear hz hb
    have c0 := hXb.out.c0; have c1 := hXb.out.c1; have f0 := hXb.out.f0; have f1 := hXb.out.f1
    go_wp2
    have bs := fun u u' => (hXb.out.set u u').c0
    have bs1 := fun u u' => (hXb.out.set u u').c1
    exact bodyPost_ret (v := .agg #[.slice b2 k2 d2, .bool mb]) (by simp [results, Tryd.results11, go_sem, bs, bs1]) rfl (fin_Z hWa.out HBb.out hXb.out (Nat.le_refl _) hZb.out)

set_option maxHeartbeats 400000 in
theorem cmp_any (a : Option Addr) (n c : Nat) (m : Bool) (z : Int) (a2 : Option Addr) (n2 c2 : Nat) (m2 : Bool) (z2 : Int) (w : World) (h : Zd w (.slice a n c) m z) (h2 : Zd w (.slice a2 n2 c2) m2 z2)
    (hl : (dg 16777216 z.natAbs).length ≤ 10000000) (hl2 : (dg 16777216 z2.natAbs).length ≤ 10000000) :
    Calls Tryd.prog 23 #[.agg #[.slice a n c, .bool m], .agg #[.slice a2 n2 c2, .bool m2]] w fun e w' => e = .returned (.int .i64 (sgn (z - z2))) ∧ Below w.heap.size w w' := by
  go_enter Tryd.func23, Tryd.ntmps23
  have hB := Lib.hid (((Below.refl w.heap.size w).alloc (Nat.le_refl _) (.cells #[.slice a n c, .bool m] 27)).alloc (by go_size) (.cells #[.slice a2 n2 c2, .bool m2] 27))
  have hz1 := Lib.hid (h.mono hB.out)
  have hz2 := Lib.hid (h2.mono hB.out)
  clear h h2
  go_wp2_with fail
  refine (sub_any _ _ _ _ z _ _ _ _ z2 _ hz1.out hz2.out hl hl2).mono ?_
  rintro e wa ⟨b1, k1, d1, m3, rfl, hd, hb⟩
  have hBa := Lib.hid (hB.out.trans (hb.mono hB.out.size)); have hDa := Lib.hid hd
  clear hd hb
  go_wp2_with fail
  refine (sign_any _ _ _ _ _ _ hDa.out).mono ?_
  rintro e wb ⟨rfl, hb⟩
  have hBb := Lib.hid (hBa.out.trans (hb.mono hBa.out.size))
  clear hb
  go_wp2
  go_ret
  exact ⟨rfl, hBb.out⟩

end Go.Proofs.YtnimnoodpnhodaaDoor

/- the integers: Add -/
import Derived.Test.YtnimnoodpnhodaaDoorZ2
namespace Go.Proofs.YtnimnoodpnhodaaDoor
open Go.RowKit Dig

theorem bool_f : ∀ {a b : Bool}, ¬ a = b → a = true → b = false
  | true, false, _, _ => rfl
  | true, true, h, _ => absurd rfl h
theorem bool_t : ∀ {a b : Bool}, ¬ a = b → a = false → b = true
  | false, true, _, _ => rfl
  | false, false, h, _ => absurd rfl h

set_option maxHeartbeats 2000000 in
theorem add_any (a : Option Addr) (n c : Nat) (m : Bool) (z : Int) (a2 : Option Addr) (n2 c2 : Nat) (m2 : Bool) (z2 : Int) (w : World) (h : Zd w (.slice a n c) m z) (h2 : Zd w (.slice a2 n2 c2) m2 z2)
    (hl : (dg 16777216 z.natAbs).length ≤ 10000000) (hl2 : (dg 16777216 z2.natAbs).length ≤ 10000000) :
    Calls Tryd.prog 22 #[.agg #[.slice a n c, .bool m], .agg #[.slice a2 n2 c2, .bool m2]] w (RetZ w (z + z2)) := by
  go_enter Tryd.func22, Tryd.ntmps22
  have hC := Lib.hid (Z2.start h h2)
  have hm1 := h.m
  have hm2 := h2.m
  clear h h2
  by_cases hmm : m = m2
  · subst hmm
    have hzz := Lib.hid (show z + z2 = if m then -((((z.natAbs : Nat) : Int) + 1 * (z2.natAbs : Nat)).toNat : Int) else ((((z.natAbs : Nat) : Int) + 1 * (z2.natAbs : Nat)).toNat : Int) from by
      by_cases h : z < 0
      · have e1 : m = true := by rw [hm1]; simpa using h
        have e2 : z2 < 0 := by rw [e1] at hm2; simpa using hm2.symm
        subst e1; simp only [if_true]; omega
      · have e1 : m = false := by rw [hm1]; simpa using h
        have e2 : ¬ z2 < 0 := by rw [e1] at hm2; simpa using hm2.symm
        subst e1; simp only [Bool.false_eq_true, if_false]; omega)
    clear hm1 hm2
    go_wp2_with fail
    go_region_held3 (fun w' => w'.cell? ⟨w.heap.size, 0, none⟩ = some (.slice a n c) ∧ w'.cell? ⟨w.heap.size, 1, none⟩ = some (.bool m) ∧ w'.cell? ⟨w.heap.size + 1, 0, none⟩ = some (.slice a2 n2 c2) ∧ w'.cell? ⟨w.heap.size + 1, 1, none⟩ = some (.bool m))
      (first | exact hCb.out.S' _ _ | exact hCb.out.S | exact hCa.out.S | exact hC.out.S)
      (first
        | (go_at_call 47; refine (plus_any a n c a2 n2 c2 1 z.natAbs z2.natAbs _ hC.out.drew.d1.d hC.out.drew.d2.d (.inl rfl) (by omega) hl hl2).mono ?_; rintro e wa ⟨b1, k1, d1, rfl, hd, hb⟩; have hCa := Lib.hid (hC.out.drew.later hb); have hDa := Lib.hid hd; clear hd hb)
        | (go_at_call 30; refine (made_any m b1 k1 d1 _ _ hDa.out (z + z2) hzz.out).mono ?_; rintro e wb ⟨b2, k2, d2, mb, rfl, hz, hb⟩; have hCb := Lib.hid (hCa.out.later hb); have hZb := Lib.hid hz; have HBb := Lib.hid hb; clear hz hb; have c0 := hCb.out.x3.c0; have c1 := hCb.out.x3.c1; have f0 := hCb.out.x3.f0; have f1 := hCb.out.x3.f1))
    go_wp2
    have bs := fun u u' => (hCb.out.x3.set u u').c0
    have bs1 := fun u u' => (hCb.out.x3.set u u').c1
    exact bodyPost_ret (v := .agg #[.slice b2 k2 d2, .bool mb]) (by simp [results, Tryd.results22, go_sem, bs, bs1]) rfl (fin_Z hCa.out.be HBb.out hCb.out.x3 (Nat.le_add_right _ 2) hZb.out)
  · have hmb : (m == m2) = false := by simpa using hmm
    have H1 := Lib.hid hm1
    have H2 := Lib.hid hm2
    have HM := Lib.hid hmm
    clear hm1 hm2 hmm
    go_wp2_with fail
    refine (size_any _ _ _ _ _ _ z.natAbs z2.natAbs _ hC.out.d1.d hC.out.d2.d hl hl2).mono ?_
    rintro e wz ⟨rfl, hb⟩
    have hC1 := Lib.hid (hC.out.later hb)
    clear hb hC
    by_cases hlt : z.natAbs < z2.natAbs
    · have hc : cmpN z.natAbs z2.natAbs = -1 := by unfold cmpN; rw [if_pos hlt]
      have hzz := Lib.hid (show z + z2 = if m2 then -((((z2.natAbs : Nat) : Int) + (-1) * (z.natAbs : Nat)).toNat : Int) else ((((z2.natAbs : Nat) : Int) + (-1) * (z.natAbs : Nat)).toNat : Int) from by
        have hm1 := H1.out
        have hm2 := H2.out
        have hmm := HM.out
        by_cases h : z < 0
        · have e1 : m = true := by rw [hm1]; simpa using h
          have e2 : m2 = false := bool_f hmm e1
          rw [e2] at hm2; have e3 : ¬ z2 < 0 := by simpa using hm2.symm
          subst e2; simp only [Bool.false_eq_true, if_false]; omega
        · have e1 : m = false := by rw [hm1]; simpa using h
          have e2 : m2 = true := bool_t hmm e1
          rw [e2] at hm2; have e3 : z2 < 0 := by simpa using hm2.symm
          subst e2; simp only [if_true]; omega)
      rw [hc]
      go_wp2_with fail
      go_region_held3 (fun w' => w'.cell? ⟨w.heap.size, 0, none⟩ = some (.slice a n c) ∧ w'.cell? ⟨w.heap.size, 1, none⟩ = some (.bool m) ∧ w'.cell? ⟨w.heap.size + 1, 0, none⟩ = some (.slice a2 n2 c2) ∧ w'.cell? ⟨w.heap.size + 1, 1, none⟩ = some (.bool m2))
        (first | exact hCb.out.S' _ _ | exact hCb.out.S | exact hCa.out.S | exact hC1.out.S)
        (first
          | (go_at_call 47; refine (plus_any a2 n2 c2 a n c (-1) z2.natAbs z.natAbs _ hC1.out.drew.d2.d hC1.out.drew.d1.d (.inr rfl) (by omega) hl2 hl).mono ?_; rintro e wa ⟨b1, k1, d1, rfl, hd, hb⟩; have hCa := Lib.hid (hC1.out.drew.later hb); have hDa := Lib.hid hd; clear hd hb)
          | (go_at_call 30; refine (made_any m2 b1 k1 d1 _ _ hDa.out (z + z2) hzz.out).mono ?_; rintro e wb ⟨b2, k2, d2, mb, rfl, hz, hb⟩; have hCb := Lib.hid (hCa.out.later hb); have hZb := Lib.hid hz; have HBb := Lib.hid hb; clear hz hb; have c0 := hCb.out.x3.c0; have c1 := hCb.out.x3.c1; have f0 := hCb.out.x3.f0; have f1 := hCb.out.x3.f1))
      go_wp2
      have bs := fun u u' => (hCb.out.x3.set u u').c0
      have bs1 := fun u u' => (hCb.out.x3.set u u').c1
      exact bodyPost_ret (v := .agg #[.slice b2 k2 d2, .bool mb]) (by simp [results, Tryd.results22, go_sem, bs, bs1]) rfl (fin_Z hCa.out.be HBb.out hCb.out.x3 (Nat.le_add_right _ 2) hZb.out)
    · have hc : ¬ cmpN z.natAbs z2.natAbs < 0 := by unfold cmpN; rw [if_neg hlt]; split <;> omega
      have hzz := Lib.hid (show z + z2 = if m then -((((z.natAbs : Nat) : Int) + (-1) * (z2.natAbs : Nat)).toNat : Int) else ((((z.natAbs : Nat) : Int) + (-1) * (z2.natAbs : Nat)).toNat : Int) from by
        have hm1 := H1.out
        have hm2 := H2.out
        have hmm := HM.out
        by_cases h : z < 0
        · have e1 : m = true := by rw [hm1]; simpa using h
          have e2 : m2 = false := bool_f hmm e1
          rw [e2] at hm2; have e3 : ¬ z2 < 0 := by simpa using hm2.symm
          subst e1; simp only [if_true]; omega
        · have e1 : m = false := by rw [hm1]; simpa using h
          have e2 : m2 = true := bool_t hmm e1
          rw [e2] at hm2; have e3 : z2 < 0 := by simpa using hm2.symm
          subst e1; simp only [Bool.false_eq_true, if_false]; omega)
      go_wp2_with fail
      go_region_held3 (fun w' => w'.cell? ⟨w.heap.size, 0, none⟩ = some (.slice a n c) ∧ w'.cell? ⟨w.heap.size, 1, none⟩ = some (.bool m) ∧ w'.cell? ⟨w.heap.size + 1, 0, none⟩ = some (.slice a2 n2 c2) ∧ w'.cell? ⟨w.heap.size + 1, 1, none⟩ = some (.bool m2))
        (first | exact hCb.out.S' _ _ | exact hCb.out.S | exact hCa.out.S | exact hC1.out.S)
        (first
          | (go_at_call 47; refine (plus_any a n c a2 n2 c2 (-1) z.natAbs z2.natAbs _ hC1.out.drew.d1.d hC1.out.drew.d2.d (.inr rfl) (by omega) hl hl2).mono ?_; rintro e wa ⟨b1, k1, d1, rfl, hd, hb⟩; have hCa := Lib.hid (hC1.out.drew.later hb); have hDa := Lib.hid hd; clear hd hb)
          | (go_at_call 30; refine (made_any m b1 k1 d1 _ _ hDa.out (z + z2) hzz.out).mono ?_; rintro e wb ⟨b2, k2, d2, mb, rfl, hz, hb⟩; have hCb := Lib.hid (hCa.out.later hb); have hZb := Lib.hid hz; have HBb := Lib.hid hb; clear hz hb; have c0 := hCb.out.x3.c0; have c1 := hCb.out.x3.c1; have f0 := hCb.out.x3.f0; have f1 := hCb.out.x3.f1))
      go_wp2
      have bs := fun u u' => (hCb.out.x3.set u u').c0
      have bs1 := fun u u' => (hCb.out.x3.set u u').c1
      exact bodyPost_ret (v := .agg #[.slice b2 k2 d2, .bool mb]) (by simp [results, Tryd.results22, go_sem, bs, bs1]) rfl (fin_Z hCa.out.be HBb.out hCb.out.x3 (Nat.le_add_right _ 2) hZb.out)

end Go.Proofs.YtnimnoodpnhodaaDoor

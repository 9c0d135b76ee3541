/- ratios: Text -/
import Derived.Test.YtnimnoodpnhodaaDoorR5
namespace Go.Proofs.YtnimnoodpnhodaaDoor
open Go.RowKit Dig

/-- the text of a ratio -/
def rtext (q : Rat) : List UInt8 := if q.den = 1 then Dec.ztext q.num else Dec.ztext q.num ++ [47] ++ Dec.ztext q.den

set_option maxRecDepth 100000 in
set_option maxHeartbeats 1000000 in
theorem rtext_one (a1 : Option Addr) (n1 c1 : Nat) (m1 : Bool) (d1 : Option Addr) (e1 f1 : Nat) (q1 : Rat) (w : World) (h1 : Rd w (.slice a1 n1 c1) m1 (.slice d1 e1 f1) q1) (k1 : Nat) (b1 : Bq k1 q1) (hk1 : k1 ≤ 40000) (hd : q1.den = 1) :
    Calls Tryd.prog 17 #[.agg #[.slice a1 n1 c1, .bool m1, .slice d1 e1 f1]] w (fun e w' => e = .returned (.string ⟨(rtext q1).toArray⟩) ∧ Below w.heap.size w w') := by
  have hn := Sl.len h1.d
  have e0 : (e1 = 0) ↔ q1.den = 1 := by
    rw [hn, List.length_eq_zero_iff, dg_nil_iff (b := 16777216) (by omega)]; have := q1.den_nz; omega
  have hl1 := ztext_len b1.num (by omega)
  have hl2 := ztext_len b1.den (by omega)
  have hn0 : ((e1 : Int) == 0) = true := by simpa using e0.2 hd
  have HN := Lib.hid hn0
  have HT := Lib.hid (show rtext q1 = Dec.ztext q1.num from if_pos hd)
  clear hn0 hd e0 hn
  have B1 := Lib.hid b1
  clear b1
  have hC := Lib.hid (((St.enter w).pr h1).al (w.heap.size) #[.slice a1 n1 c1, .bool m1, .slice d1 e1 f1] 32 rfl rfl)
  clear h1
  go_enter Tryd.func17, Tryd.ntmps17
  have hC_c02 := hC.out.cell 0 2 rfl rfl
  have hC_f02 := hC.out.free 0 2 rfl
  go_wp2_with fail
  refine (none_any _ _ _ _).mono ?_
  rintro e w3 ⟨rfl, hw⟩
  have hC3 := Lib.hid (hC.out.call (W' := w3) (by rw [hw]; exact (Below.refl _ _).alloc (Nat.le_refl _) _))
  clear hC hw
  rw [HN.out]
  have hC3_c00 := hC3.out.cell 0 0 rfl rfl
  have hC3_f00 := hC3.out.free 0 0 rfl
  have hC3_c01 := hC3.out.cell 0 1 rfl rfl
  have hC3_f01 := hC3.out.free 0 1 rfl
  go_wp2_with fail
  refine (ztext_any _ _ _ _ _ _ (hC3.out.r 0 rfl).z _ B1.out.num (by omega)).mono ?_
  rintro e w4 ⟨rfl, hb⟩
  have hC4 := Lib.hid ((hC3.out.call hb))
  clear hb
  clear hC3
  go_wp2
  go_ret
  exact ⟨ret_str (by rw [HT.out]), hC4.out.be⟩

set_option maxRecDepth 100000 in
set_option maxHeartbeats 1000000 in
theorem rtext_more (a1 : Option Addr) (n1 c1 : Nat) (m1 : Bool) (d1 : Option Addr) (e1 f1 : Nat) (q1 : Rat) (w : World) (h1 : Rd w (.slice a1 n1 c1) m1 (.slice d1 e1 f1) q1) (k1 : Nat) (b1 : Bq k1 q1) (hk1 : k1 ≤ 40000) (hd : q1.den ≠ 1) :
    Calls Tryd.prog 17 #[.agg #[.slice a1 n1 c1, .bool m1, .slice d1 e1 f1]] w (fun e w' => e = .returned (.string ⟨(rtext q1).toArray⟩) ∧ Below w.heap.size w w') := by
  have hn := Sl.len h1.d
  have e0 : (e1 = 0) ↔ q1.den = 1 := by
    rw [hn, List.length_eq_zero_iff, dg_nil_iff (b := 16777216) (by omega)]; have := q1.den_nz; omega
  have hl1 := ztext_len b1.num (by omega)
  have hl2 := ztext_len b1.den (by omega)
  have hn0 : ((e1 : Int) == 0) = false := by simpa using fun e => hd (e0.1 e)
  have HN := Lib.hid hn0
  have HT := Lib.hid (show rtext q1 = Dec.ztext q1.num ++ [47] ++ Dec.ztext q1.den from if_neg hd)
  clear hn0 hd e0 hn
  obtain ⟨T1, hT1⟩ : ∃ T : ByteArray, T = ⟨(Dec.ztext q1.num).toArray⟩ := ⟨_, rfl⟩
  obtain ⟨T2, hT2⟩ : ∃ T : ByteArray, T = ⟨(Dec.ztext q1.den).toArray⟩ := ⟨_, rfl⟩
  have hs1 : T1.size ≤ 1000002 := by rw [hT1]; show (Dec.ztext q1.num).toArray.size ≤ _; simpa using hl1
  have hs2 : T2.size ≤ 1000002 := by rw [hT2]; show (Dec.ztext q1.den).toArray.size ≤ _; simpa using hl2
  have hb1 : ¬ 9223372036854775807 ≤ T1.size := by omega
  have hb2 : ¬ 9223372036854775807 < T1.size + 1 := by omega
  have hb3 : ¬ 9223372036854775807 < T1.size + 1 + T2.size := by omega
  have HT1 := Lib.hid hT1
  have HT2 := Lib.hid hT2
  clear hT1 hT2 hl1 hl2
  have B1 := Lib.hid b1
  clear b1
  have hC := Lib.hid (((St.enter w).pr h1).al (w.heap.size) #[.slice a1 n1 c1, .bool m1, .slice d1 e1 f1] 32 rfl rfl)
  clear h1
  go_enter Tryd.func17, Tryd.ntmps17
  have hC_c02 := hC.out.cell 0 2 rfl rfl
  have hC_f02 := hC.out.free 0 2 rfl
  go_wp2_with fail
  refine (none_any _ _ _ _).mono ?_
  rintro e w3 ⟨rfl, hw⟩
  have hC3 := Lib.hid (hC.out.call (W' := w3) (by rw [hw]; exact (Below.refl _ _).alloc (Nat.le_refl _) _))
  clear hC hw
  rw [HN.out]
  go_wp2
  go_region_held3 (fun w' => w'.cell? ⟨w.heap.size, 0, none⟩ = some (.slice a1 n1 c1) ∧ w'.cell? ⟨w.heap.size, 1, none⟩ = some (.bool m1) ∧ w'.cell? ⟨w.heap.size, 2, none⟩ = some (.slice d1 e1 f1) ∧ True)
    (first
      | (with_reducible refine And.intro (?_ : World.cell? w6 _ = _) ?_; exact hC6.out.cell 0 0 rfl rfl; exact ⟨hC6.out.cell 0 1 rfl rfl, hC6.out.cell 0 2 rfl rfl, trivial⟩)
      | (with_reducible refine And.intro (?_ : World.cell? w5 _ = _) ?_; exact hC5.out.cell 0 0 rfl rfl; exact ⟨hC5.out.cell 0 1 rfl rfl, hC5.out.cell 0 2 rfl rfl, trivial⟩)
      | (with_reducible refine And.intro (?_ : World.cell? w4 _ = _) ?_; exact hC4.out.cell 0 0 rfl rfl; exact ⟨hC4.out.cell 0 1 rfl rfl, hC4.out.cell 0 2 rfl rfl, trivial⟩)
      | (with_reducible refine And.intro (?_ : World.cell? _ _ = _) ?_; exact hC3.out.drew.cell 0 0 rfl rfl; exact ⟨hC3.out.drew.cell 0 1 rfl rfl, hC3.out.drew.cell 0 2 rfl rfl, trivial⟩))
    (first
      | (have _t := hC5; go_at_call 15; refine (ztext_any _ _ _ _ _ _ (hC5.out.z 1 rfl) _ B1.out.den (by omega)).mono ?_; rintro e w6 ⟨rfl, hb⟩; have hC6 := Lib.hid ((hC5.out.call hb)); clear hb; rw [← HT2.out]; clear _t hC5)
      | (have _t := hC4; go_at_call 36; refine (bottom_b (hC4.out.r 0 rfl) B1.out (by omega)).mono ?_; rintro e w5 ⟨a5, n5, c5, m5, rfl, hz, hb⟩; have hC5 := Lib.hid ((hC4.out.call hb).pz hz); clear hb hz; clear _t hC4)
      | (have _t := hC3; go_at_call 15; refine (ztext_any _ _ _ _ _ _ (hC3.out.drew.r 0 rfl).z _ B1.out.num (by omega)).mono ?_; rintro e w4 ⟨rfl, hb⟩; have hC4 := Lib.hid ((hC3.out.drew.call hb)); clear hb; rw [← HT1.out]; clear _t hC3)
      | fail)
  go_wp2
  go_ret
  exact ⟨by rw [HT.out, ← ba_append, ← ba_append, ← HT1.out, ← HT2.out]; rfl, hC6.out.be⟩

end Go.Proofs.YtnimnoodpnhodaaDoor

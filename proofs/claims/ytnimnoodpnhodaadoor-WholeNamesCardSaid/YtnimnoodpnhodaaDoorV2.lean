/- pairs: both, Add, Sub, Scale, Same, Text -/
import Derived.Test.YtnimnoodpnhodaaDoorV
namespace Go.Proofs.YtnimnoodpnhodaaDoor
open Go.RowKit Dig

/-- the text of a pair -/
def vtext (v : Rat × Rat) : List UInt8 := [40] ++ rtext v.1 ++ [44, 32] ++ rtext v.2 ++ [41]
theorem rtext_len {k : Nat} {q : Rat} (h : Bq k q) (hk : k ≤ 40000) : (rtext q).length ≤ 3000000 := by
  have h1 := ztext_len h.num (by omega)
  have h2 := ztext_len h.den (by omega)
  unfold rtext
  split
  · omega
  · rw [List.length_append, List.length_append]; simp only [List.length_singleton]; omega

set_option maxRecDepth 100000 in
set_option maxHeartbeats 1000000 in
theorem vtext_any (a1 : Option Addr) (n1 c1 : Nat) (m1 : Bool) (d1 : Option Addr) (e1 f1 : Nat) (u1 : Option Addr) (x1 y1 : Nat) (p1 : Bool) (t1 : Option Addr) (o1 l1 : Nat) (v1 : Rat × Rat) (w : World) (h1 : Vd w (.slice a1 n1 c1) m1 (.slice d1 e1 f1) (.slice u1 x1 y1) p1 (.slice t1 o1 l1) v1) (k1 : Nat) (b1 : Bv k1 v1) (hk1 : k1 ≤ 10000) :
    Calls Tryd.prog 27 #[.agg #[.slice a1 n1 c1, .bool m1, .slice d1 e1 f1, .slice u1 x1 y1, .bool p1, .slice t1 o1 l1]] w (fun e w' => e = .returned (.string ⟨(vtext v1).toArray⟩) ∧ Below w.heap.size w w') := by
  have hl1 := rtext_len b1.1 (by omega)
  have hl2 := rtext_len b1.2 (by omega)
  obtain ⟨T1, hT1⟩ : ∃ T : ByteArray, T = ⟨(rtext v1.1).toArray⟩ := ⟨_, rfl⟩
  obtain ⟨T2, hT2⟩ : ∃ T : ByteArray, T = ⟨(rtext v1.2).toArray⟩ := ⟨_, rfl⟩
  have hs1 : T1.size ≤ 3000000 := by rw [hT1]; show (rtext v1.1).toArray.size ≤ _; simpa using hl1
  have hs2 : T2.size ≤ 3000000 := by rw [hT2]; show (rtext v1.2).toArray.size ≤ _; simpa using hl2
  have hb1 : ¬ 9223372036854775807 < 1 + T1.size := by omega
  have hb2 : ¬ 9223372036854775807 < 1 + T1.size + 2 := by omega
  have hb3 : ¬ 9223372036854775807 < 1 + T1.size + 2 + T2.size := by omega
  have hb4 : ¬ 9223372036854775807 < 1 + T1.size + 2 + T2.size + 1 := by omega
  have HT1 := Lib.hid hT1
  have HT2 := Lib.hid hT2
  clear hT1 hT2 hl1 hl2
  have B1 := Lib.hid b1
  clear b1
  have hC := Lib.hid (((St.enter w).pv h1).al (w.heap.size) #[.slice a1 n1 c1, .bool m1, .slice d1 e1 f1, .slice u1 x1 y1, .bool p1, .slice t1 o1 l1] 53 rfl rfl)
  clear h1
  go_enter Tryd.func27, Tryd.ntmps27
  go_wp2
  go_region_held3 (fun w' => w'.cell? ⟨w.heap.size, 0, none⟩ = some (.slice a1 n1 c1) ∧ w'.cell? ⟨w.heap.size, 1, none⟩ = some (.bool m1) ∧ w'.cell? ⟨w.heap.size, 2, none⟩ = some (.slice d1 e1 f1) ∧ w'.cell? ⟨w.heap.size, 3, none⟩ = some (.slice u1 x1 y1) ∧ w'.cell? ⟨w.heap.size, 4, none⟩ = some (.bool p1) ∧ w'.cell? ⟨w.heap.size, 5, none⟩ = some (.slice t1 o1 l1) ∧ True)
    (first
      | (with_reducible refine And.intro (?_ : World.cell? w5 _ = _) ?_; exact hC5.out.cell 0 0 rfl rfl; exact ⟨hC5.out.cell 0 1 rfl rfl, hC5.out.cell 0 2 rfl rfl, hC5.out.cell 0 3 rfl rfl, hC5.out.cell 0 4 rfl rfl, hC5.out.cell 0 5 rfl rfl, trivial⟩)
      | (with_reducible refine And.intro (?_ : World.cell? w4 _ = _) ?_; exact hC4.out.cell 0 0 rfl rfl; exact ⟨hC4.out.cell 0 1 rfl rfl, hC4.out.cell 0 2 rfl rfl, hC4.out.cell 0 3 rfl rfl, hC4.out.cell 0 4 rfl rfl, hC4.out.cell 0 5 rfl rfl, trivial⟩)
      | (with_reducible refine And.intro (?_ : World.cell? _ _ = _) ?_; exact hC.out.drew.cell 0 0 rfl rfl; exact ⟨hC.out.drew.cell 0 1 rfl rfl, hC.out.drew.cell 0 2 rfl rfl, hC.out.drew.cell 0 3 rfl rfl, hC.out.drew.cell 0 4 rfl rfl, hC.out.drew.cell 0 5 rfl rfl, trivial⟩))
    (first
      | (have _t := hC4; go_at_call 17; refine (rtext_b (hC4.out.v 0 rfl).y B1.out.2 (by omega)).mono ?_; rintro e w5 ⟨rfl, hb⟩; have hC5 := Lib.hid ((hC4.out.call hb)); clear hb; rw [← HT2.out]; clear _t hC4)
      | (have _t := hC; go_at_call 17; refine (rtext_b (hC.out.drew.v 0 rfl).x B1.out.1 (by omega)).mono ?_; rintro e w4 ⟨rfl, hb⟩; have hC4 := Lib.hid ((hC.out.drew.call hb)); clear hb; rw [← HT1.out]; clear _t hC)
      | fail)
  go_wp2
  go_ret
  exact ⟨by unfold vtext; rw [← ba_append, ← ba_append, ← ba_append, ← ba_append, ← HT1.out, ← HT2.out]; rfl, hC5.out.be⟩

end Go.Proofs.YtnimnoodpnhodaaDoor

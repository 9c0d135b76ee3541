/- the reference's ratios: Text -/
import Derived.Test.YtmfplelodnoicaaGreatDoorWS
import Derived.Test.YtmfplelodnoicaaGreatDoorWR
import Derived.Test.YtmfplelodnoicaaGreatDoorWJ
namespace Go.Proofs.YtmfplelodnoicaaGreatDoor
open Go.RowKit Dig

theorem ztextN_is {s1 : Int} {a1 : Option Addr} {n1 c1 : Nat} {z1 : Int} {w : World} (h1 : Nz w s1 (.slice a1 n1 c1) z1) {k1 : Nat} (b1 : Bd k1 z1) (hk1 : k1 ≤ 400000) {B : ByteArray} (hB : Dec.ztext z1 = B.data.toList) :
    Calls Tryz.prog 100 #[.agg #[.int .i64 s1, .slice a1 n1 c1]] w (fun e w' => e = .returned (.string B) ∧ Below w.heap.size w w') := by
  have := ztextN_any h1 b1 hk1
  rw [hB] at this
  exact this
theorem ztext_ne1 {z : Int} (h : z ≠ 1) : ((⟨(Dec.ztext z).toArray⟩ : ByteArray).toList == [49]) = false := by
  rw [Go.ByteArray.toList_mk]
  have h3 : [49] = Dec.ztext 1 := by kernel_rfl
  exact beq_eq_false_iff_ne.2 (fun e => h (Dec.ztext_inj (e.trans h3)))

set_option maxRecDepth 100000 in
set_option maxHeartbeats 1000000 in
theorem rtextN_one (s1 : Int) (a1 : Option Addr) (n1 c1 : Nat) (t1 : Int) (d1 : Option Addr) (e1 f1 : Nat) (q1 : Rat) (w : World) (h1 : Nq w s1 (.slice a1 n1 c1) t1 (.slice d1 e1 f1) q1) (k1 : Nat) (b1 : Bq k1 q1) (hk1 : k1 ≤ 40000) (hd : q1.den = 1) :
    Calls Tryz.prog 115 #[.agg #[.int .i64 s1, .slice a1 n1 c1, .int .i64 t1, .slice d1 e1 f1]] w (fun e w' => e = .returned (.string ⟨(rtext q1).toArray⟩) ∧ Below w.heap.size w w') := by
  have HD := Lib.hid hd
  have HT := Lib.hid (show rtext q1 = Dec.ztext q1.num from if_pos hd)
  clear hd
  have B1 := Lib.hid b1
  clear b1
  have hC := Lib.hid (((St.enter w).pq h1).al (w.heap.size) #[.int .i64 s1, .slice a1 n1 c1, .int .i64 t1, .slice d1 e1 f1] 54 rfl rfl)
  clear h1
  go_enter Tryz.func115, Tryz.ntmps115
  have hC_y0 := hC.out.cell 0 0 rfl rfl
  have hC_y1 := hC.out.cell 0 1 rfl rfl
  have hC_y2 := hC.out.cell 0 2 rfl rfl
  have hC_y3 := hC.out.cell 0 3 rfl rfl
  go_wp2_with fail
  refine (denN_b (hC.out.rq 0 rfl)).mono ?_
  rintro e w3 ⟨s3, a3, n3, c3, rfl, hz, hb⟩
  have hC3 := Lib.hid ((hC.out.call hb).pn hz)
  clear hb hz hC
  clear hC_y0 hC_y1 hC_y2 hC_y3
  go_wp2_with fail
  refine (ztextN_is (hC3.out.n 1 rfl) B1.out.den (by omega) (B := ⟨#[49]⟩) (by rw [HD.out]; kernel_rfl)).mono ?_
  rintro e w4 ⟨rfl, hb⟩
  have hC4 := Lib.hid (hC3.out.call hb)
  clear hb hC3
  have hC4_y0 := hC4.out.cell 0 0 rfl rfl
  have hC4_y1 := hC4.out.cell 0 1 rfl rfl
  have hC4_y2 := hC4.out.cell 0 2 rfl rfl
  have hC4_y3 := hC4.out.cell 0 3 rfl rfl
  go_wp2_with fail
  refine (ztextN_any (hC4.out.rq 0 rfl).n B1.out.num (by omega)).mono ?_
  rintro e w5 ⟨rfl, hb⟩
  have hC5 := Lib.hid (hC4.out.call hb)
  clear hb hC4
  go_wp2
  go_ret
  exact ⟨ret_str (by rw [HT.out]), hC5.out.be⟩

set_option maxRecDepth 100000 in
set_option maxHeartbeats 1000000 in
theorem rtextN_more (s1 : Int) (a1 : Option Addr) (n1 c1 : Nat) (t1 : Int) (d1 : Option Addr) (e1 f1 : Nat) (q1 : Rat) (w : World) (h1 : Nq w s1 (.slice a1 n1 c1) t1 (.slice d1 e1 f1) q1) (k1 : Nat) (b1 : Bq k1 q1) (hk1 : k1 ≤ 40000) (hd : q1.den ≠ 1) :
    Calls Tryz.prog 115 #[.agg #[.int .i64 s1, .slice a1 n1 c1, .int .i64 t1, .slice d1 e1 f1]] w (fun e w' => e = .returned (.string ⟨(rtext q1).toArray⟩) ∧ Below w.heap.size w w') := by
  have hl1 := ztext_len b1.num (by omega)
  have hl2 := ztext_len b1.den (by omega)
  have HT := Lib.hid (show rtext q1 = Dec.ztext q1.num ++ [47] ++ Dec.ztext q1.den from if_neg hd)
  obtain ⟨T1, hT1⟩ : ∃ T : ByteArray, T = ⟨(Dec.ztext q1.num).toArray⟩ := ⟨_, rfl⟩
  obtain ⟨T2, hT2⟩ : ∃ T : ByteArray, T = ⟨(Dec.ztext q1.den).toArray⟩ := ⟨_, rfl⟩
  have hs1 : T1.size ≤ 1000002 := by rw [hT1]; show (Dec.ztext q1.num).toArray.size ≤ _; simpa using hl1
  have hs2 : T2.size ≤ 1000002 := by rw [hT2]; show (Dec.ztext q1.den).toArray.size ≤ _; simpa using hl2
  have hnd : (T2.toList == [49]) = false := by rw [hT2]; exact ztext_ne1 (fun e => hd (by omega))
  have hb1 : ¬ 9223372036854775807 ≤ T1.size := by omega
  have hb2 : ¬ 9223372036854775807 < T1.size + 1 := by omega
  have hb3 : ¬ 9223372036854775807 < T1.size + 1 + T2.size := by omega
  have HT1 := Lib.hid hT1
  have HT2 := Lib.hid hT2
  clear hT1 hT2 hl1 hl2 hd
  have B1 := Lib.hid b1
  clear b1
  have hC := Lib.hid (((St.enter w).pq h1).al (w.heap.size) #[.int .i64 s1, .slice a1 n1 c1, .int .i64 t1, .slice d1 e1 f1] 54 rfl rfl)
  clear h1
  go_enter Tryz.func115, Tryz.ntmps115
  have hC_y0 := hC.out.cell 0 0 rfl rfl
  have hC_y1 := hC.out.cell 0 1 rfl rfl
  have hC_y2 := hC.out.cell 0 2 rfl rfl
  have hC_y3 := hC.out.cell 0 3 rfl rfl
  go_wp2_with fail
  refine (denN_b (hC.out.rq 0 rfl)).mono ?_
  rintro e w3 ⟨s3, a3, n3, c3, rfl, hz, hb⟩
  have hC3 := Lib.hid ((hC.out.call hb).pn hz)
  clear hb hz hC
  clear hC_y0 hC_y1 hC_y2 hC_y3
  go_wp2_with fail
  refine (ztextN_is (hC3.out.n 1 rfl) B1.out.den (by omega) (B := T2) (by rw [HT2.out])).mono ?_
  rintro e w4 ⟨rfl, hb⟩
  have hC4 := Lib.hid (St.pick (hC3.out.call hb) [0] (rs' := [fun V => Nq V s1 (.slice a1 n1 c1) t1 (.slice d1 e1 f1) q1]) rfl)
  clear hb hC3
  go_wp2
  refine wp_gen hC4.out ?_
  intro W hc
  clear hC4
  have hC4 := Lib.hid hc
  clear hc
  go_wp2
  go_region_held3 (fun w' => w'.cell? ⟨w.heap.size, 0, none⟩ = some (.int .i64 s1) ∧ w'.cell? ⟨w.heap.size, 1, none⟩ = some (.slice a1 n1 c1) ∧ w'.cell? ⟨w.heap.size, 2, none⟩ = some (.int .i64 t1) ∧ w'.cell? ⟨w.heap.size, 3, none⟩ = some (.slice d1 e1 f1) ∧ True)
    (first
      | (with_reducible refine And.intro (?_ : World.cell? w7 _ = _) ?_; exact hC7.out.cell 0 0 rfl rfl; exact ⟨hC7.out.cell 0 1 rfl rfl, hC7.out.cell 0 2 rfl rfl, hC7.out.cell 0 3 rfl rfl, trivial⟩)
      | (with_reducible refine And.intro (?_ : World.cell? w6 _ = _) ?_; exact hC6.out.cell 0 0 rfl rfl; exact ⟨hC6.out.cell 0 1 rfl rfl, hC6.out.cell 0 2 rfl rfl, hC6.out.cell 0 3 rfl rfl, trivial⟩)
      | (with_reducible refine And.intro (?_ : World.cell? w5 _ = _) ?_; exact hC5.out.cell 0 0 rfl rfl; exact ⟨hC5.out.cell 0 1 rfl rfl, hC5.out.cell 0 2 rfl rfl, hC5.out.cell 0 3 rfl rfl, trivial⟩)
      | (with_reducible refine And.intro (?_ : World.cell? _ _ = _) ?_; exact hC4.out.drew.cell 0 0 rfl rfl; exact ⟨hC4.out.drew.cell 0 1 rfl rfl, hC4.out.drew.cell 0 2 rfl rfl, hC4.out.drew.cell 0 3 rfl rfl, trivial⟩))
    (first
      | (have _t := hC6; go_at_call 100; refine (ztextN_is (hC6.out.n 1 rfl) B1.out.den (by omega) (B := T2) (by rw [HT2.out])).mono ?_; rintro e w7 ⟨rfl, hb⟩; have hC7 := Lib.hid ((hC6.out.call hb)); clear hb; clear _t hC6)
      | (have _t := hC5; go_at_call 59; refine (denN_b (hC5.out.rq 0 rfl)).mono ?_; rintro e w6 ⟨s6, a6, n6, c6, rfl, hz, hb⟩; have hC6 := Lib.hid ((hC5.out.call hb).pn hz); clear hb hz; clear _t hC5)
      | (have _t := hC4; go_at_call 100; refine (ztextN_is (hC4.out.drew.rq 0 rfl).n B1.out.num (by omega) (B := T1) (by rw [HT1.out])).mono ?_; rintro e w5 ⟨rfl, hb⟩; have hC5 := Lib.hid ((hC4.out.drew.call hb)); clear hb; clear _t hC4)
      | fail)
  go_wp2
  go_ret
  exact ⟨by rw [HT.out, ← ba_append, ← ba_append, ← HT1.out, ← HT2.out]; rfl, hC7.out.be⟩

theorem rtextN_b {s1 : Int} {a1 : Option Addr} {n1 c1 : Nat} {t1 : Int} {d1 : Option Addr} {e1 f1 : Nat} {q1 : Rat} {w : World} (h1 : Nq w s1 (.slice a1 n1 c1) t1 (.slice d1 e1 f1) q1) {k1 : Nat} (b1 : Bq k1 q1) (hk1 : k1 ≤ 40000) :
    Calls Tryz.prog 115 #[.agg #[.int .i64 s1, .slice a1 n1 c1, .int .i64 t1, .slice d1 e1 f1]] w (fun e w' => e = .returned (.string ⟨(rtext q1).toArray⟩) ∧ Below w.heap.size w w') := by
  by_cases hd : q1.den = 1
  · exact rtextN_one _ _ _ _ _ _ _ _ _ _ h1 k1 b1 hk1 hd
  · exact rtextN_more _ _ _ _ _ _ _ _ _ _ h1 k1 b1 hk1 hd
theorem rtextN_is {s1 : Int} {a1 : Option Addr} {n1 c1 : Nat} {t1 : Int} {d1 : Option Addr} {e1 f1 : Nat} {q1 : Rat} {w : World} (h1 : Nq w s1 (.slice a1 n1 c1) t1 (.slice d1 e1 f1) q1) {k1 : Nat} (b1 : Bq k1 q1) (hk1 : k1 ≤ 40000) {B : ByteArray} (hB : rtext q1 = B.data.toList) :
    Calls Tryz.prog 115 #[.agg #[.int .i64 s1, .slice a1 n1 c1, .int .i64 t1, .slice d1 e1 f1]] w (fun e w' => e = .returned (.string B) ∧ Below w.heap.size w w') := by
  have := rtextN_b h1 b1 hk1
  rw [hB] at this
  exact this

end Go.Proofs.YtmfplelodnoicaaGreatDoor

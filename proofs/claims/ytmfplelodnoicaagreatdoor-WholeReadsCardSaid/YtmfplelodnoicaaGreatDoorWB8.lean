/- the laws' own SameZ and Same -/
import Derived.Test.YtmfplelodnoicaaGreatDoorWS
import Derived.Test.YtmfplelodnoicaaGreatDoorWB2
import Derived.Test.YtmfplelodnoicaaGreatDoorWP
import Derived.Test.YtmfplelodnoicaaGreatDoorWR
namespace Go.Proofs.YtmfplelodnoicaaGreatDoor
open Go.RowKit Dig

theorem str_same (T : ByteArray) : (T.toList == T.toList) = true := beq_self_eq_true _

set_option maxRecDepth 100000 in
set_option maxHeartbeats 1000000 in
theorem sameZ_any (a1 : Option Addr) (n1 c1 : Nat) (m1 : Bool) (z1 : Int) (s2 : Int) (a2 : Option Addr) (n2 c2 : Nat)  (w : World) (h1 : Zd w (.slice a1 n1 c1) m1 z1) (h2 : Nz w s2 (.slice a2 n2 c2) z1) (k1 : Nat) (b1 : Bd k1 z1) (hk1 : k1 ≤ 400000) :
    Calls Tryz.prog 14 #[.agg #[.slice a1 n1 c1, .bool m1], .agg #[.int .i64 s2, .slice a2 n2 c2]] w (fun e w' => e = .returned (.bool true) ∧ Below w.heap.size w w') := by
  obtain ⟨T, hT⟩ : ∃ T : ByteArray, T = ⟨(Dec.ztext z1).toArray⟩ := ⟨_, rfl⟩
  have hTT := str_same T
  have HT := Lib.hid (show Dec.ztext z1 = T.data.toList from by rw [hT])
  have HT2 := Lib.hid hT
  have B1 := Lib.hid b1
  clear hT b1
  have hC := Lib.hid (((((St.enter w).pz h1).pn h2).al (w.heap.size) #[.slice a1 n1 c1, .bool m1] 28 rfl rfl).al (w.heap.size + 1) #[.int .i64 s2, .slice a2 n2 c2] 31 (by simp) rfl)
  clear h1 h2
  go_enter Tryz.func14, Tryz.ntmps14
  go_wp2
  go_region_held3 (fun w' => w'.cell? ⟨w.heap.size, 0, none⟩ = some (.slice a1 n1 c1) ∧ w'.cell? ⟨w.heap.size, 1, none⟩ = some (.bool m1) ∧ w'.cell? ⟨w.heap.size + 1, 0, none⟩ = some (.int .i64 s2) ∧ w'.cell? ⟨w.heap.size + 1, 1, none⟩ = some (.slice a2 n2 c2) ∧ True)
    (first
      | (with_reducible refine And.intro (?_ : World.cell? w5 _ = _) ?_; exact hC5.out.cell 0 0 rfl rfl; exact ⟨hC5.out.cell 0 1 rfl rfl, hC5.out.cell 1 0 rfl rfl, hC5.out.cell 1 1 rfl rfl, trivial⟩)
      | (with_reducible refine And.intro (?_ : World.cell? w4 _ = _) ?_; exact hC4.out.cell 0 0 rfl rfl; exact ⟨hC4.out.cell 0 1 rfl rfl, hC4.out.cell 1 0 rfl rfl, hC4.out.cell 1 1 rfl rfl, trivial⟩)
      | (with_reducible refine And.intro (?_ : World.cell? _ _ = _) ?_; exact hC.out.drew.cell 0 0 rfl rfl; exact ⟨hC.out.drew.cell 0 1 rfl rfl, hC.out.drew.cell 1 0 rfl rfl, hC.out.drew.cell 1 1 rfl rfl, trivial⟩))
    (first
      | (have _t := hC4; go_at_call 100; refine (ztextN_is (hC4.out.n 1 rfl) B1.out (by omega) HT.out).mono ?_; rintro e w5 ⟨rfl, hb⟩; have hC5 := Lib.hid ((hC4.out.call hb)); clear hb; clear _t hC4)
      | (have _t := hC; go_at_call 29; refine (ztext_is (hC.out.drew.z 0 rfl) B1.out (by omega) HT.out).mono ?_; rintro e w4 ⟨rfl, hb⟩; have hC4 := Lib.hid ((hC.out.drew.call hb)); clear hb; clear _t hC)
      | fail)
  go_wp2
  go_ret
  exact ⟨rfl, hC5.out.be⟩

set_option maxRecDepth 100000 in
set_option maxHeartbeats 1000000 in
theorem same_any (a1 : Option Addr) (n1 c1 : Nat) (m1 : Bool) (d1 : Option Addr) (e1 f1 : Nat) (q1 : Rat) (s2 : Int) (a2 : Option Addr) (n2 c2 : Nat) (t2 : Int) (d2 : Option Addr) (e2 f2 : Nat)  (w : World) (h1 : Rd w (.slice a1 n1 c1) m1 (.slice d1 e1 f1) q1) (h2 : Nq w s2 (.slice a2 n2 c2) t2 (.slice d2 e2 f2) q1) (k1 : Nat) (b1 : Bq k1 q1) (hk1 : k1 ≤ 40000) :
    Calls Tryz.prog 27 #[.agg #[.slice a1 n1 c1, .bool m1, .slice d1 e1 f1], .agg #[.int .i64 s2, .slice a2 n2 c2, .int .i64 t2, .slice d2 e2 f2]] w (fun e w' => e = .returned (.bool true) ∧ Below w.heap.size w w') := by
  obtain ⟨T, hT⟩ : ∃ T : ByteArray, T = ⟨(rtext q1).toArray⟩ := ⟨_, rfl⟩
  have hTT := str_same T
  have HT := Lib.hid (show rtext q1 = T.data.toList from by rw [hT])
  have HT2 := Lib.hid hT
  have B1 := Lib.hid b1
  clear hT b1
  have hC := Lib.hid (((((St.enter w).pr h1).pq h2).al (w.heap.size) #[.slice a1 n1 c1, .bool m1, .slice d1 e1 f1] 48 rfl rfl).al (w.heap.size + 1) #[.int .i64 s2, .slice a2 n2 c2, .int .i64 t2, .slice d2 e2 f2] 54 (by simp) rfl)
  clear h1 h2
  go_enter Tryz.func27, Tryz.ntmps27
  go_wp2
  go_region_held3 (fun w' => w'.cell? ⟨w.heap.size, 0, none⟩ = some (.slice a1 n1 c1) ∧ w'.cell? ⟨w.heap.size, 1, none⟩ = some (.bool m1) ∧ w'.cell? ⟨w.heap.size, 2, none⟩ = some (.slice d1 e1 f1) ∧ w'.cell? ⟨w.heap.size + 1, 0, none⟩ = some (.int .i64 s2) ∧ w'.cell? ⟨w.heap.size + 1, 1, none⟩ = some (.slice a2 n2 c2) ∧ w'.cell? ⟨w.heap.size + 1, 2, none⟩ = some (.int .i64 t2) ∧ w'.cell? ⟨w.heap.size + 1, 3, none⟩ = some (.slice d2 e2 f2) ∧ True)
    (first
      | (with_reducible refine And.intro (?_ : World.cell? w5 _ = _) ?_; exact hC5.out.cell 0 0 rfl rfl; exact ⟨hC5.out.cell 0 1 rfl rfl, hC5.out.cell 0 2 rfl rfl, hC5.out.cell 1 0 rfl rfl, hC5.out.cell 1 1 rfl rfl, hC5.out.cell 1 2 rfl rfl, hC5.out.cell 1 3 rfl rfl, trivial⟩)
      | (with_reducible refine And.intro (?_ : World.cell? w4 _ = _) ?_; exact hC4.out.cell 0 0 rfl rfl; exact ⟨hC4.out.cell 0 1 rfl rfl, hC4.out.cell 0 2 rfl rfl, hC4.out.cell 1 0 rfl rfl, hC4.out.cell 1 1 rfl rfl, hC4.out.cell 1 2 rfl rfl, hC4.out.cell 1 3 rfl rfl, trivial⟩)
      | (with_reducible refine And.intro (?_ : World.cell? _ _ = _) ?_; exact hC.out.drew.cell 0 0 rfl rfl; exact ⟨hC.out.drew.cell 0 1 rfl rfl, hC.out.drew.cell 0 2 rfl rfl, hC.out.drew.cell 1 0 rfl rfl, hC.out.drew.cell 1 1 rfl rfl, hC.out.drew.cell 1 2 rfl rfl, hC.out.drew.cell 1 3 rfl rfl, trivial⟩))
    (first
      | (have _t := hC4; go_at_call 115; refine (rtextN_is (hC4.out.rq 1 rfl) B1.out (by omega) HT.out).mono ?_; rintro e w5 ⟨rfl, hb⟩; have hC5 := Lib.hid ((hC4.out.call hb)); clear hb; clear _t hC4)
      | (have _t := hC; go_at_call 30; refine (rtext_is (hC.out.drew.r 0 rfl) B1.out (by omega) HT.out).mono ?_; rintro e w4 ⟨rfl, hb⟩; have hC4 := Lib.hid ((hC.out.drew.call hb)); clear hb; clear _t hC)
      | fail)
  go_wp2
  go_ret
  exact ⟨rfl, hC5.out.be⟩

section
variable {w : World} {a1 : Option Addr} {n1 c1 : Nat} {m1 : Bool} {z1 : Int} {s1 : Int} {s2 : Int} {a2 : Option Addr} {n2 c2 : Nat} {z2 : Int} {d1 : Option Addr} {e1 f1 : Nat} {q1 : Rat} {t2 : Int} {d2 : Option Addr} {e2 f2 : Nat} {k1 k2 : Nat}
theorem sameZ_b (h1 : Zd w (.slice a1 n1 c1) m1 z1) (h2 : Nz w s2 (.slice a2 n2 c2) z1) (b1 : Bd k1 z1) (hk1 : k1 ≤ 400000) :
    Calls Tryz.prog 14 #[.agg #[.slice a1 n1 c1, .bool m1], .agg #[.int .i64 s2, .slice a2 n2 c2]] w (fun e w' => e = .returned (.bool true) ∧ Below w.heap.size w w') := sameZ_any _ _ _ _ _ _ _ _ _ _ h1 h2 _ b1 hk1
theorem same_b (h1 : Rd w (.slice a1 n1 c1) m1 (.slice d1 e1 f1) q1) (h2 : Nq w s2 (.slice a2 n2 c2) t2 (.slice d2 e2 f2) q1) (b1 : Bq k1 q1) (hk1 : k1 ≤ 40000) :
    Calls Tryz.prog 27 #[.agg #[.slice a1 n1 c1, .bool m1, .slice d1 e1 f1], .agg #[.int .i64 s2, .slice a2 n2 c2, .int .i64 t2, .slice d2 e2 f2]] w (fun e w' => e = .returned (.bool true) ∧ Below w.heap.size w w') := same_any _ _ _ _ _ _ _ _ _ _ _ _ _ _ _ _ _ h1 h2 _ b1 hk1
theorem cmpN_is {v : Int} (h1 : Nz w s1 (.slice a1 n1 c1) z1) (h2 : Nz w s2 (.slice a2 n2 c2) z2) (b1 : Bd k1 z1) (b2 : Bd k2 z2) (hk1 : k1 ≤ 500000) (hk2 : k2 ≤ 500000) (hv : sgn (z1 - z2) = v) :
    Calls Tryz.prog 47 #[.agg #[.int .i64 s1, .slice a1 n1 c1], .agg #[.int .i64 s2, .slice a2 n2 c2]] w fun e w' => e = .returned (.int .i64 v) ∧ Below w.heap.size w w' := by
  subst hv; exact cmpN_b h1 h2 b1 b2 hk1 hk2
end

end Go.Proofs.YtmfplelodnoicaaGreatDoor

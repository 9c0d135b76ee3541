/- the laws' own pair and SameV; the contracts on pairs as laws want them -/
import Derived.Test.YtmfplelodnoicaaGreatDoorWB2
import Derived.Test.YtmfplelodnoicaaGreatDoorWB5
import Derived.Test.YtmfplelodnoicaaGreatDoorWN23
import Derived.Test.YtmfplelodnoicaaGreatDoorWV2
import Derived.Test.YtmfplelodnoicaaGreatDoorWS2
namespace Go.Proofs.YtmfplelodnoicaaGreatDoor
open Go.RowKit Dig

theorem vadd_b {w : World} {a1 : Option Addr} {n1 c1 : Nat} {m1 : Bool} {d1 : Option Addr} {e1 f1 : Nat} {u1 : Option Addr} {x1 y1 : Nat} {p1 : Bool} {t1 : Option Addr} {o1 l1 : Nat} {v1 : Rat × Rat} {a2 : Option Addr} {n2 c2 : Nat} {m2 : Bool} {d2 : Option Addr} {e2 f2 : Nat} {u2 : Option Addr} {x2 y2 : Nat} {p2 : Bool} {t2 : Option Addr} {o2 l2 : Nat} {v2 : Rat × Rat} {k1 k2 : Nat} (h1 : Vd w (.slice a1 n1 c1) m1 (.slice d1 e1 f1) (.slice u1 x1 y1) p1 (.slice t1 o1 l1) v1) (h2 : Vd w (.slice a2 n2 c2) m2 (.slice d2 e2 f2) (.slice u2 x2 y2) p2 (.slice t2 o2 l2) v2) (b1 : Bv k1 v1) (b2 : Bv k2 v2) (hk1 : k1 ≤ 10000) (hk2 : k2 ≤ 10000) :
    Calls Tryz.prog 86 #[.agg #[.slice a1 n1 c1, .bool m1, .slice d1 e1 f1, .slice u1 x1 y1, .bool p1, .slice t1 o1 l1], .agg #[.slice a2 n2 c2, .bool m2, .slice d2 e2 f2, .slice u2 x2 y2, .bool p2, .slice t2 o2 l2]] w (RetV w (v1.1 + v2.1, v1.2 + v2.2)) := vadd_any _ _ _ _ _ _ _ _ _ _ _ _ _ _ _ _ _ _ _ _ _ _ _ _ _ _ _ _ _ _ _ h1 h2 _ _ b1 b2 hk1 hk2
theorem vsub_b {w : World} {a1 : Option Addr} {n1 c1 : Nat} {m1 : Bool} {d1 : Option Addr} {e1 f1 : Nat} {u1 : Option Addr} {x1 y1 : Nat} {p1 : Bool} {t1 : Option Addr} {o1 l1 : Nat} {v1 : Rat × Rat} {a2 : Option Addr} {n2 c2 : Nat} {m2 : Bool} {d2 : Option Addr} {e2 f2 : Nat} {u2 : Option Addr} {x2 y2 : Nat} {p2 : Bool} {t2 : Option Addr} {o2 l2 : Nat} {v2 : Rat × Rat} {k1 k2 : Nat} (h1 : Vd w (.slice a1 n1 c1) m1 (.slice d1 e1 f1) (.slice u1 x1 y1) p1 (.slice t1 o1 l1) v1) (h2 : Vd w (.slice a2 n2 c2) m2 (.slice d2 e2 f2) (.slice u2 x2 y2) p2 (.slice t2 o2 l2) v2) (b1 : Bv k1 v1) (b2 : Bv k2 v2) (hk1 : k1 ≤ 10000) (hk2 : k2 ≤ 10000) :
    Calls Tryz.prog 88 #[.agg #[.slice a1 n1 c1, .bool m1, .slice d1 e1 f1, .slice u1 x1 y1, .bool p1, .slice t1 o1 l1], .agg #[.slice a2 n2 c2, .bool m2, .slice d2 e2 f2, .slice u2 x2 y2, .bool p2, .slice t2 o2 l2]] w (RetV w (v1.1 - v2.1, v1.2 - v2.2)) := vsub_any _ _ _ _ _ _ _ _ _ _ _ _ _ _ _ _ _ _ _ _ _ _ _ _ _ _ _ _ _ _ _ h1 h2 _ _ b1 b2 hk1 hk2
theorem vscale_b {w : World} {a1 : Option Addr} {n1 c1 : Nat} {m1 : Bool} {d1 : Option Addr} {e1 f1 : Nat} {u1 : Option Addr} {x1 y1 : Nat} {p1 : Bool} {t1 : Option Addr} {o1 l1 : Nat} {v1 : Rat × Rat} {a2 : Option Addr} {n2 c2 : Nat} {m2 : Bool} {d2 : Option Addr} {e2 f2 : Nat} {q2 : Rat} {k1 k2 : Nat} (h1 : Vd w (.slice a1 n1 c1) m1 (.slice d1 e1 f1) (.slice u1 x1 y1) p1 (.slice t1 o1 l1) v1) (h2 : Rd w (.slice a2 n2 c2) m2 (.slice d2 e2 f2) q2) (b1 : Bv k1 v1) (b2 : Bq k2 q2) (hk1 : k1 ≤ 10000) (hk2 : k2 ≤ 10000) :
    Calls Tryz.prog 90 #[.agg #[.slice a1 n1 c1, .bool m1, .slice d1 e1 f1, .slice u1 x1 y1, .bool p1, .slice t1 o1 l1], .agg #[.slice a2 n2 c2, .bool m2, .slice d2 e2 f2]] w (RetV w (v1.1 * q2, v1.2 * q2)) := vscale_any _ _ _ _ _ _ _ _ _ _ _ _ _ _ _ _ _ _ _ _ _ _ _ _ h1 h2 _ _ b1 b2 hk1 hk2
theorem vdot_b {w : World} {a1 : Option Addr} {n1 c1 : Nat} {m1 : Bool} {d1 : Option Addr} {e1 f1 : Nat} {u1 : Option Addr} {x1 y1 : Nat} {p1 : Bool} {t1 : Option Addr} {o1 l1 : Nat} {v1 : Rat × Rat} {a2 : Option Addr} {n2 c2 : Nat} {m2 : Bool} {d2 : Option Addr} {e2 f2 : Nat} {u2 : Option Addr} {x2 y2 : Nat} {p2 : Bool} {t2 : Option Addr} {o2 l2 : Nat} {v2 : Rat × Rat} {k1 k2 : Nat} (h1 : Vd w (.slice a1 n1 c1) m1 (.slice d1 e1 f1) (.slice u1 x1 y1) p1 (.slice t1 o1 l1) v1) (h2 : Vd w (.slice a2 n2 c2) m2 (.slice d2 e2 f2) (.slice u2 x2 y2) p2 (.slice t2 o2 l2) v2) (b1 : Bv k1 v1) (b2 : Bv k2 v2) (hk1 : k1 ≤ 10000) (hk2 : k2 ≤ 10000) :
    Calls Tryz.prog 92 #[.agg #[.slice a1 n1 c1, .bool m1, .slice d1 e1 f1, .slice u1 x1 y1, .bool p1, .slice t1 o1 l1], .agg #[.slice a2 n2 c2, .bool m2, .slice d2 e2 f2, .slice u2 x2 y2, .bool p2, .slice t2 o2 l2]] w (RetR w (v1.1 * v2.1 + v1.2 * v2.2)) := vdot_any _ _ _ _ _ _ _ _ _ _ _ _ _ _ _ _ _ _ _ _ _ _ _ _ _ _ _ _ _ _ _ h1 h2 _ _ b1 b2 hk1 hk2
theorem vcross_b {w : World} {a1 : Option Addr} {n1 c1 : Nat} {m1 : Bool} {d1 : Option Addr} {e1 f1 : Nat} {u1 : Option Addr} {x1 y1 : Nat} {p1 : Bool} {t1 : Option Addr} {o1 l1 : Nat} {v1 : Rat × Rat} {a2 : Option Addr} {n2 c2 : Nat} {m2 : Bool} {d2 : Option Addr} {e2 f2 : Nat} {u2 : Option Addr} {x2 y2 : Nat} {p2 : Bool} {t2 : Option Addr} {o2 l2 : Nat} {v2 : Rat × Rat} {k1 k2 : Nat} (h1 : Vd w (.slice a1 n1 c1) m1 (.slice d1 e1 f1) (.slice u1 x1 y1) p1 (.slice t1 o1 l1) v1) (h2 : Vd w (.slice a2 n2 c2) m2 (.slice d2 e2 f2) (.slice u2 x2 y2) p2 (.slice t2 o2 l2) v2) (b1 : Bv k1 v1) (b2 : Bv k2 v2) (hk1 : k1 ≤ 10000) (hk2 : k2 ≤ 10000) :
    Calls Tryz.prog 94 #[.agg #[.slice a1 n1 c1, .bool m1, .slice d1 e1 f1, .slice u1 x1 y1, .bool p1, .slice t1 o1 l1], .agg #[.slice a2 n2 c2, .bool m2, .slice d2 e2 f2, .slice u2 x2 y2, .bool p2, .slice t2 o2 l2]] w (RetR w (v1.1 * v2.2 - v1.2 * v2.1)) := vcross_any _ _ _ _ _ _ _ _ _ _ _ _ _ _ _ _ _ _ _ _ _ _ _ _ _ _ _ _ _ _ _ h1 h2 _ _ b1 b2 hk1 hk2
/-- are two pairs equal -/
def sameP (a b : Rat × Rat) : Bool := cmpQ a.1 b.1 == 0 && cmpQ a.2 b.2 == 0
theorem vsame_is {w : World} {a1 : Option Addr} {n1 c1 : Nat} {m1 : Bool} {d1 : Option Addr} {e1 f1 : Nat} {u1 : Option Addr} {x1 y1 : Nat} {p1 : Bool} {t1 : Option Addr} {o1 l1 : Nat} {v1 : Rat × Rat} {a2 : Option Addr} {n2 c2 : Nat} {m2 : Bool} {d2 : Option Addr} {e2 f2 : Nat} {u2 : Option Addr} {x2 y2 : Nat} {p2 : Bool} {t2 : Option Addr} {o2 l2 : Nat} {v2 : Rat × Rat} {k1 k2 : Nat} {o : Bool} (h1 : Vd w (.slice a1 n1 c1) m1 (.slice d1 e1 f1) (.slice u1 x1 y1) p1 (.slice t1 o1 l1) v1) (h2 : Vd w (.slice a2 n2 c2) m2 (.slice d2 e2 f2) (.slice u2 x2 y2) p2 (.slice t2 o2 l2) v2) (b1 : Bv k1 v1) (b2 : Bv k2 v2) (hk1 : k1 ≤ 10000) (hk2 : k2 ≤ 10000) (ho : sameP v1 v2 = o) :
    Calls Tryz.prog 96 #[.agg #[.slice a1 n1 c1, .bool m1, .slice d1 e1 f1, .slice u1 x1 y1, .bool p1, .slice t1 o1 l1], .agg #[.slice a2 n2 c2, .bool m2, .slice d2 e2 f2, .slice u2 x2 y2, .bool p2, .slice t2 o2 l2]] w fun e w' => e = .returned (.bool o) ∧ Below w.heap.size w w' := by
  unfold sameP at ho
  by_cases h : cmpQ v1.1 v2.1 = 0
  · have e : (cmpQ v1.1 v2.1 == 0) = true := by simpa using h
    rw [e, Bool.true_and] at ho
    rw [← ho]
    exact vsame_yes _ _ _ _ _ _ _ _ _ _ _ _ _ _ _ _ _ _ _ _ _ _ _ _ _ _ _ _ _ _ _ h1 h2 _ _ b1 b2 hk1 hk2 h _ rfl
  · have e : (cmpQ v1.1 v2.1 == 0) = false := by simpa using h
    rw [e, Bool.false_and] at ho
    rw [← ho]
    exact vsame_no _ _ _ _ _ _ _ _ _ _ _ _ _ _ _ _ _ _ _ _ _ _ _ _ _ _ _ _ _ _ _ h1 h2 _ _ b1 b2 hk1 hk2 _ rfl e
theorem vtext_is {w : World} {a1 : Option Addr} {n1 c1 : Nat} {m1 : Bool} {d1 : Option Addr} {e1 f1 : Nat} {u1 : Option Addr} {x1 y1 : Nat} {p1 : Bool} {t1 : Option Addr} {o1 l1 : Nat} {v1 : Rat × Rat} {k1 : Nat} (h1 : Vd w (.slice a1 n1 c1) m1 (.slice d1 e1 f1) (.slice u1 x1 y1) p1 (.slice t1 o1 l1) v1) (b1 : Bv k1 v1) (hk1 : k1 ≤ 10000) {B : ByteArray} (hB : vtext v1 = B.data.toList) :
    Calls Tryz.prog 98 #[.agg #[.slice a1 n1 c1, .bool m1, .slice d1 e1 f1, .slice u1 x1 y1, .bool p1, .slice t1 o1 l1]] w fun e w' => e = .returned (.string B) ∧ Below w.heap.size w w' := by
  have := vtext_any _ _ _ _ _ _ _ _ _ _ _ _ _ _ _ _ h1 _ b1 hk1
  rw [ba_of hB] at this
  exact this
theorem Bv.of {n : Nat} {a b : Rat} (h : Bq n a) (k : Bq n b) : Bv n (a, b) := ⟨h, k⟩
theorem Bv.add {n m : Nat} {a b : Rat × Rat} (h : Bv n a) (k : Bv m b) : Bv (2 * n + 2 * m + 1) (a.1 + b.1, a.2 + b.2) := ⟨h.1.add k.1, h.2.add k.2⟩
theorem Bv.sub {n m : Nat} {a b : Rat × Rat} (h : Bv n a) (k : Bv m b) : Bv (2 * n + 2 * m + 1) (a.1 - b.1, a.2 - b.2) := ⟨h.1.sub k.1, h.2.sub k.2⟩
theorem Bv.scale {n m : Nat} {a : Rat × Rat} {q : Rat} (h : Bv n a) (k : Bq m q) : Bv (n + m) (a.1 * q, a.2 * q) := ⟨h.1.mul k, h.2.mul k⟩
theorem Bv.dot {n m : Nat} {a b : Rat × Rat} (h : Bv n a) (k : Bv m b) : Bq (2 * (n + m) + 2 * (n + m) + 1) (a.1 * b.1 + a.2 * b.2) := (h.1.mul k.1).add (h.2.mul k.2)
theorem Bv.cross {n m : Nat} {a b : Rat × Rat} (h : Bv n a) (k : Bv m b) : Bq (2 * (n + m) + 2 * (n + m) + 1) (a.1 * b.2 - a.2 * b.1) := (h.1.mul k.2).sub (h.2.mul k.1)

/-- what pair answers: the pair, and the reference's -/
def RetP2 (w : World) (v : Rat × Rat) (e : Ending) (w' : World) : Prop := ∃ a5 n5 c5 m5 d5 e5 f5 u5 x5 y5 p5 t5 o5 l5 s6 a6 n6 c6 t6 d6 e6 f6 p6 u6 x6 y6 g6 i6 o6 l6, e = .returned (.tuple #[.agg #[.slice a5 n5 c5, .bool m5, .slice d5 e5 f5, .slice u5 x5 y5, .bool p5, .slice t5 o5 l5], .agg #[.int .i64 s6, .slice a6 n6 c6, .int .i64 t6, .slice d6 e6 f6, .int .i64 p6, .slice u6 x6 y6, .int .i64 g6, .slice i6 o6 l6]]) ∧ Vd w' (.slice a5 n5 c5) m5 (.slice d5 e5 f5) (.slice u5 x5 y5) p5 (.slice t5 o5 l5) v ∧ Nv w' s6 (.slice a6 n6 c6) t6 (.slice d6 e6 f6) p6 (.slice u6 x6 y6) g6 (.slice i6 o6 l6) v ∧ Below w.heap.size w w'

set_option maxRecDepth 100000 in
set_option maxHeartbeats 4000000 in
theorem pair_any (N1 D1 : Int) (N2 D2 : Int) (w : World) (hN1 : -9223372036854775808 ≤ N1 ∧ N1 < 9223372036854775808) (hD1 : -9223372036854775808 ≤ D1 ∧ D1 < 9223372036854775808) (hN2 : -9223372036854775808 ≤ N2 ∧ N2 < 9223372036854775808) (hD2 : -9223372036854775808 ≤ D2 ∧ D2 < 9223372036854775808) :
    Calls Tryz.prog 84 #[.agg #[.int .i64 N1, .int .i64 D1], .agg #[.int .i64 N2, .int .i64 D2]] w (RetP2 w (num N1 D1, num N2 D2)) := by
  obtain ⟨x1, h1, b1⟩ : ∃ x : Rat, num N1 D1 = x ∧ Bq 64 x := ⟨_, rfl, num_bd hN1 hD1⟩
  have H1 := Lib.hid h1
  have E1 := Lib.hid b1
  clear h1 b1
  have HN1 := Lib.hid hN1
  clear hN1
  have HD1 := Lib.hid hD1
  clear hD1
  obtain ⟨x2, h1, b1⟩ : ∃ x : Rat, num N2 D2 = x ∧ Bq 64 x := ⟨_, rfl, num_bd hN2 hD2⟩
  have H2 := Lib.hid h1
  have E2 := Lib.hid b1
  clear h1 b1
  have HN2 := Lib.hid hN2
  clear hN2
  have HD2 := Lib.hid hD2
  clear hD2
  have hC := Lib.hid (((((St.enter w).al (w.heap.size) #[.int .i64 N1, .int .i64 D1] 60 rfl rfl).al (w.heap.size + 1) #[.int .i64 N2, .int .i64 D2] 60 (by simp) rfl).al (w.heap.size + 2) #[.slice none 0 0, .bool false, .slice none 0 0, .slice none 0 0, .bool false, .slice none 0 0] 103 (by simp) rfl).al (w.heap.size + 3) #[.int .i64 0, .slice none 0 0, .int .i64 0, .slice none 0 0, .int .i64 0, .slice none 0 0, .int .i64 0, .slice none 0 0] 105 (by simp) rfl)
  rw [H1.out, H2.out]
  go_enter Tryz.func84, Tryz.ntmps84
  have y0 := hC.out.cell 0 0 rfl rfl
  have y1 := hC.out.cell 0 1 rfl rfl
  go_wp2_with fail
  refine (both_any N1 D1 _ HN1.out HD1.out).mono ?_
  rintro e w1 ⟨a1, n1, c1, m1, d1, e1, f1, s11, a11, n11, c11, t11, d11, e11, f11, rfl, hz, hn, hb⟩
  rw [H1.out] at hz hn
  have hC1 := Lib.hid ((((hC.out.call hb).pr hz).pq hn |>.al w1.heap.size #[.slice a1 n1 c1, .bool m1, .slice d1 e1 f1] 48 rfl rfl).al (w1.heap.size + 1) #[.int .i64 s11, .slice a11 n11 c11, .int .i64 t11, .slice d11 e11 f11] 54 (by simp) rfl)
  clear hz hn hb hC y0 y1
  have y0 := hC1.out.cell 1 0 rfl rfl
  have y1 := hC1.out.cell 1 1 rfl rfl
  go_wp2_with fail
  refine (both_any N2 D2 _ HN2.out HD2.out).mono ?_
  rintro e w2 ⟨a2, n2, c2, m2, d2, e2, f2, s12, a12, n12, c12, t12, d12, e12, f12, rfl, hz, hn, hb⟩
  rw [H2.out] at hz hn
  have hC2 := Lib.hid ((((hC1.out.call hb).pr hz).pq hn |>.al w2.heap.size #[.slice a2 n2 c2, .bool m2, .slice d2 e2 f2] 48 rfl rfl).al (w2.heap.size + 1) #[.int .i64 s12, .slice a12 n12 c12, .int .i64 t12, .slice d12 e12 f12] 54 (by simp) rfl)
  clear hz hn hb hC1 y0 y1
  go_upto_region 3 with fail
  refine wp_gen hC2.out ?_
  intro W hc
  clear hC2
  have hD := Lib.hid hc
  clear hc
  have hD_c20 := hD.out.cell 2 0 rfl rfl
  have hD_f20 := hD.out.free 2 0 rfl
  have hD_c21 := hD.out.cell 2 1 rfl rfl
  have hD_f21 := hD.out.free 2 1 rfl
  have hD_c22 := hD.out.cell 2 2 rfl rfl
  have hD_f22 := hD.out.free 2 2 rfl
  have hD_c23 := hD.out.cell 2 3 rfl rfl
  have hD_f23 := hD.out.free 2 3 rfl
  have hD_c24 := hD.out.cell 2 4 rfl rfl
  have hD_f24 := hD.out.free 2 4 rfl
  have hD_c25 := hD.out.cell 2 5 rfl rfl
  have hD_f25 := hD.out.free 2 5 rfl
  have hD_c30 := hD.out.cell 3 0 rfl rfl
  have hD_f30 := hD.out.free 3 0 rfl
  have hD_c31 := hD.out.cell 3 1 rfl rfl
  have hD_f31 := hD.out.free 3 1 rfl
  have hD_c32 := hD.out.cell 3 2 rfl rfl
  have hD_f32 := hD.out.free 3 2 rfl
  have hD_c33 := hD.out.cell 3 3 rfl rfl
  have hD_f33 := hD.out.free 3 3 rfl
  have hD_c34 := hD.out.cell 3 4 rfl rfl
  have hD_f34 := hD.out.free 3 4 rfl
  have hD_c35 := hD.out.cell 3 5 rfl rfl
  have hD_f35 := hD.out.free 3 5 rfl
  have hD_c36 := hD.out.cell 3 6 rfl rfl
  have hD_f36 := hD.out.free 3 6 rfl
  have hD_c37 := hD.out.cell 3 7 rfl rfl
  have hD_f37 := hD.out.free 3 7 rfl
  refine wp_region_held_drew (S := (fun w' => w'.cell? ⟨w1.heap.size, 0, none⟩ = some (.slice a1 n1 c1) ∧ w'.cell? ⟨w1.heap.size, 1, none⟩ = some (.bool m1) ∧ w'.cell? ⟨w1.heap.size, 2, none⟩ = some (.slice d1 e1 f1) ∧ w'.cell? ⟨w1.heap.size + 1, 0, none⟩ = some (.int .i64 s11) ∧ w'.cell? ⟨w1.heap.size + 1, 1, none⟩ = some (.slice a11 n11 c11) ∧ w'.cell? ⟨w1.heap.size + 1, 2, none⟩ = some (.int .i64 t11) ∧ w'.cell? ⟨w1.heap.size + 1, 3, none⟩ = some (.slice d11 e11 f11) ∧ w'.cell? ⟨w2.heap.size, 0, none⟩ = some (.slice a2 n2 c2) ∧ w'.cell? ⟨w2.heap.size, 1, none⟩ = some (.bool m2) ∧ w'.cell? ⟨w2.heap.size, 2, none⟩ = some (.slice d2 e2 f2) ∧ w'.cell? ⟨w2.heap.size + 1, 0, none⟩ = some (.int .i64 s12) ∧ w'.cell? ⟨w2.heap.size + 1, 1, none⟩ = some (.slice a12 n12 c12) ∧ w'.cell? ⟨w2.heap.size + 1, 2, none⟩ = some (.int .i64 t12) ∧ w'.cell? ⟨w2.heap.size + 1, 3, none⟩ = some (.slice d12 e12 f12) ∧ True)) (by kernel_rfl) ?_ (fun hH0 => ?_)
  · (try dsimp only)
    all_goals (with_reducible refine And.intro (?_ : World.cell? (World.drew W) _ = _) ?_; exact hD.out.drew.cell 4 0 rfl rfl; exact ⟨hD.out.drew.cell 4 1 rfl rfl, hD.out.drew.cell 4 2 rfl rfl, hD.out.drew.cell 5 0 rfl rfl, hD.out.drew.cell 5 1 rfl rfl, hD.out.drew.cell 5 2 rfl rfl, hD.out.drew.cell 5 3 rfl rfl, hD.out.drew.cell 6 0 rfl rfl, hD.out.drew.cell 6 1 rfl rfl, hD.out.drew.cell 6 2 rfl rfl, hD.out.drew.cell 7 0 rfl rfl, hD.out.drew.cell 7 1 rfl rfl, hD.out.drew.cell 7 2 rfl rfl, hD.out.drew.cell 7 3 rfl rfl, trivial⟩)
  refine wpAnyH_take (i := 0) (oi := ⟨_, _, _, _, _, _⟩) (v := ?_) rfl (by kernel_rfl) (by kernel_rfl) (by kernel_rfl) (fun _ _ _ h => h) (Or.inl ⟨by rfl, ?_⟩) hH0 ?_
  rotate_left
  · intro wS hSw; (try dsimp only at hSw); go_simp; try with_reducible rfl
  try simp only [Act.put, List.setIfInBounds_toArray, List.set_cons_zero, List.set_cons_succ]
  refine wpAnyH_take (i := 1) (oi := ⟨_, _, _, _, _, _⟩) (v := ?_) rfl (by kernel_rfl) (by kernel_rfl) (by kernel_rfl) (fun _ _ _ h => h) (Or.inl ⟨by rfl, ?_⟩) hH0 ?_
  rotate_left
  · intro wS hSw; (try dsimp only at hSw); go_simp; try with_reducible rfl
  try simp only [Act.put, List.setIfInBounds_toArray, List.set_cons_zero, List.set_cons_succ]
  refine wpAnyH_take (i := 2) (oi := ⟨_, _, _, _, _, _⟩) (v := ?_) rfl (by kernel_rfl) (by kernel_rfl) (by kernel_rfl) (fun _ _ _ h => h) (Or.inl ⟨by rfl, ?_⟩) hH0 ?_
  rotate_left
  · intro wS hSw; (try dsimp only at hSw); go_simp; try with_reducible rfl
  try simp only [Act.put, List.setIfInBounds_toArray, List.set_cons_zero, List.set_cons_succ]
  refine wpAnyH_take (i := 3) (oi := ⟨_, _, _, _, _, _⟩) (v := ?_) rfl (by kernel_rfl) (by kernel_rfl) (by kernel_rfl) (fun _ _ _ h => h) (Or.inl ⟨by rfl, ?_⟩) hH0 ?_
  rotate_left
  · intro wS hSw; (try dsimp only at hSw); go_simp; try with_reducible rfl
  try simp only [Act.put, List.setIfInBounds_toArray, List.set_cons_zero, List.set_cons_succ]
  refine wpAnyH_take (i := 4) (oi := ⟨_, _, _, _, _, _⟩) (v := ?_) rfl (by kernel_rfl) (by kernel_rfl) (by kernel_rfl) (fun _ _ _ h => h) (Or.inl ⟨by rfl, ?_⟩) hH0 ?_
  rotate_left
  · intro wS hSw; (try dsimp only at hSw); go_simp; try with_reducible rfl
  try simp only [Act.put, List.setIfInBounds_toArray, List.set_cons_zero, List.set_cons_succ]
  refine wpAnyH_take (i := 5) (oi := ⟨_, _, _, _, _, _⟩) (v := ?_) rfl (by kernel_rfl) (by kernel_rfl) (by kernel_rfl) (fun _ _ _ h => h) (Or.inl ⟨by rfl, ?_⟩) hH0 ?_
  rotate_left
  · intro wS hSw; (try dsimp only at hSw); go_simp; try with_reducible rfl
  try simp only [Act.put, List.setIfInBounds_toArray, List.set_cons_zero, List.set_cons_succ]
  refine wpAnyH_ready (rs := [6]) (by kernel_rfl) (by simp) ?_
  refine AllReadyH.cons (o := ⟨_, _, _, _, _, _⟩) rfl (fun Kq hKq => ?_) AllReadyH.nil
  go_simp
  refine hKq.out _ _ ?_ (fun hH1 => ?_)
  · (try dsimp only)
    all_goals (first
      | (with_reducible refine And.intro (?_ : World.cell? (World.drew (World.setCell (World.setCell (World.setCell (World.setCell (World.setCell (World.setCell (World.setCell (World.setCell (World.setCell (World.setCell (World.setCell (World.setCell (World.setCell (World.setCell W _ _) _ _) _ _) _ _) _ _) _ _) _ _) _ _) _ _) _ _) _ _) _ _) _ _) _ _)) _ = _) ?_; exact ((hD.out.set6 2 rfl).set8 3 rfl).drew.cell 4 0 rfl rfl; exact ⟨((hD.out.set6 2 rfl).set8 3 rfl).drew.cell 4 1 rfl rfl, ((hD.out.set6 2 rfl).set8 3 rfl).drew.cell 4 2 rfl rfl, ((hD.out.set6 2 rfl).set8 3 rfl).drew.cell 5 0 rfl rfl, ((hD.out.set6 2 rfl).set8 3 rfl).drew.cell 5 1 rfl rfl, ((hD.out.set6 2 rfl).set8 3 rfl).drew.cell 5 2 rfl rfl, ((hD.out.set6 2 rfl).set8 3 rfl).drew.cell 5 3 rfl rfl, ((hD.out.set6 2 rfl).set8 3 rfl).drew.cell 6 0 rfl rfl, ((hD.out.set6 2 rfl).set8 3 rfl).drew.cell 6 1 rfl rfl, ((hD.out.set6 2 rfl).set8 3 rfl).drew.cell 6 2 rfl rfl, ((hD.out.set6 2 rfl).set8 3 rfl).drew.cell 7 0 rfl rfl, ((hD.out.set6 2 rfl).set8 3 rfl).drew.cell 7 1 rfl rfl, ((hD.out.set6 2 rfl).set8 3 rfl).drew.cell 7 2 rfl rfl, ((hD.out.set6 2 rfl).set8 3 rfl).drew.cell 7 3 rfl rfl, trivial⟩)
      | (with_reducible refine And.intro (?_ : World.cell? (World.drew (World.setCell (World.setCell (World.setCell (World.setCell (World.setCell (World.setCell (World.setCell (World.setCell (World.setCell (World.setCell (World.setCell (World.setCell (World.setCell (World.setCell W _ _) _ _) _ _) _ _) _ _) _ _) _ _) _ _) _ _) _ _) _ _) _ _) _ _) _ _)) _ = _) ?_; exact ((hD.out.set8 3 rfl).set6 2 rfl).drew.cell 4 0 rfl rfl; exact ⟨((hD.out.set8 3 rfl).set6 2 rfl).drew.cell 4 1 rfl rfl, ((hD.out.set8 3 rfl).set6 2 rfl).drew.cell 4 2 rfl rfl, ((hD.out.set8 3 rfl).set6 2 rfl).drew.cell 5 0 rfl rfl, ((hD.out.set8 3 rfl).set6 2 rfl).drew.cell 5 1 rfl rfl, ((hD.out.set8 3 rfl).set6 2 rfl).drew.cell 5 2 rfl rfl, ((hD.out.set8 3 rfl).set6 2 rfl).drew.cell 5 3 rfl rfl, ((hD.out.set8 3 rfl).set6 2 rfl).drew.cell 6 0 rfl rfl, ((hD.out.set8 3 rfl).set6 2 rfl).drew.cell 6 1 rfl rfl, ((hD.out.set8 3 rfl).set6 2 rfl).drew.cell 6 2 rfl rfl, ((hD.out.set8 3 rfl).set6 2 rfl).drew.cell 7 0 rfl rfl, ((hD.out.set8 3 rfl).set6 2 rfl).drew.cell 7 1 rfl rfl, ((hD.out.set8 3 rfl).set6 2 rfl).drew.cell 7 2 rfl rfl, ((hD.out.set8 3 rfl).set6 2 rfl).drew.cell 7 3 rfl rfl, trivial⟩)
      | (with_reducible refine And.intro (?_ : World.cell? (World.drew (World.setCell (World.setCell (World.setCell (World.setCell (World.setCell (World.setCell (World.setCell (World.setCell W _ _) _ _) _ _) _ _) _ _) _ _) _ _) _ _)) _ = _) ?_; exact (hD.out.set8 3 rfl).drew.cell 4 0 rfl rfl; exact ⟨(hD.out.set8 3 rfl).drew.cell 4 1 rfl rfl, (hD.out.set8 3 rfl).drew.cell 4 2 rfl rfl, (hD.out.set8 3 rfl).drew.cell 5 0 rfl rfl, (hD.out.set8 3 rfl).drew.cell 5 1 rfl rfl, (hD.out.set8 3 rfl).drew.cell 5 2 rfl rfl, (hD.out.set8 3 rfl).drew.cell 5 3 rfl rfl, (hD.out.set8 3 rfl).drew.cell 6 0 rfl rfl, (hD.out.set8 3 rfl).drew.cell 6 1 rfl rfl, (hD.out.set8 3 rfl).drew.cell 6 2 rfl rfl, (hD.out.set8 3 rfl).drew.cell 7 0 rfl rfl, (hD.out.set8 3 rfl).drew.cell 7 1 rfl rfl, (hD.out.set8 3 rfl).drew.cell 7 2 rfl rfl, (hD.out.set8 3 rfl).drew.cell 7 3 rfl rfl, trivial⟩)
      | (with_reducible refine And.intro (?_ : World.cell? (World.drew (World.setCell (World.setCell (World.setCell (World.setCell (World.setCell (World.setCell W _ _) _ _) _ _) _ _) _ _) _ _)) _ = _) ?_; exact (hD.out.set6 2 rfl).drew.cell 4 0 rfl rfl; exact ⟨(hD.out.set6 2 rfl).drew.cell 4 1 rfl rfl, (hD.out.set6 2 rfl).drew.cell 4 2 rfl rfl, (hD.out.set6 2 rfl).drew.cell 5 0 rfl rfl, (hD.out.set6 2 rfl).drew.cell 5 1 rfl rfl, (hD.out.set6 2 rfl).drew.cell 5 2 rfl rfl, (hD.out.set6 2 rfl).drew.cell 5 3 rfl rfl, (hD.out.set6 2 rfl).drew.cell 6 0 rfl rfl, (hD.out.set6 2 rfl).drew.cell 6 1 rfl rfl, (hD.out.set6 2 rfl).drew.cell 6 2 rfl rfl, (hD.out.set6 2 rfl).drew.cell 7 0 rfl rfl, (hD.out.set6 2 rfl).drew.cell 7 1 rfl rfl, (hD.out.set6 2 rfl).drew.cell 7 2 rfl rfl, (hD.out.set6 2 rfl).drew.cell 7 3 rfl rfl, trivial⟩)
      | (with_reducible refine And.intro (?_ : World.cell? (World.setCell (World.setCell (World.setCell (World.setCell (World.setCell (World.setCell (World.setCell (World.setCell (World.setCell (World.setCell (World.setCell (World.setCell (World.setCell (World.setCell (World.drew W) _ _) _ _) _ _) _ _) _ _) _ _) _ _) _ _) _ _) _ _) _ _) _ _) _ _) _ _) _ = _) ?_; exact ((hD.out.drew.set6 2 rfl).set8 3 rfl).cell 4 0 rfl rfl; exact ⟨((hD.out.drew.set6 2 rfl).set8 3 rfl).cell 4 1 rfl rfl, ((hD.out.drew.set6 2 rfl).set8 3 rfl).cell 4 2 rfl rfl, ((hD.out.drew.set6 2 rfl).set8 3 rfl).cell 5 0 rfl rfl, ((hD.out.drew.set6 2 rfl).set8 3 rfl).cell 5 1 rfl rfl, ((hD.out.drew.set6 2 rfl).set8 3 rfl).cell 5 2 rfl rfl, ((hD.out.drew.set6 2 rfl).set8 3 rfl).cell 5 3 rfl rfl, ((hD.out.drew.set6 2 rfl).set8 3 rfl).cell 6 0 rfl rfl, ((hD.out.drew.set6 2 rfl).set8 3 rfl).cell 6 1 rfl rfl, ((hD.out.drew.set6 2 rfl).set8 3 rfl).cell 6 2 rfl rfl, ((hD.out.drew.set6 2 rfl).set8 3 rfl).cell 7 0 rfl rfl, ((hD.out.drew.set6 2 rfl).set8 3 rfl).cell 7 1 rfl rfl, ((hD.out.drew.set6 2 rfl).set8 3 rfl).cell 7 2 rfl rfl, ((hD.out.drew.set6 2 rfl).set8 3 rfl).cell 7 3 rfl rfl, trivial⟩)
      | (with_reducible refine And.intro (?_ : World.cell? (World.setCell (World.setCell (World.setCell (World.setCell (World.setCell (World.setCell (World.setCell (World.setCell (World.setCell (World.setCell (World.setCell (World.setCell (World.setCell (World.setCell (World.drew W) _ _) _ _) _ _) _ _) _ _) _ _) _ _) _ _) _ _) _ _) _ _) _ _) _ _) _ _) _ = _) ?_; exact ((hD.out.drew.set8 3 rfl).set6 2 rfl).cell 4 0 rfl rfl; exact ⟨((hD.out.drew.set8 3 rfl).set6 2 rfl).cell 4 1 rfl rfl, ((hD.out.drew.set8 3 rfl).set6 2 rfl).cell 4 2 rfl rfl, ((hD.out.drew.set8 3 rfl).set6 2 rfl).cell 5 0 rfl rfl, ((hD.out.drew.set8 3 rfl).set6 2 rfl).cell 5 1 rfl rfl, ((hD.out.drew.set8 3 rfl).set6 2 rfl).cell 5 2 rfl rfl, ((hD.out.drew.set8 3 rfl).set6 2 rfl).cell 5 3 rfl rfl, ((hD.out.drew.set8 3 rfl).set6 2 rfl).cell 6 0 rfl rfl, ((hD.out.drew.set8 3 rfl).set6 2 rfl).cell 6 1 rfl rfl, ((hD.out.drew.set8 3 rfl).set6 2 rfl).cell 6 2 rfl rfl, ((hD.out.drew.set8 3 rfl).set6 2 rfl).cell 7 0 rfl rfl, ((hD.out.drew.set8 3 rfl).set6 2 rfl).cell 7 1 rfl rfl, ((hD.out.drew.set8 3 rfl).set6 2 rfl).cell 7 2 rfl rfl, ((hD.out.drew.set8 3 rfl).set6 2 rfl).cell 7 3 rfl rfl, trivial⟩)
      | (with_reducible refine And.intro (?_ : World.cell? (World.setCell (World.setCell (World.setCell (World.setCell (World.setCell (World.setCell (World.setCell (World.setCell (World.drew W) _ _) _ _) _ _) _ _) _ _) _ _) _ _) _ _) _ = _) ?_; exact (hD.out.drew.set8 3 rfl).cell 4 0 rfl rfl; exact ⟨(hD.out.drew.set8 3 rfl).cell 4 1 rfl rfl, (hD.out.drew.set8 3 rfl).cell 4 2 rfl rfl, (hD.out.drew.set8 3 rfl).cell 5 0 rfl rfl, (hD.out.drew.set8 3 rfl).cell 5 1 rfl rfl, (hD.out.drew.set8 3 rfl).cell 5 2 rfl rfl, (hD.out.drew.set8 3 rfl).cell 5 3 rfl rfl, (hD.out.drew.set8 3 rfl).cell 6 0 rfl rfl, (hD.out.drew.set8 3 rfl).cell 6 1 rfl rfl, (hD.out.drew.set8 3 rfl).cell 6 2 rfl rfl, (hD.out.drew.set8 3 rfl).cell 7 0 rfl rfl, (hD.out.drew.set8 3 rfl).cell 7 1 rfl rfl, (hD.out.drew.set8 3 rfl).cell 7 2 rfl rfl, (hD.out.drew.set8 3 rfl).cell 7 3 rfl rfl, trivial⟩)
      | (with_reducible refine And.intro (?_ : World.cell? (World.setCell (World.setCell (World.setCell (World.setCell (World.setCell (World.setCell (World.drew W) _ _) _ _) _ _) _ _) _ _) _ _) _ = _) ?_; exact (hD.out.drew.set6 2 rfl).cell 4 0 rfl rfl; exact ⟨(hD.out.drew.set6 2 rfl).cell 4 1 rfl rfl, (hD.out.drew.set6 2 rfl).cell 4 2 rfl rfl, (hD.out.drew.set6 2 rfl).cell 5 0 rfl rfl, (hD.out.drew.set6 2 rfl).cell 5 1 rfl rfl, (hD.out.drew.set6 2 rfl).cell 5 2 rfl rfl, (hD.out.drew.set6 2 rfl).cell 5 3 rfl rfl, (hD.out.drew.set6 2 rfl).cell 6 0 rfl rfl, (hD.out.drew.set6 2 rfl).cell 6 1 rfl rfl, (hD.out.drew.set6 2 rfl).cell 6 2 rfl rfl, (hD.out.drew.set6 2 rfl).cell 7 0 rfl rfl, (hD.out.drew.set6 2 rfl).cell 7 1 rfl rfl, (hD.out.drew.set6 2 rfl).cell 7 2 rfl rfl, (hD.out.drew.set6 2 rfl).cell 7 3 rfl rfl, trivial⟩)
      | fail)
  clear hKq Kq hH0
  try simp only [Act.put, List.setIfInBounds_toArray, List.set_cons_zero, List.set_cons_succ]
  refine wpAnyH_ready (rs := [7]) (by kernel_rfl) (by simp) ?_
  refine AllReadyH.cons (o := ⟨_, _, _, _, _, _⟩) rfl (fun Kq hKq => ?_) AllReadyH.nil
  go_simp
  refine hKq.out _ _ ?_ (fun hH2 => ?_)
  · (try dsimp only)
    all_goals (first
      | (with_reducible refine And.intro (?_ : World.cell? (World.drew (World.setCell (World.setCell (World.setCell (World.setCell (World.setCell (World.setCell (World.setCell (World.setCell (World.setCell (World.setCell (World.setCell (World.setCell (World.setCell (World.setCell W _ _) _ _) _ _) _ _) _ _) _ _) _ _) _ _) _ _) _ _) _ _) _ _) _ _) _ _)) _ = _) ?_; exact ((hD.out.set6 2 rfl).set8 3 rfl).drew.cell 4 0 rfl rfl; exact ⟨((hD.out.set6 2 rfl).set8 3 rfl).drew.cell 4 1 rfl rfl, ((hD.out.set6 2 rfl).set8 3 rfl).drew.cell 4 2 rfl rfl, ((hD.out.set6 2 rfl).set8 3 rfl).drew.cell 5 0 rfl rfl, ((hD.out.set6 2 rfl).set8 3 rfl).drew.cell 5 1 rfl rfl, ((hD.out.set6 2 rfl).set8 3 rfl).drew.cell 5 2 rfl rfl, ((hD.out.set6 2 rfl).set8 3 rfl).drew.cell 5 3 rfl rfl, ((hD.out.set6 2 rfl).set8 3 rfl).drew.cell 6 0 rfl rfl, ((hD.out.set6 2 rfl).set8 3 rfl).drew.cell 6 1 rfl rfl, ((hD.out.set6 2 rfl).set8 3 rfl).drew.cell 6 2 rfl rfl, ((hD.out.set6 2 rfl).set8 3 rfl).drew.cell 7 0 rfl rfl, ((hD.out.set6 2 rfl).set8 3 rfl).drew.cell 7 1 rfl rfl, ((hD.out.set6 2 rfl).set8 3 rfl).drew.cell 7 2 rfl rfl, ((hD.out.set6 2 rfl).set8 3 rfl).drew.cell 7 3 rfl rfl, trivial⟩)
      | (with_reducible refine And.intro (?_ : World.cell? (World.drew (World.setCell (World.setCell (World.setCell (World.setCell (World.setCell (World.setCell (World.setCell (World.setCell (World.setCell (World.setCell (World.setCell (World.setCell (World.setCell (World.setCell W _ _) _ _) _ _) _ _) _ _) _ _) _ _) _ _) _ _) _ _) _ _) _ _) _ _) _ _)) _ = _) ?_; exact ((hD.out.set8 3 rfl).set6 2 rfl).drew.cell 4 0 rfl rfl; exact ⟨((hD.out.set8 3 rfl).set6 2 rfl).drew.cell 4 1 rfl rfl, ((hD.out.set8 3 rfl).set6 2 rfl).drew.cell 4 2 rfl rfl, ((hD.out.set8 3 rfl).set6 2 rfl).drew.cell 5 0 rfl rfl, ((hD.out.set8 3 rfl).set6 2 rfl).drew.cell 5 1 rfl rfl, ((hD.out.set8 3 rfl).set6 2 rfl).drew.cell 5 2 rfl rfl, ((hD.out.set8 3 rfl).set6 2 rfl).drew.cell 5 3 rfl rfl, ((hD.out.set8 3 rfl).set6 2 rfl).drew.cell 6 0 rfl rfl, ((hD.out.set8 3 rfl).set6 2 rfl).drew.cell 6 1 rfl rfl, ((hD.out.set8 3 rfl).set6 2 rfl).drew.cell 6 2 rfl rfl, ((hD.out.set8 3 rfl).set6 2 rfl).drew.cell 7 0 rfl rfl, ((hD.out.set8 3 rfl).set6 2 rfl).drew.cell 7 1 rfl rfl, ((hD.out.set8 3 rfl).set6 2 rfl).drew.cell 7 2 rfl rfl, ((hD.out.set8 3 rfl).set6 2 rfl).drew.cell 7 3 rfl rfl, trivial⟩)
      | (with_reducible refine And.intro (?_ : World.cell? (World.drew (World.setCell (World.setCell (World.setCell (World.setCell (World.setCell (World.setCell (World.setCell (World.setCell W _ _) _ _) _ _) _ _) _ _) _ _) _ _) _ _)) _ = _) ?_; exact (hD.out.set8 3 rfl).drew.cell 4 0 rfl rfl; exact ⟨(hD.out.set8 3 rfl).drew.cell 4 1 rfl rfl, (hD.out.set8 3 rfl).drew.cell 4 2 rfl rfl, (hD.out.set8 3 rfl).drew.cell 5 0 rfl rfl, (hD.out.set8 3 rfl).drew.cell 5 1 rfl rfl, (hD.out.set8 3 rfl).drew.cell 5 2 rfl rfl, (hD.out.set8 3 rfl).drew.cell 5 3 rfl rfl, (hD.out.set8 3 rfl).drew.cell 6 0 rfl rfl, (hD.out.set8 3 rfl).drew.cell 6 1 rfl rfl, (hD.out.set8 3 rfl).drew.cell 6 2 rfl rfl, (hD.out.set8 3 rfl).drew.cell 7 0 rfl rfl, (hD.out.set8 3 rfl).drew.cell 7 1 rfl rfl, (hD.out.set8 3 rfl).drew.cell 7 2 rfl rfl, (hD.out.set8 3 rfl).drew.cell 7 3 rfl rfl, trivial⟩)
      | (with_reducible refine And.intro (?_ : World.cell? (World.drew (World.setCell (World.setCell (World.setCell (World.setCell (World.setCell (World.setCell W _ _) _ _) _ _) _ _) _ _) _ _)) _ = _) ?_; exact (hD.out.set6 2 rfl).drew.cell 4 0 rfl rfl; exact ⟨(hD.out.set6 2 rfl).drew.cell 4 1 rfl rfl, (hD.out.set6 2 rfl).drew.cell 4 2 rfl rfl, (hD.out.set6 2 rfl).drew.cell 5 0 rfl rfl, (hD.out.set6 2 rfl).drew.cell 5 1 rfl rfl, (hD.out.set6 2 rfl).drew.cell 5 2 rfl rfl, (hD.out.set6 2 rfl).drew.cell 5 3 rfl rfl, (hD.out.set6 2 rfl).drew.cell 6 0 rfl rfl, (hD.out.set6 2 rfl).drew.cell 6 1 rfl rfl, (hD.out.set6 2 rfl).drew.cell 6 2 rfl rfl, (hD.out.set6 2 rfl).drew.cell 7 0 rfl rfl, (hD.out.set6 2 rfl).drew.cell 7 1 rfl rfl, (hD.out.set6 2 rfl).drew.cell 7 2 rfl rfl, (hD.out.set6 2 rfl).drew.cell 7 3 rfl rfl, trivial⟩)
      | (with_reducible refine And.intro (?_ : World.cell? (World.setCell (World.setCell (World.setCell (World.setCell (World.setCell (World.setCell (World.setCell (World.setCell (World.setCell (World.setCell (World.setCell (World.setCell (World.setCell (World.setCell (World.drew W) _ _) _ _) _ _) _ _) _ _) _ _) _ _) _ _) _ _) _ _) _ _) _ _) _ _) _ _) _ = _) ?_; exact ((hD.out.drew.set6 2 rfl).set8 3 rfl).cell 4 0 rfl rfl; exact ⟨((hD.out.drew.set6 2 rfl).set8 3 rfl).cell 4 1 rfl rfl, ((hD.out.drew.set6 2 rfl).set8 3 rfl).cell 4 2 rfl rfl, ((hD.out.drew.set6 2 rfl).set8 3 rfl).cell 5 0 rfl rfl, ((hD.out.drew.set6 2 rfl).set8 3 rfl).cell 5 1 rfl rfl, ((hD.out.drew.set6 2 rfl).set8 3 rfl).cell 5 2 rfl rfl, ((hD.out.drew.set6 2 rfl).set8 3 rfl).cell 5 3 rfl rfl, ((hD.out.drew.set6 2 rfl).set8 3 rfl).cell 6 0 rfl rfl, ((hD.out.drew.set6 2 rfl).set8 3 rfl).cell 6 1 rfl rfl, ((hD.out.drew.set6 2 rfl).set8 3 rfl).cell 6 2 rfl rfl, ((hD.out.drew.set6 2 rfl).set8 3 rfl).cell 7 0 rfl rfl, ((hD.out.drew.set6 2 rfl).set8 3 rfl).cell 7 1 rfl rfl, ((hD.out.drew.set6 2 rfl).set8 3 rfl).cell 7 2 rfl rfl, ((hD.out.drew.set6 2 rfl).set8 3 rfl).cell 7 3 rfl rfl, trivial⟩)
      | (with_reducible refine And.intro (?_ : World.cell? (World.setCell (World.setCell (World.setCell (World.setCell (World.setCell (World.setCell (World.setCell (World.setCell (World.setCell (World.setCell (World.setCell (World.setCell (World.setCell (World.setCell (World.drew W) _ _) _ _) _ _) _ _) _ _) _ _) _ _) _ _) _ _) _ _) _ _) _ _) _ _) _ _) _ = _) ?_; exact ((hD.out.drew.set8 3 rfl).set6 2 rfl).cell 4 0 rfl rfl; exact ⟨((hD.out.drew.set8 3 rfl).set6 2 rfl).cell 4 1 rfl rfl, ((hD.out.drew.set8 3 rfl).set6 2 rfl).cell 4 2 rfl rfl, ((hD.out.drew.set8 3 rfl).set6 2 rfl).cell 5 0 rfl rfl, ((hD.out.drew.set8 3 rfl).set6 2 rfl).cell 5 1 rfl rfl, ((hD.out.drew.set8 3 rfl).set6 2 rfl).cell 5 2 rfl rfl, ((hD.out.drew.set8 3 rfl).set6 2 rfl).cell 5 3 rfl rfl, ((hD.out.drew.set8 3 rfl).set6 2 rfl).cell 6 0 rfl rfl, ((hD.out.drew.set8 3 rfl).set6 2 rfl).cell 6 1 rfl rfl, ((hD.out.drew.set8 3 rfl).set6 2 rfl).cell 6 2 rfl rfl, ((hD.out.drew.set8 3 rfl).set6 2 rfl).cell 7 0 rfl rfl, ((hD.out.drew.set8 3 rfl).set6 2 rfl).cell 7 1 rfl rfl, ((hD.out.drew.set8 3 rfl).set6 2 rfl).cell 7 2 rfl rfl, ((hD.out.drew.set8 3 rfl).set6 2 rfl).cell 7 3 rfl rfl, trivial⟩)
      | (with_reducible refine And.intro (?_ : World.cell? (World.setCell (World.setCell (World.setCell (World.setCell (World.setCell (World.setCell (World.setCell (World.setCell (World.drew W) _ _) _ _) _ _) _ _) _ _) _ _) _ _) _ _) _ = _) ?_; exact (hD.out.drew.set8 3 rfl).cell 4 0 rfl rfl; exact ⟨(hD.out.drew.set8 3 rfl).cell 4 1 rfl rfl, (hD.out.drew.set8 3 rfl).cell 4 2 rfl rfl, (hD.out.drew.set8 3 rfl).cell 5 0 rfl rfl, (hD.out.drew.set8 3 rfl).cell 5 1 rfl rfl, (hD.out.drew.set8 3 rfl).cell 5 2 rfl rfl, (hD.out.drew.set8 3 rfl).cell 5 3 rfl rfl, (hD.out.drew.set8 3 rfl).cell 6 0 rfl rfl, (hD.out.drew.set8 3 rfl).cell 6 1 rfl rfl, (hD.out.drew.set8 3 rfl).cell 6 2 rfl rfl, (hD.out.drew.set8 3 rfl).cell 7 0 rfl rfl, (hD.out.drew.set8 3 rfl).cell 7 1 rfl rfl, (hD.out.drew.set8 3 rfl).cell 7 2 rfl rfl, (hD.out.drew.set8 3 rfl).cell 7 3 rfl rfl, trivial⟩)
      | (with_reducible refine And.intro (?_ : World.cell? (World.setCell (World.setCell (World.setCell (World.setCell (World.setCell (World.setCell (World.drew W) _ _) _ _) _ _) _ _) _ _) _ _) _ = _) ?_; exact (hD.out.drew.set6 2 rfl).cell 4 0 rfl rfl; exact ⟨(hD.out.drew.set6 2 rfl).cell 4 1 rfl rfl, (hD.out.drew.set6 2 rfl).cell 4 2 rfl rfl, (hD.out.drew.set6 2 rfl).cell 5 0 rfl rfl, (hD.out.drew.set6 2 rfl).cell 5 1 rfl rfl, (hD.out.drew.set6 2 rfl).cell 5 2 rfl rfl, (hD.out.drew.set6 2 rfl).cell 5 3 rfl rfl, (hD.out.drew.set6 2 rfl).cell 6 0 rfl rfl, (hD.out.drew.set6 2 rfl).cell 6 1 rfl rfl, (hD.out.drew.set6 2 rfl).cell 6 2 rfl rfl, (hD.out.drew.set6 2 rfl).cell 7 0 rfl rfl, (hD.out.drew.set6 2 rfl).cell 7 1 rfl rfl, (hD.out.drew.set6 2 rfl).cell 7 2 rfl rfl, (hD.out.drew.set6 2 rfl).cell 7 3 rfl rfl, trivial⟩)
      | fail)
  clear hKq Kq hH1
  try simp only [Act.put, List.setIfInBounds_toArray, List.set_cons_zero, List.set_cons_succ]
  refine wpAnyH_done (by kernel_rfl) ?_ _
  go_wp2
  first
    | (refine ret_st ((hD.out.set6 2 rfl).set8 3 rfl).drew (v := .tuple #[.agg #[.slice a1 n1 c1, .bool m1, .slice d1 e1 f1, .slice a2 n2 c2, .bool m2, .slice d2 e2 f2], .agg #[.int .i64 s11, .slice a11 n11 c11, .int .i64 t11, .slice d11 e11 f11, .int .i64 s12, .slice a12 n12 c12, .int .i64 t12, .slice d12 e12 f12]]) (fun hF => ?_) rfl (fun hF => ⟨_, _, _, _, _, _, _, _, _, _, _, _, _, _, _, _, _, _, _, _, _, _, _, _, _, _, _, _, _, _, rfl, ⟨hF.r 0 rfl, hF.r 2 rfl⟩, ⟨hF.rq 1 rfl, hF.rq 3 rfl⟩, hF.be⟩); have e0 := hF.cell 2 0 rfl rfl; have e1 := hF.cell 2 1 rfl rfl; have e2 := hF.cell 2 2 rfl rfl; have e3 := hF.cell 2 3 rfl rfl; have e4 := hF.cell 2 4 rfl rfl; have e5 := hF.cell 2 5 rfl rfl; have e6 := hF.cell 3 0 rfl rfl; have e7 := hF.cell 3 1 rfl rfl; have e8 := hF.cell 3 2 rfl rfl; have e9 := hF.cell 3 3 rfl rfl; have e10 := hF.cell 3 4 rfl rfl; have e11 := hF.cell 3 5 rfl rfl; have e12 := hF.cell 3 6 rfl rfl; have e13 := hF.cell 3 7 rfl rfl; simp [results, Tryz.results84, go_sem, e0, e1, e2, e3, e4, e5, e6, e7, e8, e9, e10, e11, e12, e13])
    | (refine ret_st ((hD.out.set8 3 rfl).set6 2 rfl).drew (v := .tuple #[.agg #[.slice a1 n1 c1, .bool m1, .slice d1 e1 f1, .slice a2 n2 c2, .bool m2, .slice d2 e2 f2], .agg #[.int .i64 s11, .slice a11 n11 c11, .int .i64 t11, .slice d11 e11 f11, .int .i64 s12, .slice a12 n12 c12, .int .i64 t12, .slice d12 e12 f12]]) (fun hF => ?_) rfl (fun hF => ⟨_, _, _, _, _, _, _, _, _, _, _, _, _, _, _, _, _, _, _, _, _, _, _, _, _, _, _, _, _, _, rfl, ⟨hF.r 0 rfl, hF.r 2 rfl⟩, ⟨hF.rq 1 rfl, hF.rq 3 rfl⟩, hF.be⟩); have e0 := hF.cell 2 0 rfl rfl; have e1 := hF.cell 2 1 rfl rfl; have e2 := hF.cell 2 2 rfl rfl; have e3 := hF.cell 2 3 rfl rfl; have e4 := hF.cell 2 4 rfl rfl; have e5 := hF.cell 2 5 rfl rfl; have e6 := hF.cell 3 0 rfl rfl; have e7 := hF.cell 3 1 rfl rfl; have e8 := hF.cell 3 2 rfl rfl; have e9 := hF.cell 3 3 rfl rfl; have e10 := hF.cell 3 4 rfl rfl; have e11 := hF.cell 3 5 rfl rfl; have e12 := hF.cell 3 6 rfl rfl; have e13 := hF.cell 3 7 rfl rfl; simp [results, Tryz.results84, go_sem, e0, e1, e2, e3, e4, e5, e6, e7, e8, e9, e10, e11, e12, e13])
    | (refine ret_st ((hD.out.drew.set6 2 rfl).set8 3 rfl) (v := .tuple #[.agg #[.slice a1 n1 c1, .bool m1, .slice d1 e1 f1, .slice a2 n2 c2, .bool m2, .slice d2 e2 f2], .agg #[.int .i64 s11, .slice a11 n11 c11, .int .i64 t11, .slice d11 e11 f11, .int .i64 s12, .slice a12 n12 c12, .int .i64 t12, .slice d12 e12 f12]]) (fun hF => ?_) rfl (fun hF => ⟨_, _, _, _, _, _, _, _, _, _, _, _, _, _, _, _, _, _, _, _, _, _, _, _, _, _, _, _, _, _, rfl, ⟨hF.r 0 rfl, hF.r 2 rfl⟩, ⟨hF.rq 1 rfl, hF.rq 3 rfl⟩, hF.be⟩); have e0 := hF.cell 2 0 rfl rfl; have e1 := hF.cell 2 1 rfl rfl; have e2 := hF.cell 2 2 rfl rfl; have e3 := hF.cell 2 3 rfl rfl; have e4 := hF.cell 2 4 rfl rfl; have e5 := hF.cell 2 5 rfl rfl; have e6 := hF.cell 3 0 rfl rfl; have e7 := hF.cell 3 1 rfl rfl; have e8 := hF.cell 3 2 rfl rfl; have e9 := hF.cell 3 3 rfl rfl; have e10 := hF.cell 3 4 rfl rfl; have e11 := hF.cell 3 5 rfl rfl; have e12 := hF.cell 3 6 rfl rfl; have e13 := hF.cell 3 7 rfl rfl; simp [results, Tryz.results84, go_sem, e0, e1, e2, e3, e4, e5, e6, e7, e8, e9, e10, e11, e12, e13])
    | (refine ret_st ((hD.out.drew.set8 3 rfl).set6 2 rfl) (v := .tuple #[.agg #[.slice a1 n1 c1, .bool m1, .slice d1 e1 f1, .slice a2 n2 c2, .bool m2, .slice d2 e2 f2], .agg #[.int .i64 s11, .slice a11 n11 c11, .int .i64 t11, .slice d11 e11 f11, .int .i64 s12, .slice a12 n12 c12, .int .i64 t12, .slice d12 e12 f12]]) (fun hF => ?_) rfl (fun hF => ⟨_, _, _, _, _, _, _, _, _, _, _, _, _, _, _, _, _, _, _, _, _, _, _, _, _, _, _, _, _, _, rfl, ⟨hF.r 0 rfl, hF.r 2 rfl⟩, ⟨hF.rq 1 rfl, hF.rq 3 rfl⟩, hF.be⟩); have e0 := hF.cell 2 0 rfl rfl; have e1 := hF.cell 2 1 rfl rfl; have e2 := hF.cell 2 2 rfl rfl; have e3 := hF.cell 2 3 rfl rfl; have e4 := hF.cell 2 4 rfl rfl; have e5 := hF.cell 2 5 rfl rfl; have e6 := hF.cell 3 0 rfl rfl; have e7 := hF.cell 3 1 rfl rfl; have e8 := hF.cell 3 2 rfl rfl; have e9 := hF.cell 3 3 rfl rfl; have e10 := hF.cell 3 4 rfl rfl; have e11 := hF.cell 3 5 rfl rfl; have e12 := hF.cell 3 6 rfl rfl; have e13 := hF.cell 3 7 rfl rfl; simp [results, Tryz.results84, go_sem, e0, e1, e2, e3, e4, e5, e6, e7, e8, e9, e10, e11, e12, e13])

end Go.Proofs.YtmfplelodnoicaaGreatDoor

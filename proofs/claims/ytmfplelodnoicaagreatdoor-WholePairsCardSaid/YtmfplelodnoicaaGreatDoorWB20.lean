/- the reference's contracts on pairs as laws want them; SameV -/
import Derived.Test.YtmfplelodnoicaaGreatDoorWB13
import Derived.Test.YtmfplelodnoicaaGreatDoorWB8
import Derived.Test.YtmfplelodnoicaaGreatDoorWN24
namespace Go.Proofs.YtmfplelodnoicaaGreatDoor
open Go.RowKit Dig

theorem vaddN_b {w : World} {s1 : Int} {a1 : Option Addr} {n1 c1 : Nat} {t1 : Int} {d1 : Option Addr} {e1 f1 : Nat} {p1 : Int} {u1 : Option Addr} {x1 y1 : Nat} {g1 : Int} {i1 : Option Addr} {o1 l1 : Nat} {v1 : Rat × Rat} {s2 : Int} {a2 : Option Addr} {n2 c2 : Nat} {t2 : Int} {d2 : Option Addr} {e2 f2 : Nat} {p2 : Int} {u2 : Option Addr} {x2 y2 : Nat} {g2 : Int} {i2 : Option Addr} {o2 l2 : Nat} {v2 : Rat × Rat} {k1 k2 : Nat} (h1 : Nv w s1 (.slice a1 n1 c1) t1 (.slice d1 e1 f1) p1 (.slice u1 x1 y1) g1 (.slice i1 o1 l1) v1) (h2 : Nv w s2 (.slice a2 n2 c2) t2 (.slice d2 e2 f2) p2 (.slice u2 x2 y2) g2 (.slice i2 o2 l2) v2) (b1 : Bv k1 v1) (b2 : Bv k2 v2) (hk1 : k1 ≤ 10000) (hk2 : k2 ≤ 10000) :
    Calls Tryz.prog 87 #[.agg #[.int .i64 s1, .slice a1 n1 c1, .int .i64 t1, .slice d1 e1 f1, .int .i64 p1, .slice u1 x1 y1, .int .i64 g1, .slice i1 o1 l1], .agg #[.int .i64 s2, .slice a2 n2 c2, .int .i64 t2, .slice d2 e2 f2, .int .i64 p2, .slice u2 x2 y2, .int .i64 g2, .slice i2 o2 l2]] w (RetNV w (v1.1 + v2.1, v1.2 + v2.2)) := vaddN_any _ _ _ _ _ _ _ _ _ _ _ _ _ _ _ _ _ _ _ _ _ _ _ _ _ _ _ _ _ _ _ _ _ _ _ h1 h2 _ _ b1 b2 hk1 hk2
theorem vsubN_b {w : World} {s1 : Int} {a1 : Option Addr} {n1 c1 : Nat} {t1 : Int} {d1 : Option Addr} {e1 f1 : Nat} {p1 : Int} {u1 : Option Addr} {x1 y1 : Nat} {g1 : Int} {i1 : Option Addr} {o1 l1 : Nat} {v1 : Rat × Rat} {s2 : Int} {a2 : Option Addr} {n2 c2 : Nat} {t2 : Int} {d2 : Option Addr} {e2 f2 : Nat} {p2 : Int} {u2 : Option Addr} {x2 y2 : Nat} {g2 : Int} {i2 : Option Addr} {o2 l2 : Nat} {v2 : Rat × Rat} {k1 k2 : Nat} (h1 : Nv w s1 (.slice a1 n1 c1) t1 (.slice d1 e1 f1) p1 (.slice u1 x1 y1) g1 (.slice i1 o1 l1) v1) (h2 : Nv w s2 (.slice a2 n2 c2) t2 (.slice d2 e2 f2) p2 (.slice u2 x2 y2) g2 (.slice i2 o2 l2) v2) (b1 : Bv k1 v1) (b2 : Bv k2 v2) (hk1 : k1 ≤ 10000) (hk2 : k2 ≤ 10000) :
    Calls Tryz.prog 89 #[.agg #[.int .i64 s1, .slice a1 n1 c1, .int .i64 t1, .slice d1 e1 f1, .int .i64 p1, .slice u1 x1 y1, .int .i64 g1, .slice i1 o1 l1], .agg #[.int .i64 s2, .slice a2 n2 c2, .int .i64 t2, .slice d2 e2 f2, .int .i64 p2, .slice u2 x2 y2, .int .i64 g2, .slice i2 o2 l2]] w (RetNV w (v1.1 - v2.1, v1.2 - v2.2)) := vsubN_any _ _ _ _ _ _ _ _ _ _ _ _ _ _ _ _ _ _ _ _ _ _ _ _ _ _ _ _ _ _ _ _ _ _ _ h1 h2 _ _ b1 b2 hk1 hk2
theorem vscaleN_b {w : World} {s1 : Int} {a1 : Option Addr} {n1 c1 : Nat} {t1 : Int} {d1 : Option Addr} {e1 f1 : Nat} {p1 : Int} {u1 : Option Addr} {x1 y1 : Nat} {g1 : Int} {i1 : Option Addr} {o1 l1 : Nat} {v1 : Rat × Rat} {s2 : Int} {a2 : Option Addr} {n2 c2 : Nat} {t2 : Int} {d2 : Option Addr} {e2 f2 : Nat} {q2 : Rat} {k1 k2 : Nat} (h1 : Nv w s1 (.slice a1 n1 c1) t1 (.slice d1 e1 f1) p1 (.slice u1 x1 y1) g1 (.slice i1 o1 l1) v1) (h2 : Nq w s2 (.slice a2 n2 c2) t2 (.slice d2 e2 f2) q2) (b1 : Bv k1 v1) (b2 : Bq k2 q2) (hk1 : k1 ≤ 10000) (hk2 : k2 ≤ 10000) :
    Calls Tryz.prog 91 #[.agg #[.int .i64 s1, .slice a1 n1 c1, .int .i64 t1, .slice d1 e1 f1, .int .i64 p1, .slice u1 x1 y1, .int .i64 g1, .slice i1 o1 l1], .agg #[.int .i64 s2, .slice a2 n2 c2, .int .i64 t2, .slice d2 e2 f2]] w (RetNV w (v1.1 * q2, v1.2 * q2)) := vscaleN_any _ _ _ _ _ _ _ _ _ _ _ _ _ _ _ _ _ _ _ _ _ _ _ _ _ _ _ h1 h2 _ _ b1 b2 hk1 hk2
theorem vdotN_b {w : World} {s1 : Int} {a1 : Option Addr} {n1 c1 : Nat} {t1 : Int} {d1 : Option Addr} {e1 f1 : Nat} {p1 : Int} {u1 : Option Addr} {x1 y1 : Nat} {g1 : Int} {i1 : Option Addr} {o1 l1 : Nat} {v1 : Rat × Rat} {s2 : Int} {a2 : Option Addr} {n2 c2 : Nat} {t2 : Int} {d2 : Option Addr} {e2 f2 : Nat} {p2 : Int} {u2 : Option Addr} {x2 y2 : Nat} {g2 : Int} {i2 : Option Addr} {o2 l2 : Nat} {v2 : Rat × Rat} {k1 k2 : Nat} (h1 : Nv w s1 (.slice a1 n1 c1) t1 (.slice d1 e1 f1) p1 (.slice u1 x1 y1) g1 (.slice i1 o1 l1) v1) (h2 : Nv w s2 (.slice a2 n2 c2) t2 (.slice d2 e2 f2) p2 (.slice u2 x2 y2) g2 (.slice i2 o2 l2) v2) (b1 : Bv k1 v1) (b2 : Bv k2 v2) (hk1 : k1 ≤ 10000) (hk2 : k2 ≤ 10000) :
    Calls Tryz.prog 93 #[.agg #[.int .i64 s1, .slice a1 n1 c1, .int .i64 t1, .slice d1 e1 f1, .int .i64 p1, .slice u1 x1 y1, .int .i64 g1, .slice i1 o1 l1], .agg #[.int .i64 s2, .slice a2 n2 c2, .int .i64 t2, .slice d2 e2 f2, .int .i64 p2, .slice u2 x2 y2, .int .i64 g2, .slice i2 o2 l2]] w (RetNQ w (v1.1 * v2.1 + v1.2 * v2.2)) := vdotN_any _ _ _ _ _ _ _ _ _ _ _ _ _ _ _ _ _ _ _ _ _ _ _ _ _ _ _ _ _ _ _ _ _ _ _ h1 h2 _ _ b1 b2 hk1 hk2
theorem vcrossN_b {w : World} {s1 : Int} {a1 : Option Addr} {n1 c1 : Nat} {t1 : Int} {d1 : Option Addr} {e1 f1 : Nat} {p1 : Int} {u1 : Option Addr} {x1 y1 : Nat} {g1 : Int} {i1 : Option Addr} {o1 l1 : Nat} {v1 : Rat × Rat} {s2 : Int} {a2 : Option Addr} {n2 c2 : Nat} {t2 : Int} {d2 : Option Addr} {e2 f2 : Nat} {p2 : Int} {u2 : Option Addr} {x2 y2 : Nat} {g2 : Int} {i2 : Option Addr} {o2 l2 : Nat} {v2 : Rat × Rat} {k1 k2 : Nat} (h1 : Nv w s1 (.slice a1 n1 c1) t1 (.slice d1 e1 f1) p1 (.slice u1 x1 y1) g1 (.slice i1 o1 l1) v1) (h2 : Nv w s2 (.slice a2 n2 c2) t2 (.slice d2 e2 f2) p2 (.slice u2 x2 y2) g2 (.slice i2 o2 l2) v2) (b1 : Bv k1 v1) (b2 : Bv k2 v2) (hk1 : k1 ≤ 10000) (hk2 : k2 ≤ 10000) :
    Calls Tryz.prog 95 #[.agg #[.int .i64 s1, .slice a1 n1 c1, .int .i64 t1, .slice d1 e1 f1, .int .i64 p1, .slice u1 x1 y1, .int .i64 g1, .slice i1 o1 l1], .agg #[.int .i64 s2, .slice a2 n2 c2, .int .i64 t2, .slice d2 e2 f2, .int .i64 p2, .slice u2 x2 y2, .int .i64 g2, .slice i2 o2 l2]] w (RetNQ w (v1.1 * v2.2 - v1.2 * v2.1)) := vcrossN_any _ _ _ _ _ _ _ _ _ _ _ _ _ _ _ _ _ _ _ _ _ _ _ _ _ _ _ _ _ _ _ _ _ _ _ h1 h2 _ _ b1 b2 hk1 hk2
theorem vsameN_is {w : World} {s1 : Int} {a1 : Option Addr} {n1 c1 : Nat} {t1 : Int} {d1 : Option Addr} {e1 f1 : Nat} {p1 : Int} {u1 : Option Addr} {x1 y1 : Nat} {g1 : Int} {i1 : Option Addr} {o1 l1 : Nat} {v1 : Rat × Rat} {s2 : Int} {a2 : Option Addr} {n2 c2 : Nat} {t2 : Int} {d2 : Option Addr} {e2 f2 : Nat} {p2 : Int} {u2 : Option Addr} {x2 y2 : Nat} {g2 : Int} {i2 : Option Addr} {o2 l2 : Nat} {v2 : Rat × Rat} {k1 k2 : Nat} {o : Bool} (h1 : Nv w s1 (.slice a1 n1 c1) t1 (.slice d1 e1 f1) p1 (.slice u1 x1 y1) g1 (.slice i1 o1 l1) v1) (h2 : Nv w s2 (.slice a2 n2 c2) t2 (.slice d2 e2 f2) p2 (.slice u2 x2 y2) g2 (.slice i2 o2 l2) v2) (b1 : Bv k1 v1) (b2 : Bv k2 v2) (hk1 : k1 ≤ 10000) (hk2 : k2 ≤ 10000) (ho : sameP v1 v2 = o) :
    Calls Tryz.prog 97 #[.agg #[.int .i64 s1, .slice a1 n1 c1, .int .i64 t1, .slice d1 e1 f1, .int .i64 p1, .slice u1 x1 y1, .int .i64 g1, .slice i1 o1 l1], .agg #[.int .i64 s2, .slice a2 n2 c2, .int .i64 t2, .slice d2 e2 f2, .int .i64 p2, .slice u2 x2 y2, .int .i64 g2, .slice i2 o2 l2]] w fun e w' => e = .returned (.bool o) ∧ Below w.heap.size w w' := by
  unfold sameP at ho
  by_cases h : cmpQ v1.1 v2.1 = 0
  · have e : (cmpQ v1.1 v2.1 == 0) = true := by simpa using h
    rw [e, Bool.true_and] at ho
    rw [← ho]
    exact vsameN_yes _ _ _ _ _ _ _ _ _ _ _ _ _ _ _ _ _ _ _ _ _ _ _ _ _ _ _ _ _ _ _ _ _ _ _ h1 h2 _ _ b1 b2 hk1 hk2 h _ rfl
  · have e : (cmpQ v1.1 v2.1 == 0) = false := by simpa using h
    rw [e, Bool.false_and] at ho
    rw [← ho]
    exact vsameN_no _ _ _ _ _ _ _ _ _ _ _ _ _ _ _ _ _ _ _ _ _ _ _ _ _ _ _ _ _ _ _ _ _ _ _ h1 h2 _ _ b1 b2 hk1 hk2 _ rfl e
theorem vtextN_is {w : World} {s1 : Int} {a1 : Option Addr} {n1 c1 : Nat} {t1 : Int} {d1 : Option Addr} {e1 f1 : Nat} {p1 : Int} {u1 : Option Addr} {x1 y1 : Nat} {g1 : Int} {i1 : Option Addr} {o1 l1 : Nat} {v1 : Rat × Rat} {k1 : Nat} (h1 : Nv w s1 (.slice a1 n1 c1) t1 (.slice d1 e1 f1) p1 (.slice u1 x1 y1) g1 (.slice i1 o1 l1) v1) (b1 : Bv k1 v1) (hk1 : k1 ≤ 10000) {B : ByteArray} (hB : vtext v1 = B.data.toList) :
    Calls Tryz.prog 99 #[.agg #[.int .i64 s1, .slice a1 n1 c1, .int .i64 t1, .slice d1 e1 f1, .int .i64 p1, .slice u1 x1 y1, .int .i64 g1, .slice i1 o1 l1]] w fun e w' => e = .returned (.string B) ∧ Below w.heap.size w w' := by
  have := vtextN_any _ _ _ _ _ _ _ _ _ _ _ _ _ _ _ _ _ _ h1 _ b1 hk1
  rw [ba_of hB] at this
  exact this
set_option maxRecDepth 100000 in
set_option maxHeartbeats 1000000 in
theorem sameV_any (a1 : Option Addr) (n1 c1 : Nat) (m1 : Bool) (d1 : Option Addr) (e1 f1 : Nat) (u1 : Option Addr) (x1 y1 : Nat) (p1 : Bool) (t1 : Option Addr) (o1 l1 : Nat) (v1 : Rat × Rat) (s2 : Int) (a2 : Option Addr) (n2 c2 : Nat) (t2 : Int) (d2 : Option Addr) (e2 f2 : Nat) (p2 : Int) (u2 : Option Addr) (x2 y2 : Nat) (g2 : Int) (i2 : Option Addr) (o2 l2 : Nat)  (w : World) (h1 : Vd w (.slice a1 n1 c1) m1 (.slice d1 e1 f1) (.slice u1 x1 y1) p1 (.slice t1 o1 l1) v1) (h2 : Nv w s2 (.slice a2 n2 c2) t2 (.slice d2 e2 f2) p2 (.slice u2 x2 y2) g2 (.slice i2 o2 l2) v1) (k1 : Nat) (b1 : Bv k1 v1) (hk1 : k1 ≤ 10000) :
    Calls Tryz.prog 85 #[.agg #[.slice a1 n1 c1, .bool m1, .slice d1 e1 f1, .slice u1 x1 y1, .bool p1, .slice t1 o1 l1], .agg #[.int .i64 s2, .slice a2 n2 c2, .int .i64 t2, .slice d2 e2 f2, .int .i64 p2, .slice u2 x2 y2, .int .i64 g2, .slice i2 o2 l2]] w (fun e w' => e = .returned (.bool true) ∧ Below w.heap.size w w') := by
  have B1 := Lib.hid b1
  clear b1
  have hC := Lib.hid (((((St.enter w).pv h1).pp h2).al (w.heap.size) #[.slice a1 n1 c1, .bool m1, .slice d1 e1 f1, .slice u1 x1 y1, .bool p1, .slice t1 o1 l1] 103 rfl rfl).al (w.heap.size + 1) #[.int .i64 s2, .slice a2 n2 c2, .int .i64 t2, .slice d2 e2 f2, .int .i64 p2, .slice u2 x2 y2, .int .i64 g2, .slice i2 o2 l2] 105 (by simp) rfl)
  clear h1 h2
  go_enter Tryz.func85, Tryz.ntmps85
  have hC_c00 := hC.out.cell 0 0 rfl rfl
  have hC_f00 := hC.out.free 0 0 rfl
  have hC_c01 := hC.out.cell 0 1 rfl rfl
  have hC_f01 := hC.out.free 0 1 rfl
  have hC_c02 := hC.out.cell 0 2 rfl rfl
  have hC_f02 := hC.out.free 0 2 rfl
  have hC_c10 := hC.out.cell 1 0 rfl rfl
  have hC_f10 := hC.out.free 1 0 rfl
  have hC_c11 := hC.out.cell 1 1 rfl rfl
  have hC_f11 := hC.out.free 1 1 rfl
  have hC_c12 := hC.out.cell 1 2 rfl rfl
  have hC_f12 := hC.out.free 1 2 rfl
  have hC_c13 := hC.out.cell 1 3 rfl rfl
  have hC_f13 := hC.out.free 1 3 rfl
  go_wp2_with fail
  refine (same_b (hC.out.v 0 rfl).x (hC.out.vp 1 rfl).x B1.out.1 (by omega)).mono ?_
  rintro e w3 ⟨rfl, hb⟩
  have hC3 := Lib.hid (hC.out.call hb)
  clear hb hC
  have hC3_c03 := hC3.out.cell 0 3 rfl rfl
  have hC3_f03 := hC3.out.free 0 3 rfl
  have hC3_c04 := hC3.out.cell 0 4 rfl rfl
  have hC3_f04 := hC3.out.free 0 4 rfl
  have hC3_c05 := hC3.out.cell 0 5 rfl rfl
  have hC3_f05 := hC3.out.free 0 5 rfl
  have hC3_c14 := hC3.out.cell 1 4 rfl rfl
  have hC3_f14 := hC3.out.free 1 4 rfl
  have hC3_c15 := hC3.out.cell 1 5 rfl rfl
  have hC3_f15 := hC3.out.free 1 5 rfl
  have hC3_c16 := hC3.out.cell 1 6 rfl rfl
  have hC3_f16 := hC3.out.free 1 6 rfl
  have hC3_c17 := hC3.out.cell 1 7 rfl rfl
  have hC3_f17 := hC3.out.free 1 7 rfl
  go_wp2_with fail
  refine (same_b (hC3.out.v 0 rfl).y (hC3.out.vp 1 rfl).y B1.out.2 (by omega)).mono ?_
  rintro e w4 ⟨rfl, hb⟩
  have hC4 := Lib.hid (hC3.out.call hb)
  clear hb hC3
  go_wp2
  go_ret
  exact ⟨rfl, hC4.out.be⟩

theorem sameV_b {w : World} {a1 : Option Addr} {n1 c1 : Nat} {m1 : Bool} {d1 : Option Addr} {e1 f1 : Nat} {u1 : Option Addr} {x1 y1 : Nat} {p1 : Bool} {t1 : Option Addr} {o1 l1 : Nat} {v1 : Rat × Rat} {s2 : Int} {a2 : Option Addr} {n2 c2 : Nat} {t2 : Int} {d2 : Option Addr} {e2 f2 : Nat} {p2 : Int} {u2 : Option Addr} {x2 y2 : Nat} {g2 : Int} {i2 : Option Addr} {o2 l2 : Nat}  (h1 : Vd w (.slice a1 n1 c1) m1 (.slice d1 e1 f1) (.slice u1 x1 y1) p1 (.slice t1 o1 l1) v1) (h2 : Nv w s2 (.slice a2 n2 c2) t2 (.slice d2 e2 f2) p2 (.slice u2 x2 y2) g2 (.slice i2 o2 l2) v1) {k1 : Nat} (b1 : Bv k1 v1) (hk1 : k1 ≤ 10000) :
    Calls Tryz.prog 85 #[.agg #[.slice a1 n1 c1, .bool m1, .slice d1 e1 f1, .slice u1 x1 y1, .bool p1, .slice t1 o1 l1], .agg #[.int .i64 s2, .slice a2 n2 c2, .int .i64 t2, .slice d2 e2 f2, .int .i64 p2, .slice u2 x2 y2, .int .i64 g2, .slice i2 o2 l2]] w (fun e w' => e = .returned (.bool true) ∧ Below w.heap.size w w') := sameV_any _ _ _ _ _ _ _ _ _ _ _ _ _ _ _ _ _ _ _ _ _ _ _ _ _ _ _ _ _ _ _ _ h1 h2 _ b1 hk1


end Go.Proofs.YtmfplelodnoicaaGreatDoor

/- pairs -/
import Derived.Test.YtnimnoodpnhodaaDoorR4
import Derived.Test.YtnimnoodpnhodaaDoorR6
namespace Go.Proofs.YtnimnoodpnhodaaDoor
open Go.RowKit Dig

/-- a pair of ratios -/
structure Vd (w : World) (s : Value) (m : Bool) (s' t : Value) (p : Bool) (t' : Value) (v : Rat × Rat) : Prop where
  x : Rd w s m s' v.1
  y : Rd w t p t' v.2
theorem Vd.keep {w w' : World} {s s' t t' : Value} {m p : Bool} {v : Rat × Rat} (h : Vd w s m s' t p t' v) (hk : Keeps w w') : Vd w' s m s' t p t' v := ⟨h.x.keep hk, h.y.keep hk⟩
section
variable {w W : World} {bs : List (Nat × Array Value × TypeId)} {rs : List (World → Prop)}
theorem St.pv (h : St w W bs rs) {s s' t t' : Value} {m p : Bool} {v : Rat × Rat} (hz : Vd W s m s' t p t' v) : St w W bs (rs ++ [fun V => Vd V s m s' t p t' v]) := h.push (fun _ _ k hz => hz.keep k) hz
theorem St.v (h : St w W bs rs) (i : Nat) {s s' t t' : Value} {m p : Bool} {v : Rat × Rat} (hx : rs[i]? = some (fun V => Vd V s m s' t p t' v)) : Vd W s m s' t p t' v := (h.rd _ (List.mem_of_getElem? hx)).2
end
/-- the result is the pair v -/
def RetV (w : World) (v : Rat × Rat) (e : Ending) (w' : World) : Prop := ∃ a n c m d e' f u x y p t o l, e = .returned (.agg #[.slice a n c, .bool m, .slice d e' f, .slice u x y, .bool p, .slice t o l]) ∧ Vd w' (.slice a n c) m (.slice d e' f) (.slice u x y) p (.slice t o l) v ∧ Below w.heap.size w w'
/-- both parts of a pair are below 2^n -/
def Bv (n : Nat) (v : Rat × Rat) : Prop := Bq n v.1 ∧ Bq n v.2

set_option maxRecDepth 100000 in
set_option maxHeartbeats 1000000 in
theorem vdot_any (a1 : Option Addr) (n1 c1 : Nat) (m1 : Bool) (d1 : Option Addr) (e1 f1 : Nat) (u1 : Option Addr) (x1 y1 : Nat) (p1 : Bool) (t1 : Option Addr) (o1 l1 : Nat) (v1 : Rat × Rat) (a2 : Option Addr) (n2 c2 : Nat) (m2 : Bool) (d2 : Option Addr) (e2 f2 : Nat) (u2 : Option Addr) (x2 y2 : Nat) (p2 : Bool) (t2 : Option Addr) (o2 l2 : Nat) (v2 : Rat × Rat) (w : World) (h1 : Vd w (.slice a1 n1 c1) m1 (.slice d1 e1 f1) (.slice u1 x1 y1) p1 (.slice t1 o1 l1) v1) (h2 : Vd w (.slice a2 n2 c2) m2 (.slice d2 e2 f2) (.slice u2 x2 y2) p2 (.slice t2 o2 l2) v2) (k1 k2 : Nat) (b1 : Bv k1 v1) (b2 : Bv k2 v2) (hk1 : k1 ≤ 10000) (hk2 : k2 ≤ 10000) :
    Calls Tryd.prog 26 #[.agg #[.slice a1 n1 c1, .bool m1, .slice d1 e1 f1, .slice u1 x1 y1, .bool p1, .slice t1 o1 l1], .agg #[.slice a2 n2 c2, .bool m2, .slice d2 e2 f2, .slice u2 x2 y2, .bool p2, .slice t2 o2 l2]] w (RetR w (v1.1 * v2.1 + v1.2 * v2.2)) := by
  have B1 := Lib.hid b1
  have B2 := Lib.hid b2
  clear b1 b2
  have hC := Lib.hid ((((((St.enter w).pv h1).pv h2).al (w.heap.size) #[.slice a1 n1 c1, .bool m1, .slice d1 e1 f1, .slice u1 x1 y1, .bool p1, .slice t1 o1 l1] 53 rfl rfl).al (w.heap.size + 1) #[.slice a2 n2 c2, .bool m2, .slice d2 e2 f2, .slice u2 x2 y2, .bool p2, .slice t2 o2 l2] 53 (by simp) rfl).al (w.heap.size + 2) #[.slice none 0 0, .bool false, .slice none 0 0] 32 (by simp) rfl)
  clear h1 h2
  go_enter Tryd.func26, Tryd.ntmps26
  go_wp2
  go_region_held3 (fun w' => w'.cell? ⟨w.heap.size, 0, none⟩ = some (.slice a1 n1 c1) ∧ w'.cell? ⟨w.heap.size, 1, none⟩ = some (.bool m1) ∧ w'.cell? ⟨w.heap.size, 2, none⟩ = some (.slice d1 e1 f1) ∧ w'.cell? ⟨w.heap.size, 3, none⟩ = some (.slice u1 x1 y1) ∧ w'.cell? ⟨w.heap.size, 4, none⟩ = some (.bool p1) ∧ w'.cell? ⟨w.heap.size, 5, none⟩ = some (.slice t1 o1 l1) ∧ w'.cell? ⟨w.heap.size + 1, 0, none⟩ = some (.slice a2 n2 c2) ∧ w'.cell? ⟨w.heap.size + 1, 1, none⟩ = some (.bool m2) ∧ w'.cell? ⟨w.heap.size + 1, 2, none⟩ = some (.slice d2 e2 f2) ∧ w'.cell? ⟨w.heap.size + 1, 3, none⟩ = some (.slice u2 x2 y2) ∧ w'.cell? ⟨w.heap.size + 1, 4, none⟩ = some (.bool p2) ∧ w'.cell? ⟨w.heap.size + 1, 5, none⟩ = some (.slice t2 o2 l2) ∧ True)
    (first
      | (with_reducible refine And.intro (?_ : World.cell? (World.setCell (World.setCell (World.setCell w5 _ _) _ _) _ _) _ = _) ?_; exact (hC5.out |>.set 2 rfl |>.set 2 rfl |>.set 2 rfl).cell 0 0 rfl rfl; exact ⟨(hC5.out |>.set 2 rfl |>.set 2 rfl |>.set 2 rfl).cell 0 1 rfl rfl, (hC5.out |>.set 2 rfl |>.set 2 rfl |>.set 2 rfl).cell 0 2 rfl rfl, (hC5.out |>.set 2 rfl |>.set 2 rfl |>.set 2 rfl).cell 0 3 rfl rfl, (hC5.out |>.set 2 rfl |>.set 2 rfl |>.set 2 rfl).cell 0 4 rfl rfl, (hC5.out |>.set 2 rfl |>.set 2 rfl |>.set 2 rfl).cell 0 5 rfl rfl, (hC5.out |>.set 2 rfl |>.set 2 rfl |>.set 2 rfl).cell 1 0 rfl rfl, (hC5.out |>.set 2 rfl |>.set 2 rfl |>.set 2 rfl).cell 1 1 rfl rfl, (hC5.out |>.set 2 rfl |>.set 2 rfl |>.set 2 rfl).cell 1 2 rfl rfl, (hC5.out |>.set 2 rfl |>.set 2 rfl |>.set 2 rfl).cell 1 3 rfl rfl, (hC5.out |>.set 2 rfl |>.set 2 rfl |>.set 2 rfl).cell 1 4 rfl rfl, (hC5.out |>.set 2 rfl |>.set 2 rfl |>.set 2 rfl).cell 1 5 rfl rfl, trivial⟩)
      | (with_reducible refine And.intro (?_ : World.cell? w5 _ = _) ?_; exact hC5.out.cell 0 0 rfl rfl; exact ⟨hC5.out.cell 0 1 rfl rfl, hC5.out.cell 0 2 rfl rfl, hC5.out.cell 0 3 rfl rfl, hC5.out.cell 0 4 rfl rfl, hC5.out.cell 0 5 rfl rfl, hC5.out.cell 1 0 rfl rfl, hC5.out.cell 1 1 rfl rfl, hC5.out.cell 1 2 rfl rfl, hC5.out.cell 1 3 rfl rfl, hC5.out.cell 1 4 rfl rfl, hC5.out.cell 1 5 rfl rfl, trivial⟩)
      | (with_reducible refine And.intro (?_ : World.cell? w4 _ = _) ?_; exact hC4.out.cell 0 0 rfl rfl; exact ⟨hC4.out.cell 0 1 rfl rfl, hC4.out.cell 0 2 rfl rfl, hC4.out.cell 0 3 rfl rfl, hC4.out.cell 0 4 rfl rfl, hC4.out.cell 0 5 rfl rfl, hC4.out.cell 1 0 rfl rfl, hC4.out.cell 1 1 rfl rfl, hC4.out.cell 1 2 rfl rfl, hC4.out.cell 1 3 rfl rfl, hC4.out.cell 1 4 rfl rfl, hC4.out.cell 1 5 rfl rfl, trivial⟩)
      | (with_reducible refine And.intro (?_ : World.cell? w3 _ = _) ?_; exact hC3.out.cell 0 0 rfl rfl; exact ⟨hC3.out.cell 0 1 rfl rfl, hC3.out.cell 0 2 rfl rfl, hC3.out.cell 0 3 rfl rfl, hC3.out.cell 0 4 rfl rfl, hC3.out.cell 0 5 rfl rfl, hC3.out.cell 1 0 rfl rfl, hC3.out.cell 1 1 rfl rfl, hC3.out.cell 1 2 rfl rfl, hC3.out.cell 1 3 rfl rfl, hC3.out.cell 1 4 rfl rfl, hC3.out.cell 1 5 rfl rfl, trivial⟩)
      | (with_reducible refine And.intro (?_ : World.cell? _ _ = _) ?_; exact hC.out.drew.cell 0 0 rfl rfl; exact ⟨hC.out.drew.cell 0 1 rfl rfl, hC.out.drew.cell 0 2 rfl rfl, hC.out.drew.cell 0 3 rfl rfl, hC.out.drew.cell 0 4 rfl rfl, hC.out.drew.cell 0 5 rfl rfl, hC.out.drew.cell 1 0 rfl rfl, hC.out.drew.cell 1 1 rfl rfl, hC.out.drew.cell 1 2 rfl rfl, hC.out.drew.cell 1 3 rfl rfl, hC.out.drew.cell 1 4 rfl rfl, hC.out.drew.cell 1 5 rfl rfl, trivial⟩))
    (first
      | (have _t := hC4; go_at_call 52; refine (radd_b (hC4.out.r 2 rfl) (hC4.out.r 3 rfl) (B1.out.1.mul B2.out.1) (B1.out.2.mul B2.out.2) (by omega) (by omega)).mono ?_; rintro e w5 ⟨a5, n5, c5, m5, d5, e5, f5, rfl, hz, hb⟩; have hC5 := Lib.hid ((hC4.out.call hb).pr hz); clear hb hz; have hC5_c20 := hC5.out.cell 2 0 rfl rfl; have hC5_f20 := hC5.out.free 2 0 rfl; have hC5_c21 := hC5.out.cell 2 1 rfl rfl; have hC5_f21 := hC5.out.free 2 1 rfl; have hC5_c22 := hC5.out.cell 2 2 rfl rfl; have hC5_f22 := hC5.out.free 2 2 rfl; clear _t hC4)
      | (have _t := hC3; go_at_call 50; refine (rmul_b (hC3.out.v 0 rfl).y (hC3.out.v 1 rfl).y B1.out.2 B2.out.2 (by omega) (by omega)).mono ?_; rintro e w4 ⟨a4, n4, c4, m4, d4, e4, f4, rfl, hz, hb⟩; have hC4 := Lib.hid ((hC3.out.call hb).pr hz); clear hb hz; clear _t hC3)
      | (have _t := hC; go_at_call 50; refine (rmul_b (hC.out.drew.v 0 rfl).x (hC.out.drew.v 1 rfl).x B1.out.1 B2.out.1 (by omega) (by omega)).mono ?_; rintro e w3 ⟨a3, n3, c3, m3, d3, e3, f3, rfl, hz, hb⟩; have hC3 := Lib.hid ((hC.out.drew.call hb).pr hz); clear hb hz; clear _t hC)
      | fail)
  go_wp2
  refine ret_st (hC5.out |>.set 2 rfl |>.set 2 rfl |>.set 2 rfl) (v := .agg #[.slice a5 n5 c5, .bool m5, .slice d5 e5 f5]) (fun hF => ?_) rfl (fun hF => ⟨_, _, _, _, _, _, _, rfl, hF.r 4 rfl, hF.be⟩)
  · have e0 := hF.cell 2 0 rfl rfl
    have e1 := hF.cell 2 1 rfl rfl
    have e2 := hF.cell 2 2 rfl rfl
    simp [results, Tryd.results26, go_sem, e0, e1, e2]

section
variable {w : World} {a1 : Option Addr} {n1 c1 : Nat} {m1 : Bool} {d1 : Option Addr} {e1 f1 : Nat} {q1 : Rat} {a2 : Option Addr} {n2 c2 : Nat} {m2 : Bool} {d2 : Option Addr} {e2 f2 : Nat} {q2 : Rat} {k1 k2 : Nat}
theorem rsub_b (h1 : Rd w (.slice a1 n1 c1) m1 (.slice d1 e1 f1) q1) (h2 : Rd w (.slice a2 n2 c2) m2 (.slice d2 e2 f2) q2) (b1 : Bq k1 q1) (b2 : Bq k2 q2) (hk1 : k1 ≤ 40000) (hk2 : k2 ≤ 40000) :
    Calls Tryd.prog 51 #[.agg #[.slice a1 n1 c1, .bool m1, .slice d1 e1 f1], .agg #[.slice a2 n2 c2, .bool m2, .slice d2 e2 f2]] w (RetR w (q1 - q2)) := by
  rw [Rat.sub_eq_add_neg]; exact rsub_any _ _ _ _ _ _ _ _ _ _ _ _ _ _ _ _ _ h1 h2 k1 k2 b1 b2 hk1 hk2
theorem rtext_b (h1 : Rd w (.slice a1 n1 c1) m1 (.slice d1 e1 f1) q1) (b1 : Bq k1 q1) (hk1 : k1 ≤ 40000) :
    Calls Tryd.prog 17 #[.agg #[.slice a1 n1 c1, .bool m1, .slice d1 e1 f1]] w fun e w' => e = .returned (.string ⟨(rtext q1).toArray⟩) ∧ Below w.heap.size w w' := by
  by_cases hd : q1.den = 1
  · exact rtext_one _ _ _ _ _ _ _ _ _ h1 k1 b1 hk1 hd
  · exact rtext_more _ _ _ _ _ _ _ _ _ h1 k1 b1 hk1 hd
end

set_option maxRecDepth 100000 in
set_option maxHeartbeats 1000000 in
theorem vcross_any (a1 : Option Addr) (n1 c1 : Nat) (m1 : Bool) (d1 : Option Addr) (e1 f1 : Nat) (u1 : Option Addr) (x1 y1 : Nat) (p1 : Bool) (t1 : Option Addr) (o1 l1 : Nat) (v1 : Rat × Rat) (a2 : Option Addr) (n2 c2 : Nat) (m2 : Bool) (d2 : Option Addr) (e2 f2 : Nat) (u2 : Option Addr) (x2 y2 : Nat) (p2 : Bool) (t2 : Option Addr) (o2 l2 : Nat) (v2 : Rat × Rat) (w : World) (h1 : Vd w (.slice a1 n1 c1) m1 (.slice d1 e1 f1) (.slice u1 x1 y1) p1 (.slice t1 o1 l1) v1) (h2 : Vd w (.slice a2 n2 c2) m2 (.slice d2 e2 f2) (.slice u2 x2 y2) p2 (.slice t2 o2 l2) v2) (k1 k2 : Nat) (b1 : Bv k1 v1) (b2 : Bv k2 v2) (hk1 : k1 ≤ 10000) (hk2 : k2 ≤ 10000) :
    Calls Tryd.prog 25 #[.agg #[.slice a1 n1 c1, .bool m1, .slice d1 e1 f1, .slice u1 x1 y1, .bool p1, .slice t1 o1 l1], .agg #[.slice a2 n2 c2, .bool m2, .slice d2 e2 f2, .slice u2 x2 y2, .bool p2, .slice t2 o2 l2]] w (RetR w (v1.1 * v2.2 - v1.2 * v2.1)) := by
  have B1 := Lib.hid b1
  have B2 := Lib.hid b2
  clear b1 b2
  have hC := Lib.hid ((((((St.enter w).pv h1).pv h2).al (w.heap.size) #[.slice a1 n1 c1, .bool m1, .slice d1 e1 f1, .slice u1 x1 y1, .bool p1, .slice t1 o1 l1] 53 rfl rfl).al (w.heap.size + 1) #[.slice a2 n2 c2, .bool m2, .slice d2 e2 f2, .slice u2 x2 y2, .bool p2, .slice t2 o2 l2] 53 (by simp) rfl).al (w.heap.size + 2) #[.slice none 0 0, .bool false, .slice none 0 0] 32 (by simp) rfl)
  clear h1 h2
  go_enter Tryd.func25, Tryd.ntmps25
  go_wp2
  go_region_held3 (fun w' => w'.cell? ⟨w.heap.size, 0, none⟩ = some (.slice a1 n1 c1) ∧ w'.cell? ⟨w.heap.size, 1, none⟩ = some (.bool m1) ∧ w'.cell? ⟨w.heap.size, 2, none⟩ = some (.slice d1 e1 f1) ∧ w'.cell? ⟨w.heap.size, 3, none⟩ = some (.slice u1 x1 y1) ∧ w'.cell? ⟨w.heap.size, 4, none⟩ = some (.bool p1) ∧ w'.cell? ⟨w.heap.size, 5, none⟩ = some (.slice t1 o1 l1) ∧ w'.cell? ⟨w.heap.size + 1, 0, none⟩ = some (.slice a2 n2 c2) ∧ w'.cell? ⟨w.heap.size + 1, 1, none⟩ = some (.bool m2) ∧ w'.cell? ⟨w.heap.size + 1, 2, none⟩ = some (.slice d2 e2 f2) ∧ w'.cell? ⟨w.heap.size + 1, 3, none⟩ = some (.slice u2 x2 y2) ∧ w'.cell? ⟨w.heap.size + 1, 4, none⟩ = some (.bool p2) ∧ w'.cell? ⟨w.heap.size + 1, 5, none⟩ = some (.slice t2 o2 l2) ∧ True)
    (first
      | (with_reducible refine And.intro (?_ : World.cell? (World.setCell (World.setCell (World.setCell w5 _ _) _ _) _ _) _ = _) ?_; exact (hC5.out |>.set 2 rfl |>.set 2 rfl |>.set 2 rfl).cell 0 0 rfl rfl; exact ⟨(hC5.out |>.set 2 rfl |>.set 2 rfl |>.set 2 rfl).cell 0 1 rfl rfl, (hC5.out |>.set 2 rfl |>.set 2 rfl |>.set 2 rfl).cell 0 2 rfl rfl, (hC5.out |>.set 2 rfl |>.set 2 rfl |>.set 2 rfl).cell 0 3 rfl rfl, (hC5.out |>.set 2 rfl |>.set 2 rfl |>.set 2 rfl).cell 0 4 rfl rfl, (hC5.out |>.set 2 rfl |>.set 2 rfl |>.set 2 rfl).cell 0 5 rfl rfl, (hC5.out |>.set 2 rfl |>.set 2 rfl |>.set 2 rfl).cell 1 0 rfl rfl, (hC5.out |>.set 2 rfl |>.set 2 rfl |>.set 2 rfl).cell 1 1 rfl rfl, (hC5.out |>.set 2 rfl |>.set 2 rfl |>.set 2 rfl).cell 1 2 rfl rfl, (hC5.out |>.set 2 rfl |>.set 2 rfl |>.set 2 rfl).cell 1 3 rfl rfl, (hC5.out |>.set 2 rfl |>.set 2 rfl |>.set 2 rfl).cell 1 4 rfl rfl, (hC5.out |>.set 2 rfl |>.set 2 rfl |>.set 2 rfl).cell 1 5 rfl rfl, trivial⟩)
      | (with_reducible refine And.intro (?_ : World.cell? w5 _ = _) ?_; exact hC5.out.cell 0 0 rfl rfl; exact ⟨hC5.out.cell 0 1 rfl rfl, hC5.out.cell 0 2 rfl rfl, hC5.out.cell 0 3 rfl rfl, hC5.out.cell 0 4 rfl rfl, hC5.out.cell 0 5 rfl rfl, hC5.out.cell 1 0 rfl rfl, hC5.out.cell 1 1 rfl rfl, hC5.out.cell 1 2 rfl rfl, hC5.out.cell 1 3 rfl rfl, hC5.out.cell 1 4 rfl rfl, hC5.out.cell 1 5 rfl rfl, trivial⟩)
      | (with_reducible refine And.intro (?_ : World.cell? w4 _ = _) ?_; exact hC4.out.cell 0 0 rfl rfl; exact ⟨hC4.out.cell 0 1 rfl rfl, hC4.out.cell 0 2 rfl rfl, hC4.out.cell 0 3 rfl rfl, hC4.out.cell 0 4 rfl rfl, hC4.out.cell 0 5 rfl rfl, hC4.out.cell 1 0 rfl rfl, hC4.out.cell 1 1 rfl rfl, hC4.out.cell 1 2 rfl rfl, hC4.out.cell 1 3 rfl rfl, hC4.out.cell 1 4 rfl rfl, hC4.out.cell 1 5 rfl rfl, trivial⟩)
      | (with_reducible refine And.intro (?_ : World.cell? w3 _ = _) ?_; exact hC3.out.cell 0 0 rfl rfl; exact ⟨hC3.out.cell 0 1 rfl rfl, hC3.out.cell 0 2 rfl rfl, hC3.out.cell 0 3 rfl rfl, hC3.out.cell 0 4 rfl rfl, hC3.out.cell 0 5 rfl rfl, hC3.out.cell 1 0 rfl rfl, hC3.out.cell 1 1 rfl rfl, hC3.out.cell 1 2 rfl rfl, hC3.out.cell 1 3 rfl rfl, hC3.out.cell 1 4 rfl rfl, hC3.out.cell 1 5 rfl rfl, trivial⟩)
      | (with_reducible refine And.intro (?_ : World.cell? _ _ = _) ?_; exact hC.out.drew.cell 0 0 rfl rfl; exact ⟨hC.out.drew.cell 0 1 rfl rfl, hC.out.drew.cell 0 2 rfl rfl, hC.out.drew.cell 0 3 rfl rfl, hC.out.drew.cell 0 4 rfl rfl, hC.out.drew.cell 0 5 rfl rfl, hC.out.drew.cell 1 0 rfl rfl, hC.out.drew.cell 1 1 rfl rfl, hC.out.drew.cell 1 2 rfl rfl, hC.out.drew.cell 1 3 rfl rfl, hC.out.drew.cell 1 4 rfl rfl, hC.out.drew.cell 1 5 rfl rfl, trivial⟩))
    (first
      | (have _t := hC4; go_at_call 51; refine (rsub_b (hC4.out.r 2 rfl) (hC4.out.r 3 rfl) (B1.out.1.mul B2.out.2) (B1.out.2.mul B2.out.1) (by omega) (by omega)).mono ?_; rintro e w5 ⟨a5, n5, c5, m5, d5, e5, f5, rfl, hz, hb⟩; have hC5 := Lib.hid ((hC4.out.call hb).pr hz); clear hb hz; have hC5_c20 := hC5.out.cell 2 0 rfl rfl; have hC5_f20 := hC5.out.free 2 0 rfl; have hC5_c21 := hC5.out.cell 2 1 rfl rfl; have hC5_f21 := hC5.out.free 2 1 rfl; have hC5_c22 := hC5.out.cell 2 2 rfl rfl; have hC5_f22 := hC5.out.free 2 2 rfl; clear _t hC4)
      | (have _t := hC3; go_at_call 50; refine (rmul_b (hC3.out.v 0 rfl).y (hC3.out.v 1 rfl).x B1.out.2 B2.out.1 (by omega) (by omega)).mono ?_; rintro e w4 ⟨a4, n4, c4, m4, d4, e4, f4, rfl, hz, hb⟩; have hC4 := Lib.hid ((hC3.out.call hb).pr hz); clear hb hz; clear _t hC3)
      | (have _t := hC; go_at_call 50; refine (rmul_b (hC.out.drew.v 0 rfl).x (hC.out.drew.v 1 rfl).y B1.out.1 B2.out.2 (by omega) (by omega)).mono ?_; rintro e w3 ⟨a3, n3, c3, m3, d3, e3, f3, rfl, hz, hb⟩; have hC3 := Lib.hid ((hC.out.drew.call hb).pr hz); clear hb hz; clear _t hC)
      | fail)
  go_wp2
  refine ret_st (hC5.out |>.set 2 rfl |>.set 2 rfl |>.set 2 rfl) (v := .agg #[.slice a5 n5 c5, .bool m5, .slice d5 e5 f5]) (fun hF => ?_) rfl (fun hF => ⟨_, _, _, _, _, _, _, rfl, hF.r 4 rfl, hF.be⟩)
  · have e0 := hF.cell 2 0 rfl rfl
    have e1 := hF.cell 2 1 rfl rfl
    have e2 := hF.cell 2 2 rfl rfl
    simp [results, Tryd.results25, go_sem, e0, e1, e2]

end Go.Proofs.YtnimnoodpnhodaaDoor

/- the integers: Neg, Abs -/
/- the integers: two of them -/
/- the integers: Add -/
/- the integers: Sign, Sub, Cmp, Int -/
/- ratios by numerator and denominator: plain. -/
/- a call's own blocks, and what values read as, carried along a walk -/
import Derived.Test.YtmfplelodnoicaaGreatDoorWB
import Derived.Test.YtmfplelodnoicaaGreatDoorWA
namespace Go.Proofs.YtmfplelodnoicaaGreatDoor
open Go.RowKit Dig

/-- a block that holds an integer -/
def Bz (w : World) (b : Nat) (s : Value) (m : Bool) : Prop := w.heap[b]? = some (.cells #[s, .bool m] 28 (0, 0))
theorem Bz.lt {w : World} {b : Nat} {s : Value} {m : Bool} (h : Bz w b s m) : b < w.heap.size := (Array.getElem?_eq_some_iff.1 h).1
theorem Bz.c0 {w : World} {b : Nat} {s : Value} {m : Bool} (h : Bz w b s m) : w.cell? ⟨b, 0, none⟩ = some s := by
  unfold Bz at h; simp [World.cell?, h]
theorem Bz.c1 {w : World} {b : Nat} {s : Value} {m : Bool} (h : Bz w b s m) : w.cell? ⟨b, 1, none⟩ = some (.bool m) := by
  unfold Bz at h; simp [World.cell?, h]
theorem Bz.f0 {w : World} {b : Nat} {s : Value} {m : Bool} (h : Bz w b s m) : w.frozen? ⟨b, 0, none⟩ = false := by
  unfold Bz at h; simp [World.frozen?, h]
theorem Bz.f1 {w : World} {b : Nat} {s : Value} {m : Bool} (h : Bz w b s m) : w.frozen? ⟨b, 1, none⟩ = false := by
  unfold Bz at h; simp [World.frozen?, h]
theorem Bz.new' {w : World} {b : Nat} {s : Value} {m : Bool} (h : b = w.heap.size) : Bz (w.alloc (.cells #[s, .bool m] 28)) b s m := by
  subst h; unfold Bz World.alloc; simp
theorem Bz.alloc {w : World} {b : Nat} {s : Value} {m : Bool} (h : Bz w b s m) (o : Obj) : Bz (w.alloc o) b s m := (Below.heap_alloc _ _ _ h.lt).trans h
theorem Bz.below {w w' : World} {b : Nat} {s : Value} {m : Bool} (h : Bz w b s m) (hb : Below w.heap.size w w') : Bz w' b s m := (hb.block b h.lt).trans h
theorem Bz.drew {w : World} {b : Nat} {s : Value} {m : Bool} (h : Bz w b s m) : Bz w.drew b s m := h

theorem Bz.set {w : World} {b : Nat} {s : Value} {m : Bool} (h : Bz w b s m) (s' : Value) (m' : Bool) : Bz ((w.setCell ⟨b, 0, none⟩ s').setCell ⟨b, 1, none⟩ (.bool m')) b s' m' := by
  unfold Bz at h ⊢
  simp [World.setCell, Array.getElem?_modify, h]
theorem Bz.other {w : World} {b g k : Nat} {s : Value} {m : Bool} (h : Bz w b s m) (hne : b ≠ g) (u : Value) : Bz (w.setCell ⟨g, k, none⟩ u) b s m := (Below.heap_setCell _ _ _ _ hne).trans h
theorem Sl.ne_bz {t : TypeId} {w : World} {v s : Value} {m : Bool} {xs : List Int} {b : Nat} (h : Sl t w v xs) (hb : Bz w b s m) (hne : t ≠ 28) : v.ownBlock ≠ some b := by
  intro e
  rcases h.2 with ⟨rfl, _⟩ | ⟨g, cap, cur, rfl, _, hg, _⟩
  · simp [Value.ownBlock] at e
  · simp only [Value.ownBlock, Option.some.injEq] at e
    subst e
    unfold Bz at hb
    rw [hg] at hb
    simp only [Option.some.injEq, Obj.cells.injEq] at hb
    exact hne hb.2.1
theorem Zd.set {w : World} {b : Nat} {s s' u : Value} {k : Nat} {m m' : Bool} {z : Int} (h : Zd w s m z) (hb : Bz w b s' m') : Zd (w.setCell ⟨b, k, none⟩ u) s m z := ⟨Sl.other h.d (Sl.ne_bz h.d hb (by decide)) _, h.m⟩
theorem Zd.set2 {w : World} {b : Nat} {s s' u u' : Value} {m m' : Bool} {z : Int} (h : Zd w s m z) (hb : Bz w b s' m') : Zd ((w.setCell ⟨b, 0, none⟩ u).setCell ⟨b, 1, none⟩ u') s m z :=
  ⟨Sl.other (Sl.other h.d (Sl.ne_bz h.d hb (by decide)) _) (Sl.ne_bz h.d hb (by decide)) _, h.m⟩

/-- the end of a method that stores an integer into its result's block and returns it -/
theorem fin_Z {w W w2 : World} {R : Nat} {a : Option Addr} {n c : Nat} {m m0 : Bool} {s0 : Value} {z : Int} (hB : Below w.heap.size w W) (hb : Below W.heap.size W w2) (hR : Bz w2 R s0 m0) (hR0 : w.heap.size ≤ R) (hz : Zd w2 (.slice a n c) m z) :
    RetZ w z (.returned (.agg #[.slice a n c, .bool m])) ((w2.setCell ⟨R, 0, none⟩ (.slice a n c)).setCell ⟨R, 1, none⟩ (.bool m)) :=
  ⟨a, n, c, m, rfl, hz.set2 hR, ((hB.trans (hb.mono hB.size)).setCell hR0 _).setCell hR0 _⟩

set_option maxHeartbeats 400000 in
theorem neg_any (a : Option Addr) (n c : Nat) (m : Bool) (z : Int) (w : World) (h : Zd w (.slice a n c) m z) :
    Calls Tryz.prog 43 #[.agg #[.slice a n c, .bool m]] w (RetZ w (-z)) := by
  go_enter Tryz.func43, Tryz.ntmps43
  have hd := Lib.hid ((h.d.alloc (.cells #[.slice a n c, .bool m] 28)).alloc (.cells #[.slice none 0 0, .bool false] 28))
  have hm := Lib.hid h.m
  have hX := Lib.hid (Bz.new' (w := w.alloc (.cells #[.slice a n c, .bool m] 28)) (s := .slice none 0 0) (m := false) (b := w.heap.size + 1) (by simp))
  have hW := Lib.hid (((Below.refl w.heap.size w).alloc (Nat.le_refl _) (.cells #[.slice a n c, .bool m] 28)).alloc (by go_size) (.cells #[.slice none 0 0, .bool false] 28))
  clear h
  go_wp2_with fail
  refine (made_any (!m) a n c z.natAbs _ hd.out (-z) ?hz).mono ?_
  case hz => rw [hm.out]; by_cases h : z < 0 <;> simp [h] <;> omega
  rintro e w' ⟨a3, n3, c3, m3, rfl, hz, hb⟩
  have hB := Lib.hid (hX.out.below hb)
  have c0 := hB.out.c0
  have c1 := hB.out.c1
  have f0 := hB.out.f0
  have f1 := hB.out.f1
  have HZ := Lib.hid hz
  have HB := Lib.hid hb
  clear hz hb
  go_wp2
  have bs := fun u u' => (hB.out.set u u').c0
  have bs1 := fun u u' => (hB.out.set u u').c1
  exact bodyPost_ret (v := .agg #[.slice a3 n3 c3, .bool m3]) (by simp [results, Tryz.results43, go_sem, bs, bs1]) rfl (fin_Z hW.out HB.out hB.out (by simp) HZ.out)

set_option maxHeartbeats 400000 in
theorem abs_any (a : Option Addr) (n c : Nat) (m : Bool) (z : Int) (w : World) (h : Zd w (.slice a n c) m z) :
    Calls Tryz.prog 45 #[.agg #[.slice a n c, .bool m]] w (RetZ w z.natAbs) := by
  go_enter Tryz.func45, Tryz.ntmps45
  have hd := Lib.hid ((h.d.alloc (.cells #[.slice a n c, .bool m] 28)).alloc (.cells #[.slice none 0 0, .bool false] 28))
  have hX := Lib.hid (Bz.new' (w := w.alloc (.cells #[.slice a n c, .bool m] 28)) (s := .slice none 0 0) (m := false) (b := w.heap.size + 1) (by simp))
  have hW := Lib.hid (((Below.refl w.heap.size w).alloc (Nat.le_refl _) (.cells #[.slice a n c, .bool m] 28)).alloc (by go_size) (.cells #[.slice none 0 0, .bool false] 28))
  clear h
  go_wp2_with fail
  refine (made_any false a n c z.natAbs _ hd.out z.natAbs ?hz).mono ?_
  case hz => rfl
  rintro e w' ⟨a3, n3, c3, m3, rfl, hz, hb⟩
  have hB := Lib.hid (hX.out.below hb)
  have c0 := hB.out.c0
  have c1 := hB.out.c1
  have f0 := hB.out.f0
  have f1 := hB.out.f1
  have HZ := Lib.hid hz
  have HB := Lib.hid hb
  clear hz hb
  go_wp2
  have bs := fun u u' => (hB.out.set u u').c0
  have bs1 := fun u u' => (hB.out.set u u').c1
  exact bodyPost_ret (v := .agg #[.slice a3 n3 c3, .bool m3]) (by simp [results, Tryz.results45, go_sem, bs, bs1]) rfl (fin_Z hW.out HB.out hB.out (by simp) HZ.out)

end Go.Proofs.YtmfplelodnoicaaGreatDoor
namespace Go.Proofs.YtmfplelodnoicaaGreatDoor
open Go.RowKit Dig

/-- what lies in the blocks of a method of two integers -/
structure Z2 (w W : World) (s1 : Value) (m1 : Bool) (z1 : Int) (s2 : Value) (m2 : Bool) (z2 : Int) : Prop where
  x1 : Bz W w.heap.size s1 m1
  x2 : Bz W (w.heap.size + 1) s2 m2
  x3 : Bz W (w.heap.size + 2) (.slice none 0 0) false
  d1 : Zd W s1 m1 z1
  d2 : Zd W s2 m2 z2
  be : Below w.heap.size w W
theorem Z2.later {w W W' : World} {s1 s2 : Value} {m1 m2 : Bool} {z1 z2 : Int} (h : Z2 w W s1 m1 z1 s2 m2 z2) (hb : Below W.heap.size W W') : Z2 w W' s1 m1 z1 s2 m2 z2 :=
  ⟨h.x1.below hb, h.x2.below hb, h.x3.below hb, h.d1.mono hb, h.d2.mono hb, h.be.trans (hb.mono h.be.size)⟩
theorem Z2.S {w W : World} {s1 s2 : Value} {m1 m2 : Bool} {z1 z2 : Int} (h : Z2 w W s1 m1 z1 s2 m2 z2) :
    W.cell? ⟨w.heap.size, 0, none⟩ = some s1 ∧ W.cell? ⟨w.heap.size, 1, none⟩ = some (.bool m1) ∧ W.cell? ⟨w.heap.size + 1, 0, none⟩ = some s2 ∧ W.cell? ⟨w.heap.size + 1, 1, none⟩ = some (.bool m2) :=
  ⟨h.x1.c0, h.x1.c1, h.x2.c0, h.x2.c1⟩
theorem Z2.S' {w W : World} {s1 s2 : Value} {m1 m2 : Bool} {z1 z2 : Int} (h : Z2 w W s1 m1 z1 s2 m2 z2) (u u' : Value) :
    ((W.setCell ⟨w.heap.size + 2, 0, none⟩ u).setCell ⟨w.heap.size + 2, 1, none⟩ u').cell? ⟨w.heap.size, 0, none⟩ = some s1 ∧ ((W.setCell ⟨w.heap.size + 2, 0, none⟩ u).setCell ⟨w.heap.size + 2, 1, none⟩ u').cell? ⟨w.heap.size, 1, none⟩ = some (.bool m1) ∧
    ((W.setCell ⟨w.heap.size + 2, 0, none⟩ u).setCell ⟨w.heap.size + 2, 1, none⟩ u').cell? ⟨w.heap.size + 1, 0, none⟩ = some s2 ∧ ((W.setCell ⟨w.heap.size + 2, 0, none⟩ u).setCell ⟨w.heap.size + 2, 1, none⟩ u').cell? ⟨w.heap.size + 1, 1, none⟩ = some (.bool m2) :=
  ⟨((h.x1.other (by omega) _).other (by omega) _).c0, ((h.x1.other (by omega) _).other (by omega) _).c1, ((h.x2.other (by omega) _).other (by omega) _).c0, ((h.x2.other (by omega) _).other (by omega) _).c1⟩
theorem Z2.drew {w W : World} {s1 s2 : Value} {m1 m2 : Bool} {z1 z2 : Int} (h : Z2 w W s1 m1 z1 s2 m2 z2) : Z2 w W.drew s1 m1 z1 s2 m2 z2 := h.later (Below.refl _ _).drew
theorem Z2.start {w : World} {s1 s2 : Value} {m1 m2 : Bool} {z1 z2 : Int} (h1 : Zd w s1 m1 z1) (h2 : Zd w s2 m2 z2) :
    Z2 w (((w.alloc (.cells #[s1, .bool m1] 28)).alloc (.cells #[s2, .bool m2] 28)).alloc (.cells #[.slice none 0 0, .bool false] 28)) s1 m1 z1 s2 m2 z2 := by
  have hb := (((Below.refl w.heap.size w).alloc (Nat.le_refl _) (.cells #[s1, .bool m1] 28)).alloc (by go_size) (.cells #[s2, .bool m2] 28)).alloc (by go_size) (.cells #[.slice none 0 0, .bool false] 28)
  exact ⟨((Bz.new' rfl).alloc _).alloc _, (Bz.new' (by simp)).alloc _, Bz.new' (by simp), h1.mono hb, h2.mono hb, hb⟩

set_option maxHeartbeats 1000000 in
theorem mul_any (a : Option Addr) (n c : Nat) (m : Bool) (z : Int) (a2 : Option Addr) (n2 c2 : Nat) (m2 : Bool) (z2 : Int) (w : World) (h : Zd w (.slice a n c) m z) (h2 : Zd w (.slice a2 n2 c2) m2 z2)
    (hl : (dg 16777216 z.natAbs).length ≤ 10000000) (hl2 : (dg 16777216 z2.natAbs).length ≤ 10000000) :
    Calls Tryz.prog 41 #[.agg #[.slice a n c, .bool m], .agg #[.slice a2 n2 c2, .bool m2]] w (RetZ w (z * z2)) := by
  go_enter Tryz.func41, Tryz.ntmps41
  have hC := Lib.hid (Z2.start h h2)
  have hm1 := Lib.hid h.m
  have hm2 := Lib.hid h2.m
  clear h h2
  have hzz := Lib.hid (show z * z2 = if (m != m2) then -((z.natAbs * z2.natAbs : Nat) : Int) else ((z.natAbs * z2.natAbs : Nat) : Int) from by
    rw [hm1.out, hm2.out, ← Int.natAbs_mul]
    rcases Int.lt_or_le z 0 with h1 | h1 <;> rcases Int.lt_or_le z2 0 with h2 | h2
    · have := Int.mul_pos_of_neg_of_neg h1 h2
      simp only [h1, h2, decide_true, bne_self_eq_false, Bool.false_eq_true, if_false]; omega
    · have := Int.mul_nonpos_of_nonpos_of_nonneg (Int.le_of_lt h1) h2
      simp [h1, Int.not_lt.2 h2]; omega
    · have := Int.mul_nonpos_of_nonneg_of_nonpos h1 (Int.le_of_lt h2)
      simp [h2, Int.not_lt.2 h1]; omega
    · have := Int.mul_nonneg h1 h2
      simp only [Int.not_lt.2 h1, Int.not_lt.2 h2, decide_false, bne_self_eq_false, Bool.false_eq_true, if_false]; omega)
  go_wp2
  go_region_held3 (fun w' => w'.cell? ⟨w.heap.size, 0, none⟩ = some (.slice a n c) ∧ w'.cell? ⟨w.heap.size, 1, none⟩ = some (.bool m) ∧ w'.cell? ⟨w.heap.size + 1, 0, none⟩ = some (.slice a2 n2 c2) ∧ w'.cell? ⟨w.heap.size + 1, 1, none⟩ = some (.bool m2))
    (first | exact hCb.out.S' _ _ | exact hCb.out.S | exact hCa.out.S | exact hC.out.S)
    (first
      | (go_at_call 122; refine (times_any a n c a2 n2 c2 z.natAbs z2.natAbs _ hC.out.drew.d1.d hC.out.drew.d2.d hl hl2).mono ?_; rintro e wa ⟨b1, k1, d1, rfl, hd, hb⟩; have hCa := Lib.hid (hC.out.drew.later hb); have hDa := Lib.hid hd; clear hd hb)
      | (go_at_call 101; refine (made_any (m != m2) b1 k1 d1 (z.natAbs * z2.natAbs) _ hDa.out (z * z2) hzz.out).mono ?_; rintro e wb ⟨b2, k2, d2, mb, rfl, hz, hb⟩; have hCb := Lib.hid (hCa.out.later hb); have hZb := Lib.hid hz; have HBb := Lib.hid hb; clear hz hb; have c0 := hCb.out.x3.c0; have c1 := hCb.out.x3.c1; have f0 := hCb.out.x3.f0; have f1 := hCb.out.x3.f1))
  go_wp2
  have bs := fun u u' => (hCb.out.x3.set u u').c0
  have bs1 := fun u u' => (hCb.out.x3.set u u').c1
  exact bodyPost_ret (v := .agg #[.slice b2 k2 d2, .bool mb]) (by simp [results, Tryz.results41, go_sem, bs, bs1]) rfl (fin_Z hCa.out.be HBb.out hCb.out.x3 (Nat.le_add_right _ 2) hZb.out)

end Go.Proofs.YtmfplelodnoicaaGreatDoor
namespace Go.Proofs.YtmfplelodnoicaaGreatDoor
open Go.RowKit Dig

theorem bool_f : ∀ {a b : Bool}, ¬ a = b → a = true → b = false
  | true, false, _, _ => rfl
  | true, true, h, _ => absurd rfl h
theorem bool_t : ∀ {a b : Bool}, ¬ a = b → a = false → b = true
  | false, true, _, _ => rfl
  | false, false, h, _ => absurd rfl h

set_option maxHeartbeats 2000000 in
theorem add_any (a : Option Addr) (n c : Nat) (m : Bool) (z : Int) (a2 : Option Addr) (n2 c2 : Nat) (m2 : Bool) (z2 : Int) (w : World) (h : Zd w (.slice a n c) m z) (h2 : Zd w (.slice a2 n2 c2) m2 z2)
    (hl : (dg 16777216 z.natAbs).length ≤ 10000000) (hl2 : (dg 16777216 z2.natAbs).length ≤ 10000000) :
    Calls Tryz.prog 37 #[.agg #[.slice a n c, .bool m], .agg #[.slice a2 n2 c2, .bool m2]] w (RetZ w (z + z2)) := by
  go_enter Tryz.func37, Tryz.ntmps37
  have hC := Lib.hid (Z2.start h h2)
  have hm1 := h.m
  have hm2 := h2.m
  clear h h2
  by_cases hmm : m = m2
  · subst hmm
    have hzz := Lib.hid (show z + z2 = if m then -((((z.natAbs : Nat) : Int) + 1 * (z2.natAbs : Nat)).toNat : Int) else ((((z.natAbs : Nat) : Int) + 1 * (z2.natAbs : Nat)).toNat : Int) from by
      by_cases h : z < 0
      · have e1 : m = true := by rw [hm1]; simpa using h
        have e2 : z2 < 0 := by rw [e1] at hm2; simpa using hm2.symm
        subst e1; simp only [if_true]; omega
      · have e1 : m = false := by rw [hm1]; simpa using h
        have e2 : ¬ z2 < 0 := by rw [e1] at hm2; simpa using hm2.symm
        subst e1; simp only [Bool.false_eq_true, if_false]; omega)
    clear hm1 hm2
    go_wp2_with fail
    go_region_held3 (fun w' => w'.cell? ⟨w.heap.size, 0, none⟩ = some (.slice a n c) ∧ w'.cell? ⟨w.heap.size, 1, none⟩ = some (.bool m) ∧ w'.cell? ⟨w.heap.size + 1, 0, none⟩ = some (.slice a2 n2 c2) ∧ w'.cell? ⟨w.heap.size + 1, 1, none⟩ = some (.bool m))
      (first | exact hCb.out.S' _ _ | exact hCb.out.S | exact hCa.out.S | exact hC.out.S)
      (first
        | (go_at_call 120; refine (plus_any a n c a2 n2 c2 1 z.natAbs z2.natAbs _ hC.out.drew.d1.d hC.out.drew.d2.d (.inl rfl) (by omega) hl hl2).mono ?_; rintro e wa ⟨b1, k1, d1, rfl, hd, hb⟩; have hCa := Lib.hid (hC.out.drew.later hb); have hDa := Lib.hid hd; clear hd hb)
        | (go_at_call 101; refine (made_any m b1 k1 d1 _ _ hDa.out (z + z2) hzz.out).mono ?_; rintro e wb ⟨b2, k2, d2, mb, rfl, hz, hb⟩; have hCb := Lib.hid (hCa.out.later hb); have hZb := Lib.hid hz; have HBb := Lib.hid hb; clear hz hb; have c0 := hCb.out.x3.c0; have c1 := hCb.out.x3.c1; have f0 := hCb.out.x3.f0; have f1 := hCb.out.x3.f1))
    go_wp2
    have bs := fun u u' => (hCb.out.x3.set u u').c0
    have bs1 := fun u u' => (hCb.out.x3.set u u').c1
    exact bodyPost_ret (v := .agg #[.slice b2 k2 d2, .bool mb]) (by simp [results, Tryz.results37, go_sem, bs, bs1]) rfl (fin_Z hCa.out.be HBb.out hCb.out.x3 (Nat.le_add_right _ 2) hZb.out)
  · have hmb : (m == m2) = false := by simpa using hmm
    have H1 := Lib.hid hm1
    have H2 := Lib.hid hm2
    have HM := Lib.hid hmm
    clear hm1 hm2 hmm
    go_wp2_with fail
    refine (size_any _ _ _ _ _ _ z.natAbs z2.natAbs _ hC.out.d1.d hC.out.d2.d hl hl2).mono ?_
    rintro e wz ⟨rfl, hb⟩
    have hC1 := Lib.hid (hC.out.later hb)
    clear hb hC
    by_cases hlt : z.natAbs < z2.natAbs
    · have hc : cmpN z.natAbs z2.natAbs = -1 := by unfold cmpN; rw [if_pos hlt]
      have hzz := Lib.hid (show z + z2 = if m2 then -((((z2.natAbs : Nat) : Int) + (-1) * (z.natAbs : Nat)).toNat : Int) else ((((z2.natAbs : Nat) : Int) + (-1) * (z.natAbs : Nat)).toNat : Int) from by
        have hm1 := H1.out
        have hm2 := H2.out
        have hmm := HM.out
        by_cases h : z < 0
        · have e1 : m = true := by rw [hm1]; simpa using h
          have e2 : m2 = false := bool_f hmm e1
          rw [e2] at hm2; have e3 : ¬ z2 < 0 := by simpa using hm2.symm
          subst e2; simp only [Bool.false_eq_true, if_false]; omega
        · have e1 : m = false := by rw [hm1]; simpa using h
          have e2 : m2 = true := bool_t hmm e1
          rw [e2] at hm2; have e3 : z2 < 0 := by simpa using hm2.symm
          subst e2; simp only [if_true]; omega)
      rw [hc]
      go_wp2_with fail
      go_region_held3 (fun w' => w'.cell? ⟨w.heap.size, 0, none⟩ = some (.slice a n c) ∧ w'.cell? ⟨w.heap.size, 1, none⟩ = some (.bool m) ∧ w'.cell? ⟨w.heap.size + 1, 0, none⟩ = some (.slice a2 n2 c2) ∧ w'.cell? ⟨w.heap.size + 1, 1, none⟩ = some (.bool m2))
        (first | exact hCb.out.S' _ _ | exact hCb.out.S | exact hCa.out.S | exact hC1.out.S)
        (first
          | (go_at_call 120; refine (plus_any a2 n2 c2 a n c (-1) z2.natAbs z.natAbs _ hC1.out.drew.d2.d hC1.out.drew.d1.d (.inr rfl) (by omega) hl2 hl).mono ?_; rintro e wa ⟨b1, k1, d1, rfl, hd, hb⟩; have hCa := Lib.hid (hC1.out.drew.later hb); have hDa := Lib.hid hd; clear hd hb)
          | (go_at_call 101; refine (made_any m2 b1 k1 d1 _ _ hDa.out (z + z2) hzz.out).mono ?_; rintro e wb ⟨b2, k2, d2, mb, rfl, hz, hb⟩; have hCb := Lib.hid (hCa.out.later hb); have hZb := Lib.hid hz; have HBb := Lib.hid hb; clear hz hb; have c0 := hCb.out.x3.c0; have c1 := hCb.out.x3.c1; have f0 := hCb.out.x3.f0; have f1 := hCb.out.x3.f1))
      go_wp2
      have bs := fun u u' => (hCb.out.x3.set u u').c0
      have bs1 := fun u u' => (hCb.out.x3.set u u').c1
      exact bodyPost_ret (v := .agg #[.slice b2 k2 d2, .bool mb]) (by simp [results, Tryz.results37, go_sem, bs, bs1]) rfl (fin_Z hCa.out.be HBb.out hCb.out.x3 (Nat.le_add_right _ 2) hZb.out)
    · have hc : ¬ cmpN z.natAbs z2.natAbs < 0 := by unfold cmpN; rw [if_neg hlt]; split <;> omega
      have hzz := Lib.hid (show z + z2 = if m then -((((z.natAbs : Nat) : Int) + (-1) * (z2.natAbs : Nat)).toNat : Int) else ((((z.natAbs : Nat) : Int) + (-1) * (z2.natAbs : Nat)).toNat : Int) from by
        have hm1 := H1.out
        have hm2 := H2.out
        have hmm := HM.out
        by_cases h : z < 0
        · have e1 : m = true := by rw [hm1]; simpa using h
          have e2 : m2 = false := bool_f hmm e1
          rw [e2] at hm2; have e3 : ¬ z2 < 0 := by simpa using hm2.symm
          subst e1; simp only [if_true]; omega
        · have e1 : m = false := by rw [hm1]; simpa using h
          have e2 : m2 = true := bool_t hmm e1
          rw [e2] at hm2; have e3 : z2 < 0 := by simpa using hm2.symm
          subst e1; simp only [Bool.false_eq_true, if_false]; omega)
      go_wp2_with fail
      go_region_held3 (fun w' => w'.cell? ⟨w.heap.size, 0, none⟩ = some (.slice a n c) ∧ w'.cell? ⟨w.heap.size, 1, none⟩ = some (.bool m) ∧ w'.cell? ⟨w.heap.size + 1, 0, none⟩ = some (.slice a2 n2 c2) ∧ w'.cell? ⟨w.heap.size + 1, 1, none⟩ = some (.bool m2))
        (first | exact hCb.out.S' _ _ | exact hCb.out.S | exact hCa.out.S | exact hC1.out.S)
        (first
          | (go_at_call 120; refine (plus_any a n c a2 n2 c2 (-1) z.natAbs z2.natAbs _ hC1.out.drew.d1.d hC1.out.drew.d2.d (.inr rfl) (by omega) hl hl2).mono ?_; rintro e wa ⟨b1, k1, d1, rfl, hd, hb⟩; have hCa := Lib.hid (hC1.out.drew.later hb); have hDa := Lib.hid hd; clear hd hb)
          | (go_at_call 101; refine (made_any m b1 k1 d1 _ _ hDa.out (z + z2) hzz.out).mono ?_; rintro e wb ⟨b2, k2, d2, mb, rfl, hz, hb⟩; have hCb := Lib.hid (hCa.out.later hb); have hZb := Lib.hid hz; have HBb := Lib.hid hb; clear hz hb; have c0 := hCb.out.x3.c0; have c1 := hCb.out.x3.c1; have f0 := hCb.out.x3.f0; have f1 := hCb.out.x3.f1))
      go_wp2
      have bs := fun u u' => (hCb.out.x3.set u u').c0
      have bs1 := fun u u' => (hCb.out.x3.set u u').c1
      exact bodyPost_ret (v := .agg #[.slice b2 k2 d2, .bool mb]) (by simp [results, Tryz.results37, go_sem, bs, bs1]) rfl (fin_Z hCa.out.be HBb.out hCb.out.x3 (Nat.le_add_right _ 2) hZb.out)

end Go.Proofs.YtmfplelodnoicaaGreatDoor
namespace Go.Proofs.YtmfplelodnoicaaGreatDoor
open Go.RowKit Dig

set_option maxHeartbeats 1000000 in
theorem sub_any (a : Option Addr) (n c : Nat) (m : Bool) (z : Int) (a2 : Option Addr) (n2 c2 : Nat) (m2 : Bool) (z2 : Int) (w : World) (h : Zd w (.slice a n c) m z) (h2 : Zd w (.slice a2 n2 c2) m2 z2)
    (hl : (dg 16777216 z.natAbs).length ≤ 10000000) (hl2 : (dg 16777216 z2.natAbs).length ≤ 10000000) :
    Calls Tryz.prog 39 #[.agg #[.slice a n c, .bool m], .agg #[.slice a2 n2 c2, .bool m2]] w (RetZ w (z - z2)) := by
  go_enter Tryz.func39, Tryz.ntmps39
  have hC := Lib.hid (Z2.start h h2)
  have hln := Lib.hid (show (dg 16777216 (-z2).natAbs).length ≤ 10000000 by rw [Int.natAbs_neg]; exact hl2)
  clear h h2
  go_wp2
  go_region_held3 (fun w' => w'.cell? ⟨w.heap.size, 0, none⟩ = some (.slice a n c) ∧ w'.cell? ⟨w.heap.size, 1, none⟩ = some (.bool m) ∧ w'.cell? ⟨w.heap.size + 1, 0, none⟩ = some (.slice a2 n2 c2) ∧ w'.cell? ⟨w.heap.size + 1, 1, none⟩ = some (.bool m2))
    (first | exact hCb.out.S' _ _ | exact hCb.out.S | exact hCa.out.S | exact hC.out.S)
    (first
      | (go_at_call 43; refine (neg_any a2 n2 c2 m2 z2 _ hC.out.drew.d2).mono ?_; rintro e wa ⟨b1, k1, d1, ma, rfl, hd, hb⟩; have hCa := Lib.hid (hC.out.drew.later hb); have hDa := Lib.hid hd; clear hd hb)
      | (go_at_call 37; refine (add_any a n c m z b1 k1 d1 ma (-z2) _ hCa.out.d1 hDa.out hl hln.out).mono ?_; rintro e wb ⟨b2, k2, d2, mb, rfl, hz, hb⟩; have hCb := Lib.hid (hCa.out.later hb); have hZb := Lib.hid hz; have HBb := Lib.hid hb; clear hz hb; have c0 := hCb.out.x3.c0; have c1 := hCb.out.x3.c1; have f0 := hCb.out.x3.f0; have f1 := hCb.out.x3.f1))
  go_wp2
  have bs := fun u u' => (hCb.out.x3.set u u').c0
  have bs1 := fun u u' => (hCb.out.x3.set u u').c1
  have hz : Zd wb (.slice b2 k2 d2) mb (z - z2) := by rw [Int.sub_eq_add_neg]; exact hZb.out
  exact bodyPost_ret (v := .agg #[.slice b2 k2 d2, .bool mb]) (by simp [results, Tryz.results39, go_sem, bs, bs1]) rfl (fin_Z hCa.out.be HBb.out hCb.out.x3 (Nat.le_add_right _ 2) hz)

/-- the sign of an integer -/
def sgn (z : Int) : Int := if z = 0 then 0 else if z < 0 then -1 else 1

set_option maxHeartbeats 400000 in
theorem sign_any (a : Option Addr) (n c : Nat) (m : Bool) (z : Int) (w : World) (h : Zd w (.slice a n c) m z) :
    Calls Tryz.prog 18 #[.agg #[.slice a n c, .bool m]] w fun e w' => e = .returned (.int .i64 (sgn z)) ∧ Below w.heap.size w w' := by
  have hn := Sl.len h.d
  have e0 : (n = 0) ↔ z = 0 := by
    rw [hn, List.length_eq_zero_iff, dg_nil_iff (b := 16777216) (by omega)]; omega
  have HM := Lib.hid h.m
  go_enter Tryz.func18, Tryz.ntmps18
  have hW := Lib.hid (((Below.refl w.heap.size w).alloc (Nat.le_refl _) (.cells #[.slice a n c, .bool m] 28)).alloc (by go_size) (.cells #[.slice a n c] 26))
  have hx := (Bz.new' (w := w) (s := .slice a n c) (m := m) (b := w.heap.size) rfl).alloc (.cells #[.slice a n c] 26)
  have c0 := hx.c0
  have c1 := hx.c1
  clear h hx hn
  go_wp2_with fail
  refine (none_any _ _ _ _).mono ?_
  rintro e w' ⟨rfl, rfl⟩
  by_cases hz : z = 0
  · have hn0 : ((n : Int) == 0) = true := by simpa using e0.2 hz
    rw [hn0]
    go_wp2
    go_ret
    exact ⟨by simp [sgn, hz], hW.out⟩
  · have hn0 : ((n : Int) == 0) = false := by simpa using fun e => hz (e0.1 e)
    rw [hn0]
    by_cases hlt : z < 0
    · have e1 : m = true := by rw [HM.out]; simpa using hlt
      subst e1
      go_wp2
      go_ret
      exact ⟨by simp [sgn, hz, hlt], hW.out⟩
    · have e1 : m = false := by rw [HM.out]; simpa using hlt
      subst e1
      go_wp2
      go_ret
      exact ⟨by simp [sgn, hz, hlt], hW.out⟩

set_option maxHeartbeats 400000 in
theorem int_any (k : Int) (hk : -9223372036854775808 ≤ k ∧ k < 9223372036854775808) (w : World) : Calls Tryz.prog 35 #[.int .i64 k] w (RetZ w k) := by
  go_enter Tryz.func35, Tryz.ntmps35
  have hX := Lib.hid (Bz.new' (w := w) (s := .slice none 0 0) (m := false) (b := w.heap.size) rfl)
  have hW := Lib.hid ((Below.refl w.heap.size w).alloc (Nat.le_refl _) (.cells #[.slice none 0 0, .bool false] 28))
  by_cases hlt : k < 0
  · have e1 : IntKind.u64.wrap k = ((18446744073709551616 - k.natAbs : Nat) : Int) := by rw [IntKind.wrap_u64]; omega
    have e2 : IntKind.u64.wrap (-((18446744073709551616 - k.natAbs : Nat) : Int)) = ((k.natAbs : Nat) : Int) := by rw [IntKind.wrap_u64]; omega
    go_wp2_with fail
    refine (word_any k.natAbs _ (by omega)).mono ?_
    rintro e wa ⟨b1, k1, d1, rfl, hd, hb⟩
    have hXa := Lib.hid (hX.out.below hb); have hWa := Lib.hid (hW.out.trans (hb.mono hW.out.size)); have hDa := Lib.hid hd
    clear hd hb
    go_wp2_with fail
    refine (made_any true b1 k1 d1 k.natAbs _ hDa.out k (by simp; omega)).mono ?_
    rintro e wb ⟨b2, k2, d2, mb, rfl, hz, hb⟩
    have hXb := Lib.hid (hXa.out.below hb); have hZb := Lib.hid hz; have HBb := Lib.hid hb
    clear hz hb
    have c0 := hXb.out.c0; have c1 := hXb.out.c1; have f0 := hXb.out.f0; have f1 := hXb.out.f1
    go_wp2
    have bs := fun u u' => (hXb.out.set u u').c0
    have bs1 := fun u u' => (hXb.out.set u u').c1
    exact bodyPost_ret (v := .agg #[.slice b2 k2 d2, .bool mb]) (by simp [results, Tryz.results35, go_sem, bs, bs1]) rfl (fin_Z hWa.out HBb.out hXb.out (Nat.le_refl _) hZb.out)
  · have e1 : IntKind.u64.wrap k = ((k.natAbs : Nat) : Int) := by rw [IntKind.wrap_u64]; omega
    go_wp2_with fail
    refine (word_any k.natAbs _ (by omega)).mono ?_
    rintro e wa ⟨b1, k1, d1, rfl, hd, hb⟩
    have hXa := Lib.hid (hX.out.below hb); have hWa := Lib.hid (hW.out.trans (hb.mono hW.out.size)); have hDa := Lib.hid hd
    clear hd hb
    go_wp2_with fail
    refine (made_any false b1 k1 d1 k.natAbs _ hDa.out k (by simp; omega)).mono ?_
    rintro e wb ⟨b2, k2, d2, mb, rfl, hz, hb⟩
    have hXb := Lib.hid (hXa.out.below hb); have hZb := Lib.hid hz; have HBb := Lib.hid hb
    clear hz hb
    have c0 := hXb.out.c0; have c1 := hXb.out.c1; have f0 := hXb.out.f0; have f1 := hXb.out.f1
    go_wp2
    have bs := fun u u' => (hXb.out.set u u').c0
    have bs1 := fun u u' => (hXb.out.set u u').c1
    exact bodyPost_ret (v := .agg #[.slice b2 k2 d2, .bool mb]) (by simp [results, Tryz.results35, go_sem, bs, bs1]) rfl (fin_Z hWa.out HBb.out hXb.out (Nat.le_refl _) hZb.out)

set_option maxHeartbeats 400000 in
theorem cmp_any (a : Option Addr) (n c : Nat) (m : Bool) (z : Int) (a2 : Option Addr) (n2 c2 : Nat) (m2 : Bool) (z2 : Int) (w : World) (h : Zd w (.slice a n c) m z) (h2 : Zd w (.slice a2 n2 c2) m2 z2)
    (hl : (dg 16777216 z.natAbs).length ≤ 10000000) (hl2 : (dg 16777216 z2.natAbs).length ≤ 10000000) :
    Calls Tryz.prog 31 #[.agg #[.slice a n c, .bool m], .agg #[.slice a2 n2 c2, .bool m2]] w fun e w' => e = .returned (.int .i64 (sgn (z - z2))) ∧ Below w.heap.size w w' := by
  go_enter Tryz.func31, Tryz.ntmps31
  have hB := Lib.hid (((Below.refl w.heap.size w).alloc (Nat.le_refl _) (.cells #[.slice a n c, .bool m] 28)).alloc (by go_size) (.cells #[.slice a2 n2 c2, .bool m2] 28))
  have hz1 := Lib.hid (h.mono hB.out)
  have hz2 := Lib.hid (h2.mono hB.out)
  clear h h2
  go_wp2_with fail
  refine (sub_any _ _ _ _ z _ _ _ _ z2 _ hz1.out hz2.out hl hl2).mono ?_
  rintro e wa ⟨b1, k1, d1, m3, rfl, hd, hb⟩
  have hBa := Lib.hid (hB.out.trans (hb.mono hB.out.size)); have hDa := Lib.hid hd
  clear hd hb
  go_wp2_with fail
  refine (sign_any _ _ _ _ _ _ hDa.out).mono ?_
  rintro e wb ⟨rfl, hb⟩
  have hBb := Lib.hid (hBa.out.trans (hb.mono hBa.out.size))
  clear hb
  go_wp2
  go_ret
  exact ⟨rfl, hBb.out⟩

end Go.Proofs.YtmfplelodnoicaaGreatDoor
namespace Go.Proofs.YtmfplelodnoicaaGreatDoor
theorem sgn_num (q : Rat) : sgn q.num = sgnQ q := by
  unfold sgn sgnQ
  have h : q.num < 0 ↔ q < 0 := by
    rw [← Int.not_le, Rat.num_nonneg, Rat.not_le]
  simp only [Rat.num_eq_zero, h]
theorem sgn_cross (a b : Rat) : sgn (a.num * b.den - b.num * a.den) = cmpQ a b := by
  unfold sgn cmpQ
  have h1 : a.num * b.den - b.num * a.den = 0 ↔ a = b := by rw [Rat.eq_iff_mul_eq_mul]; omega
  have h2 : a.num * b.den - b.num * a.den < 0 ↔ a < b := by rw [Rat.lt_iff]; omega
  simp only [h1, h2]
theorem cmpQ_zero (a : Rat) : cmpQ a 0 = sgnQ a := rfl
theorem ratio_parts (n d : Int) (hd : d ≠ 0) :
    n / (if d < 0 then -(Int.gcd n d : Int) else (Int.gcd n d : Int)) = (Rat.divInt n d).num ∧ d / (if d < 0 then -(Int.gcd n d : Int) else (Int.gcd n d : Int)) = ((Rat.divInt n d).den : Int) := by
  rw [Rat.num_divInt, Rat.den_divInt, if_neg hd, Int.gcd_comm d n]
  have g1 : ((Int.gcd n d : Nat) : Int) ∣ n := Int.gcd_dvd_left ..
  have g2 : ((Int.gcd n d : Nat) : Int) ∣ d := Int.gcd_dvd_right ..
  rcases Int.lt_trichotomy d 0 with h | h | h
  · rw [if_pos h, Int.sign_eq_neg_one_of_neg h, Int.ediv_neg, Int.ediv_neg, Int.neg_one_mul, Int.neg_ediv_of_dvd g1]
    refine ⟨rfl, ?_⟩
    rw [← Int.neg_ediv_of_dvd g2]
    rw [show -d = ((d.natAbs : Nat) : Int) by omega]
    exact_mod_cast rfl
  · exact absurd h hd
  · rw [if_neg (by omega), Int.sign_eq_one_of_pos h, Int.one_mul]
    refine ⟨rfl, ?_⟩
    conv => lhs; rw [show d = ((d.natAbs : Nat) : Int) by omega]
    exact_mod_cast rfl
theorem gcd_pos' (n : Int) {d : Int} (hd : d ≠ 0) : (0 : Int) < Int.gcd n d := by
  have : 0 < Int.gcd n d := Int.gcd_pos_of_ne_zero_right n hd
  omega
theorem abs_num (q : Rat) : (if 0 ≤ q then q else -q).num = (q.num.natAbs : Int) := by
  by_cases h : 0 ≤ q
  · rw [if_pos h]; have := Rat.num_nonneg.2 h; omega
  · rw [if_neg h, Rat.neg_num]; have := mt Rat.num_nonneg.1 h; omega
theorem abs_den (q : Rat) : (if 0 ≤ q then q else -q).den = q.den := by
  by_cases h : 0 ≤ q
  · rw [if_pos h]
  · rw [if_neg h, Rat.neg_den]
theorem floor_eq (q : Rat) : q.num / (q.den : Int) = q.floor := (Rat.floor_def q).symm
end Go.Proofs.YtmfplelodnoicaaGreatDoor
namespace Go.Proofs.YtmfplelodnoicaaGreatDoor
open Go.RowKit Dig

/-- a type whose blocks are rows (digits, groups) -/
def rowT (t : TypeId) : Bool := t == 2 || t == 3 || t == 9
def rowO : Obj → Bool
  | .cells _ e _ => rowT e
  | _ => false

/-- no row has turned -/
structure Keeps (W W' : World) : Prop where
  size : W.heap.size ≤ W'.heap.size
  row : ∀ (k : Nat) (o : Obj), W.heap[k]? = some o → rowO o = true → W'.heap[k]? = some o

theorem Keeps.refl (W : World) : Keeps W W := ⟨Nat.le_refl _, fun _ _ h _ => h⟩
theorem Keeps.trans {A B C : World} (h : Keeps A B) (k : Keeps B C) : Keeps A C := ⟨Nat.le_trans h.size k.size, fun i o h1 h2 => k.row i o (h.row i o h1 h2) h2⟩
theorem Below.keeps {W W' : World} (h : Below W.heap.size W W') : Keeps W W' := ⟨h.size, fun k _ h1 _ => (h.block k (Array.getElem?_eq_some_iff.1 h1).1).trans h1⟩
theorem Keeps.alloc {A W : World} (h : Keeps A W) (o : Obj) : Keeps A (W.alloc o) := h.trans (Below.keeps ((Below.refl _ _).alloc (Nat.le_refl _) _))
theorem Keeps.drew {A W : World} (h : Keeps A W) : Keeps A W.drew := h.trans (Below.keeps (Below.refl _ _).drew)
theorem Sl.keep {t : TypeId} {w w' : World} {v : Value} {xs : List Int} (h : Sl t w v xs) (ht : rowT t = true) (hk : Keeps w w') : Sl t w' v xs := by
  refine ⟨h.1, ?_⟩
  rcases h.2 with hn | ⟨g, cap, cur, rfl, hb0, hg, rest⟩
  · exact .inl hn
  · exact .inr ⟨g, cap, cur, rfl, hb0, hk.row g _ hg ht, rest⟩
theorem Dg.keep {w w' : World} {v : Value} {N : Nat} (h : Dg w v N) (hk : Keeps w w') : Dg w' v N := Sl.keep h rfl hk
theorem Zd.keep {w w' : World} {s : Value} {m : Bool} {z : Int} (h : Zd w s m z) (hk : Keeps w w') : Zd w' s m z := ⟨h.d.keep hk, h.m⟩

/-- W is what has become of w in a call: the call's own blocks bs, the readings rs -/
structure St (w W : World) (bs : List (Nat × Array Value × TypeId)) (rs : List (World → Prop)) : Prop where
  be : Below w.heap.size w W
  bx : ∀ x ∈ bs, w.heap.size ≤ x.1 ∧ x.1 < W.heap.size ∧ W.heap[x.1]? = some (.cells x.2.1 x.2.2 (0, 0)) ∧ rowT x.2.2 = false
  inc : bs.Pairwise (fun x y => x.1 ≠ y.1)
  rd : ∀ r ∈ rs, (∀ V V', Keeps V V' → r V → r V') ∧ r W

section
variable {w W : World} {bs : List (Nat × Array Value × TypeId)} {rs : List (World → Prop)}

theorem St.enter (w : World) : St w w [] [] := ⟨Below.refl _ _, by simp, .nil, by simp⟩

theorem St.at_ (h : St w W bs rs) (i : Nat) {b : Nat} {cs : Array Value} {t : TypeId} (hx : bs[i]? = some (b, cs, t)) : w.heap.size ≤ b ∧ b < W.heap.size ∧ W.heap[b]? = some (.cells cs t (0, 0)) ∧ rowT t = false :=
  h.bx _ (List.mem_of_getElem? hx)
theorem St.cell (h : St w W bs rs) (i j : Nat) {b : Nat} {cs : Array Value} {t : TypeId} {v : Value} (hx : bs[i]? = some (b, cs, t)) (hv : cs[j]? = some v) : W.cell? ⟨b, j, none⟩ = some v := by
  have := (h.at_ i hx).2.2.1
  simp [World.cell?, this, hv]
theorem St.free (h : St w W bs rs) (i j : Nat) {b : Nat} {cs : Array Value} {t : TypeId} (hx : bs[i]? = some (b, cs, t)) : W.frozen? ⟨b, j, none⟩ = false := by
  have := (h.at_ i hx).2.2.1
  simp [World.frozen?, this]
theorem St.lt (h : St w W bs rs) (i : Nat) {b : Nat} {cs : Array Value} {t : TypeId} (hx : bs[i]? = some (b, cs, t)) : b < W.heap.size := (h.at_ i hx).2.1
theorem St.ge (h : St w W bs rs) (i : Nat) {b : Nat} {cs : Array Value} {t : TypeId} (hx : bs[i]? = some (b, cs, t)) : w.heap.size ≤ b := (h.at_ i hx).1

theorem St.call {W' : World} (h : St w W bs rs) (hb : Below W.heap.size W W') : St w W' bs rs where
  be := h.be.trans (hb.mono h.be.size)
  bx x hx := by
    obtain ⟨h1, h2, h3, h4⟩ := h.bx x hx
    exact ⟨h1, Nat.lt_of_lt_of_le h2 hb.size, (hb.block _ h2).trans h3, h4⟩
  inc := h.inc
  rd r hr := ⟨(h.rd r hr).1, (h.rd r hr).1 _ _ (Below.keeps hb) (h.rd r hr).2⟩
theorem St.drew (h : St w W bs rs) : St w W.drew bs rs := h.call (Below.refl _ _).drew
theorem St.drewN (h : St w W bs rs) (n : Nat) : St w (W.drewN n) bs rs := h.call (Below.drewN (Below.refl _ _) n)
theorem St.row (h : St w W bs rs) {o : Obj} : St w (W.alloc o) bs rs := h.call ((Below.refl _ _).alloc (Nat.le_refl _) _)
theorem St.al (h : St w W bs rs) (b : Nat) (cs : Array Value) (t : TypeId) (hb : b = W.heap.size) (ht : rowT t = false) : St w (W.alloc (.cells cs t)) (bs ++ [(b, cs, t)]) rs where
  be := h.row.be
  bx x hx := by
    rcases List.mem_append.1 hx with hx | hx
    · exact h.row.bx x hx
    · rcases List.mem_singleton.1 hx with rfl
      subst hb
      exact ⟨h.be.size, by simp, by rw [heap_alloc_get, if_pos rfl], ht⟩
  inc := by
    rw [List.pairwise_append]
    refine ⟨h.inc, List.pairwise_singleton _ _, fun a ha x hx => ?_⟩
    rcases List.mem_singleton.1 hx with rfl
    subst hb
    exact Nat.ne_of_lt (h.bx a ha).2.1
  rd := h.row.rd
theorem St.set (h : St w W bs rs) (i : Nat) {j b : Nat} {cs : Array Value} {t : TypeId} {v : Value} (hx : bs[i]? = some (b, cs, t)) : St w (W.setCell ⟨b, j, none⟩ v) (bs.set i (b, cs.setIfInBounds j v, t)) rs := by
  obtain ⟨h1, h2, h3, h4⟩ := h.at_ i hx
  have hi : i < bs.length := (List.getElem?_eq_some_iff.1 hx).1
  have hx' : bs[i] = (b, cs, t) := (List.getElem?_eq_some_iff.1 hx).2
  have hsz : (W.setCell ⟨b, j, none⟩ v).heap.size = W.heap.size := by simp [World.setCell]
  have hk : Keeps W (W.setCell ⟨b, j, none⟩ v) := ⟨by rw [hsz]; exact Nat.le_refl _, fun k o ho hr => by
    rw [Below.heap_setCell _ _ _ _ (fun e => ?_)]
    · exact ho
    · subst e
      rw [h3] at ho
      simp only [Option.some.injEq] at ho
      subst ho
      simp only [rowO] at hr
      rw [h4] at hr
      exact Bool.noConfusion hr⟩
  refine ⟨h.be.setCell h1 _, fun x hxm => ?_, ?_, fun r hr => ⟨(h.rd r hr).1, (h.rd r hr).1 _ _ hk (h.rd r hr).2⟩⟩
  · obtain ⟨k, hkl, hk2⟩ := List.getElem_of_mem hxm
    rw [List.length_set] at hkl
    rw [List.getElem_set] at hk2
    by_cases e : i = k
    · rw [if_pos e] at hk2
      subst hk2
      refine ⟨h1, by rw [hsz]; exact h2, ?_, h4⟩
      simp [World.setCell, Array.getElem?_modify, h3]
    · rw [if_neg e] at hk2
      subst hk2
      obtain ⟨g1, g2, g3, g4⟩ := h.bx bs[k] (List.getElem_mem hkl)
      refine ⟨g1, by rw [hsz]; exact g2, ?_, g4⟩
      rw [Below.heap_setCell _ _ _ _ (fun e' => ?_)]
      · exact g3
      · have hp := List.pairwise_iff_getElem.1 h.inc
        rcases Nat.lt_or_gt_of_ne e with l | l
        · have := hp i k hi hkl l
          rw [hx'] at this
          simp only at this e'
          omega
        · have := hp k i hkl hi l
          rw [hx'] at this
          simp only at this e'
          omega
  · rw [List.pairwise_iff_getElem]
    intro p q hp hq hpq
    rw [List.length_set] at hp hq
    have := List.pairwise_iff_getElem.1 h.inc p q hp hq hpq
    rw [List.getElem_set, List.getElem_set]
    by_cases e1 : i = p <;> by_cases e2 : i = q
    · omega
    · subst e1; rw [if_pos rfl, if_neg e2]; rw [hx'] at this; exact this
    · subst e2; rw [if_pos rfl, if_neg e1]; rw [hx'] at this; exact this
    · rw [if_neg e1, if_neg e2]; exact this

theorem St.push {r : World → Prop} (h : St w W bs rs) (hp : ∀ V V', Keeps V V' → r V → r V') (hr : r W) : St w W bs (rs ++ [r]) :=
  ⟨h.be, h.bx, h.inc, fun q hq => by
    rcases List.mem_append.1 hq with hq | hq
    · exact h.rd q hq
    · rcases List.mem_singleton.1 hq with rfl
      exact ⟨hp, hr⟩⟩
theorem St.pz (h : St w W bs rs) {s : Value} {m : Bool} {z : Int} (hz : Zd W s m z) : St w W bs (rs ++ [fun V => Zd V s m z]) := h.push (fun _ _ k hz => hz.keep k) hz
theorem St.pd (h : St w W bs rs) {s : Value} {N : Nat} (hz : Dg W s N) : St w W bs (rs ++ [fun V => Dg V s N]) := h.push (fun _ _ k hz => hz.keep k) hz
theorem St.z (h : St w W bs rs) (i : Nat) {s : Value} {m : Bool} {z : Int} (hx : rs[i]? = some (fun V => Zd V s m z)) : Zd W s m z := (h.rd _ (List.mem_of_getElem? hx)).2
theorem St.d (h : St w W bs rs) (i : Nat) {s : Value} {N : Nat} (hx : rs[i]? = some (fun V => Dg V s N)) : Dg W s N := (h.rd _ (List.mem_of_getElem? hx)).2
theorem St.zd (h : St w W bs rs) (i : Nat) {s : Value} {m : Bool} {z : Int} (hx : rs[i]? = some (fun V => Zd V s m z)) : Dg W s z.natAbs := (h.z i hx).d
theorem St.fz (h : St w W bs rs) {s : Value} {m : Bool} {z : Int} (hz : Zd W s m z) {a : Option Addr} {n c : Nat} (hs : s = .slice a n c) : RetZ w z (.returned (.agg #[s, .bool m])) W := by
  subst hs; exact ⟨a, n, c, m, rfl, hz, h.be⟩
theorem St.pick (h : St w W bs rs) (is : List Nat) {rs' : List (World → Prop)} (hx : is.map (fun i => rs[i]?) = rs'.map some) : St w W bs rs' :=
  ⟨h.be, h.bx, h.inc, fun r hr => by
    have : some r ∈ is.map (fun i => rs[i]?) := by rw [hx]; exact List.mem_map.2 ⟨r, hr, rfl⟩
    obtain ⟨i, _, hi⟩ := List.mem_map.1 this
    exact h.rd r (List.mem_of_getElem? hi)⟩
/-- some of the blocks, in whatever order -/
theorem St.bpick (h : St w W bs rs) (is : List Nat) (hn : is.Nodup) {bs' : List (Nat × Array Value × TypeId)} (hx : is.map (fun i => bs[i]?) = bs'.map some) : St w W bs' rs := by
  refine ⟨h.be, fun x hx' => ?_, ?_, h.rd⟩
  · have : some x ∈ is.map (fun i => bs[i]?) := by rw [hx]; exact List.mem_map.2 ⟨x, hx', rfl⟩
    obtain ⟨i, _, hi⟩ := List.mem_map.1 this
    exact h.bx x (List.mem_of_getElem? hi)
  · rw [List.pairwise_iff_getElem]
    intro p q hp hq hpq
    have hl : is.length = bs'.length := by have := congrArg List.length hx; simpa using this
    have e : ∀ (k : Nat) (hk : k < bs'.length), bs[is[k]'(by omega)]? = some bs'[k] := by
      intro k hk
      have := congrArg (fun l => l[k]?) hx
      simp only [List.getElem?_map, List.getElem?_eq_getElem hk, List.getElem?_eq_getElem (show k < is.length by omega), Option.map_some, Option.some.injEq] at this
      exact this
    have h1 := List.getElem?_eq_some_iff.1 (e p hp)
    have h2 := List.getElem?_eq_some_iff.1 (e q hq)
    have hne : is[p]'(by omega) ≠ is[q]'(by omega) := List.pairwise_iff_getElem.1 hn p q (by omega) (by omega) hpq
    have key := List.pairwise_iff_getElem.1 h.inc
    rw [← h1.2, ← h2.2]
    rcases Nat.lt_or_gt_of_ne hne with l | l
    · exact key _ _ h1.1 h2.1 l
    · exact (key _ _ h2.1 h1.1 l).symm
theorem St.apart (h : St w W bs rs) (i j : Nat) {b b' : Nat} {cs cs' : Array Value} {t t' : TypeId} (hx : bs[i]? = some (b, cs, t)) (hy : bs[j]? = some (b', cs', t')) (hij : i < j) : b ≠ b' := by
  have hi := (List.getElem?_eq_some_iff.1 hx)
  have hj := (List.getElem?_eq_some_iff.1 hy)
  have := List.pairwise_iff_getElem.1 h.inc i j hi.1 hj.1 hij
  rw [hi.2, hj.2] at this
  exact this
theorem wp_gen {P : Program} {c : Code} {Q : Exit → Act → World → Prop} {a : Act} (h : St w W bs rs) (k : ∀ V, St w V bs rs → c.wp P Q a V) : c.wp P Q a W := k W h
theorem gen_app {F : Act → World → Prop} {a : Act} (h : St w W bs rs) (k : ∀ V, St w V bs rs → F a V) : F a W := k W h
theorem ret_st {P : Program} {f : Func} {R : Ending → World → Prop} {a : Act} {v : Value} (h : St w W bs rs) (hr : St w W bs rs → (results f a.tmps).run P W = .ok v W) (hd : a.defers = []) (hR : St w W bs rs → R (.returned v) W) : bodyPost P f R .ret a W :=
  bodyPost_ret (hr h) hd (hR h)
end

end Go.Proofs.YtmfplelodnoicaaGreatDoor

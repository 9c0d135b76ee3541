/- (digits).common: the greatest common divisor -/
import Derived.Test.YtnimnoodpnhodaaDoorShift
import Derived.Test.YtnimnoodpnhodaaDoorHalf
import Derived.Test.YtnimnoodpnhodaaDoorSize
import Derived.Test.YtnimnoodpnhodaaDoorDown
import Derived.Test.YtnimnoodpnhodaaDoorPlus
import Derived.Test.YtnimnoodpnhodaaDoorZ0
import Derived.Deep.LoopGhost
namespace Go.Proofs.YtnimnoodpnhodaaDoor
open Go.RowKit Dig

theorem gcd_both {p q : Nat} (hp : p % 2 = 0) (hq : q % 2 = 0) : Nat.gcd p q = 2 * Nat.gcd (p / 2) (q / 2) := by
  have e1 : p = 2 * (p / 2) := by omega
  have e2 : q = 2 * (q / 2) := by omega
  rw [e1, e2, Nat.gcd_mul_left]
  simp
theorem pow_len {k M : Nat} (h : 2 ^ k ≤ M) (hl : (dg 16777216 M).length ≤ 400000) : k ≤ 9600000 := by
  have h1 := dg_len_lt (b := 16777216) (by omega) M
  rw [show (16777216 : Nat) = 2 ^ 24 from by decide, ← Nat.pow_mul] at h1
  have h2 : 2 ^ k < 2 ^ (24 * (dg (2 ^ 24) M).length) := Nat.lt_of_le_of_lt h h1
  rw [Nat.pow_lt_pow_iff_right (by omega)] at h2
  rw [show (16777216 : Nat) = 2 ^ 24 from by decide] at hl
  omega
theorem small2 {M : Nat} (hl : (dg 16777216 M).length ≤ 2) : M < 281474976710656 := by
  have h1 := dg_len_lt (b := 16777216) (by omega) M
  exact Nat.lt_of_lt_of_le h1 (Nat.le_trans (Nat.pow_le_pow_right (by omega) hl) (by decide))
theorem gcd_len {g : Nat} (h : g < 18446744073709551616) : (dg 16777216 g).length ≤ 10000000 :=
  Nat.le_trans (dg_len_le (b := 16777216) (k := 3) (by omega) (Nat.lt_of_lt_of_le h (by decide))) (by omega)
theorem gcd_half_left {p q : Nat} (hp : p % 2 = 0) (hq : q % 2 = 1) : Nat.gcd (p / 2) q = Nat.gcd p q := by
  have e1 : p = 2 * (p / 2) := by omega
  have hc : Nat.Coprime 2 q := by
    rw [Nat.coprime_iff_gcd_eq_one, Nat.gcd_rec, hq]; rfl
  conv => rhs; rw [e1]
  rw [Nat.Coprime.gcd_mul_left_cancel _ hc]
theorem gcd_half_right {p q : Nat} (hp : p % 2 = 1) (hq : q % 2 = 0) : Nat.gcd p (q / 2) = Nat.gcd p q := by
  rw [Nat.gcd_comm p, gcd_half_left hq hp, Nat.gcd_comm]
theorem gcd_sub {p q : Nat} (h : p ≤ q) : Nat.gcd p (q - p) = Nat.gcd p q := by
  rw [Nat.gcd_sub_self_right h]

/-- what is in the two variables of common -/
structure CI (w wr : World) (B : Nat) (s1 s2 : Value) (p q : Nat) (L : Nat) : Prop where
  x1 : Box wr B s1 25
  x2 : Box wr (B + 1) s2 25
  x3 : Box wr (B + 2) (.slice none 0 0) 25
  d1 : Dg wr s1 p
  d2 : Dg wr s2 q
  b : Below w.heap.size w wr
  l1 : (dg 16777216 p).length ≤ L
  l2 : (dg 16777216 q).length ≤ L

theorem CI.later {w wr w' : World} {B : Nat} {s1 s2 : Value} {p q L : Nat} (h : CI w wr B s1 s2 p q L) (hb : Below wr.heap.size wr w') : CI w w' B s1 s2 p q L :=
  ⟨h.x1.below hb h.x1.lt, h.x2.below hb h.x2.lt, h.x3.below hb h.x3.lt, h.d1.mono hb, h.d2.mono hb, h.b.trans (hb.mono h.b.size), h.l1, h.l2⟩

theorem CI.cells {w wr : World} {B : Nat} {s1 s2 : Value} {p q L : Nat} (h : CI w wr B s1 s2 p q L) : wr.cell? ⟨B, 0, none⟩ = some s1 ∧ wr.cell? ⟨B + 1, 0, none⟩ = some s2 ∧ wr.frozen? ⟨B, 0, none⟩ = false ∧ wr.frozen? ⟨B + 1, 0, none⟩ = false := ⟨h.x1.cell, h.x2.cell, h.x1.free, h.x2.free⟩

/-- the first variable is set anew -/
theorem CI.set1 {w wr w' : World} {B : Nat} {s1 s2 s3 : Value} {p q r L : Nat} (h : CI w wr B s1 s2 p q L) (hb : Below wr.heap.size wr w') (hd : Dg w' s3 r) (hl : (dg 16777216 r).length ≤ L) (hB : w.heap.size ≤ B) :
    CI w (w'.setCell ⟨B, 0, none⟩ s3) B s3 s2 r q L := by
  have h' := h.later hb
  exact ⟨h'.x1.set _, h'.x2.other (by omega) _, h'.x3.other (by omega) _, hd.other (Sl.ne_box hd h'.x1 (by decide)) _, h'.d2.other (Sl.ne_box h'.d2 h'.x1 (by decide)) _, h'.b.setCell hB _, hl, h'.l2⟩

theorem CI.set2 {w wr w' : World} {B : Nat} {s1 s2 s3 : Value} {p q r L : Nat} (h : CI w wr B s1 s2 p q L) (hb : Below wr.heap.size wr w') (hd : Dg w' s3 r) (hl : (dg 16777216 r).length ≤ L) (hB : w.heap.size ≤ B) :
    CI w (w'.setCell ⟨B + 1, 0, none⟩ s3) B s1 s3 p r L := by
  have h' := h.later hb
  exact ⟨h'.x1.other (by omega) _, h'.x2.set _, h'.x3.other (by omega) _, h'.d1.other (Sl.ne_box h'.d1 h'.x2 (by decide)) _, hd.other (Sl.ne_box hd h'.x2 (by decide)) _, h'.b.setCell (show w.heap.size ≤ B + 1 by omega) _, h'.l1, hl⟩

theorem CI.swap {w wr : World} {B : Nat} {s1 s2 : Value} {p q L : Nat} (h : CI w wr B s1 s2 p q L) (hB : w.heap.size ≤ B) : CI w ((wr.setCell ⟨B, 0, none⟩ s2).setCell ⟨B + 1, 0, none⟩ s1) B s2 s1 q p L := by
  have h1 := h.set1 (Below.refl _ _) h.d2 h.l2 hB
  exact h1.set2 (Below.refl _ _) (Sl.other h.d1 (Sl.ne_box h.d1 h.x1 (by decide)) _) h.l1 hB

theorem CI.drewN {w wr : World} {B : Nat} {s1 s2 : Value} {p q L : Nat} (h : CI w wr B s1 s2 p q L) (n : Nat) : CI w (wr.drewN n) B s1 s2 p q L := h.later (Below.drewN (Below.refl _ _) n)

theorem even_b (a : Option Addr) (n c : Nat) (M : Nat) (w : World) (h1 : Dg w (.slice a n c) M) (hM : 0 < M) :
    Calls Tryd.prog 63 #[.agg #[.slice a n c]] w fun e w' => e = .returned (.bool (((M : Int) % 2) == 0)) ∧ Below w.heap.size w w' :=
  (even_any a n c M w h1 hM).mono fun _ _ ⟨he, hw⟩ => ⟨he, by rw [hw]; exact (Below.refl _ _).alloc (Nat.le_refl _) _⟩
theorem none_b (a : Option Addr) (n c : Nat) (M : Nat) (w : World) (h1 : Dg w (.slice a n c) M) :
    Calls Tryd.prog 35 #[.agg #[.slice a n c]] w fun e w' => e = .returned (.bool (decide (M = 0))) ∧ Below w.heap.size w w' :=
  (none_any a n c w).mono fun _ _ ⟨he, hw⟩ => ⟨by
    rw [he]
    have hn := Sl.len h1
    have h0 := dg_nil_iff (b := 16777216) (by omega) (n := M)
    refine ret_bool ?_
    by_cases h : M = 0
    · rw [h0.2 h, List.length_nil] at hn; subst hn; simp [h]
    · have : n ≠ 0 := fun e => h (h0.1 (List.eq_nil_of_length_eq_zero (by omega)))
      have h1 : ((n : Int) == 0) = false := by simpa using this
      rw [h1]; simp [h], by rw [hw]; exact (Below.refl _ _).alloc (Nat.le_refl _) _⟩

theorem none_t (a : Option Addr) (n c : Nat) (w : World) (h1 : Dg w (.slice a n c) 0) :
    Calls Tryd.prog 35 #[.agg #[.slice a n c]] w fun e w' => e = .returned (.bool true) ∧ Below w.heap.size w w' :=
  (none_b a n c 0 w h1).mono fun _ _ ⟨he, hw⟩ => ⟨he, hw⟩
theorem none_f (a : Option Addr) (n c : Nat) (M : Nat) (w : World) (h1 : Dg w (.slice a n c) M) (hM : M ≠ 0) :
    Calls Tryd.prog 35 #[.agg #[.slice a n c]] w fun e w' => e = .returned (.bool false) ∧ Below w.heap.size w w' :=
  (none_b a n c M w h1).mono fun _ _ ⟨he, hw⟩ => ⟨by rw [he]; exact ret_bool (by simp [hM]), hw⟩

set_option maxRecDepth 100000 in
set_option maxHeartbeats 20000000 in
theorem common_any (a : Option Addr) (n c : Nat) (a2 : Option Addr) (n2 c2 : Nat) (M N : Nat) (w : World) (h1 : Dg w (.slice a n c) M) (h2 : Dg w (.slice a2 n2 c2) N)
    (hlM : (dg 16777216 M).length ≤ 400000) (hlN : (dg 16777216 N).length ≤ 400000) :
    Calls Tryd.prog 44 #[.agg #[.slice a n c], .agg #[.slice a2 n2 c2]] w (RetD w (Nat.gcd M N)) := by
  have hn := Sl.len h1
  have hn2 := Sl.len h2
  have L1 := Lib.hid (Sl.lt h1)
  have L2 := Lib.hid (Sl.lt h2)
  have H1 := Lib.hid h1
  have H2 := Lib.hid h2
  have HN2 := Lib.hid hn2
  clear h1 h2 hn2
  by_cases hM : M = 0
  · subst hM
    rw [dg_zero, List.length_nil] at hn
    subst hn
    go_enter Tryd.func44, Tryd.ntmps44
    go_wp2_with fail
    refine (none_any _ _ _ _).mono ?_; rintro e w' ⟨rfl, rfl⟩
    go_wp2
    exact bodyPost_ret (v := .agg #[.slice a2 n2 c2]) (by simp [results, Tryd.results44, go_sem]) rfl ⟨a2, n2, c2, rfl, by rw [Nat.gcd_zero_left]; exact (((Sl.alloc H2.out _).alloc _).alloc _).alloc _, ((((Below.refl _ _).alloc (Nat.le_refl _) _).alloc (by go_size) _).alloc (by go_size) _).alloc (by go_size) _⟩
  have hnz : ((n : Int) == 0) = false := by
    have : n ≠ 0 := fun e => hM ((dg_nil_iff (b := 16777216) (by omega)).1 (List.eq_nil_of_length_eq_zero (by omega)))
    simpa using this
  clear hn
  by_cases hN : N = 0
  · subst hN
    rw [dg_zero, List.length_nil] at HN2
    have hn2 := HN2.out
    clear HN2
    subst hn2
    go_enter Tryd.func44, Tryd.ntmps44
    go_wp2_with fail
    refine (none_any _ _ _ _).mono ?_; rintro e w' ⟨rfl, rfl⟩
    rw [hnz]
    go_wp2_with fail
    refine (none_any _ _ _ _).mono ?_; rintro e w' ⟨rfl, rfl⟩
    go_wp2
    exact bodyPost_ret (v := .agg #[.slice a n c]) (by simp [results, Tryd.results44, go_sem]) rfl ⟨a, n, c, rfl, by rw [Nat.gcd_zero_right]; exact ((((Sl.alloc H1.out _).alloc _).alloc _).alloc _).alloc _, (((((Below.refl _ _).alloc (Nat.le_refl _) _).alloc (by go_size) _).alloc (by go_size) _).alloc (by go_size) _).alloc (by go_size) _⟩
  have hnz2 : ((n2 : Int) == 0) = false := by
    have : n2 ≠ 0 := fun e => hN ((dg_nil_iff (b := 16777216) (by omega)).1 (List.eq_nil_of_length_eq_zero (by have := HN2.out; omega)))
    simpa using this
  go_enter Tryd.func44, Tryd.ntmps44
  go_wp2_with fail
  refine (none_any _ _ _ _).mono ?_; rintro e w' ⟨rfl, rfl⟩
  rw [hnz]
  go_wp2_with fail
  refine (none_any _ _ _ _).mono ?_; rintro e w' ⟨rfl, rfl⟩
  rw [hnz2]
  have hC0 : CI w (((((w.alloc (.cells #[.slice a n c] 25)).alloc (.cells #[.slice a2 n2 c2] 25)).alloc (.cells #[.slice none 0 0] 25)).alloc (.cells #[.slice a n c] 25)).alloc (.cells #[.slice a2 n2 c2] 25)) w.heap.size (.slice a n c) (.slice a2 n2 c2) M N 400000 :=
    ⟨((((Box.new' rfl).alloc _).alloc _).alloc _).alloc _, (((Box.new' (by simp)).alloc _).alloc _).alloc _, ((Box.new' (by simp)).alloc _).alloc _, ((((Sl.alloc H1.out _).alloc _).alloc _).alloc _).alloc _, ((((Sl.alloc H2.out _).alloc _).alloc _).alloc _).alloc _,
      (((((Below.refl _ _).alloc (Nat.le_refl _) _).alloc (by go_size) _).alloc (by go_size) _).alloc (by go_size) _).alloc (by go_size) _, hlM, hlN⟩
  have HC0 := Lib.hid hC0
  clear hC0 hnz hnz2
  go_wp2
  go_loopg [5] M (fun gk bv wr => ∃ (k p q : Nat) (a1 : Option Addr) (n1 c1 : Nat) (a2 : Option Addr) (n2 c2 : Nat), bv = .int .i64 k ∧ p = gk ∧ 0 < p ∧ 0 < q ∧ p ≤ M ∧ q ≤ N ∧ k ≤ 9600000 ∧ Hid (2 ^ k * p ≤ M) ∧ Hid (2 ^ k * Nat.gcd p q = Nat.gcd M N) ∧
      Hid (CI w wr w.heap.size (.slice a1 n1 c1) (.slice a2 n2 c2) p q 400000))
  case atStart => exact ⟨0, M, N, a, n, c, a2, n2, c2, rfl, rfl, by omega, by omega, Nat.le_refl _, Nat.le_refl _, by omega, by simp [Hid], by simp [Hid], HC0⟩
  case round =>
    clear HC0 H1 H2 L1 L2 HN2
    obtain ⟨k, p, q, a1, n1, c1, a2, n2, c2, rfl, rfl, hp, hq, hpM, hqN, hk, hkp, hg, hC⟩ := hrel
    obtain ⟨b1, b2, f1, f2⟩ := hC.out.cells
    by_cases hboth : p % 2 = 0 ∧ q % 2 = 0
    · have e1 : ((p : Int) % 2 == 0) = true := by simp; omega
      have e2 : ((q : Int) % 2 == 0) = true := by simp; omega
      go_wp2_with fail
      refine (even_b _ _ _ p _ hC.out.d1 hp).mono ?_; rintro e w1 ⟨rfl, hb1⟩
      have hC1 := Lib.hid (hC.out.later hb1)
      clear b1 b2 f1 f2 hC hb1
      obtain ⟨b1, b2, f1, f2⟩ := hC1.out.cells
      rw [e1]
      go_wp2_with fail
      refine (even_b _ _ _ q _ hC1.out.d2 hq).mono ?_; rintro e w2 ⟨rfl, hb2⟩
      have hC2 := Lib.hid (hC1.out.later hb2)
      clear b1 b2 f1 f2 hC1 hb2
      obtain ⟨b1, b2, f1, f2⟩ := hC2.out.cells
      rw [e2]
      go_wp2_with fail
      have hl1 : (dg 16777216 p).length ≤ 10000000 := Nat.le_trans hC2.out.l1 (by omega)
      have hl2 : (dg 16777216 q).length ≤ 10000000 := Nat.le_trans hC2.out.l2 (by omega)
      have HL1 := Lib.hid hl1
      have HL2 := Lib.hid hl2
      clear hl1 hl2
      go_region_with (first
        | (go_at_call_of 64 (Value.slice a1 n1 c1); (refine (half_any a1 n1 c1 p _ ?h1 HL1.out).mono ?_); case h1 => exact (show Sl _ _ _ _ from Sl.drew hC2.out.d1)
           rintro e w3 ⟨a3, n3, c3, rfl, hd3, hb3⟩; have hC3 := Lib.hid (hC2.out.later (Below.trans ((Below.refl _ _).drew) hb3)); have H3 := Lib.hid hd3; have HB3 := Lib.hid hb3; clear hd3 hb3; obtain ⟨b1, b2, f1, f2⟩ := hC3.out.cells)
        | (go_at_call_of 64 (Value.slice a2 n2 c2); (refine (half_any a2 n2 c2 q _ hC3.out.d2 HL2.out).mono ?_)
           rintro e w4 ⟨a4, n4, c4, rfl, hd4, hb4⟩; have hC4 := Lib.hid (hC3.out.later hb4); have H4 := Lib.hid hd4; have HB4 := Lib.hid hb4; clear hd4 hb4; obtain ⟨b1, b2, f1, f2⟩ := hC4.out.cells))
      all_goals
        have d3 := Sl.mono H3.out HB4.out
        have hC5 := Lib.hid (CI.set2 (CI.set1 hC4.out (Below.refl _ _) d3 (Nat.le_trans (dg_len_mono (by omega) (Nat.div_le_self p 2)) hC4.out.l1) (Nat.le_refl _)) (Below.refl _ _) (Sl.other H4.out (Sl.ne_box H4.out hC4.out.x1 (by decide)) _) (Nat.le_trans (dg_len_mono (by omega) (Nat.div_le_self q 2)) hC4.out.l2) (Nat.le_refl _))
        have hk2 : 2 ^ (k + 1) * (p / 2) ≤ M := by have h := hkp.out; rw [Nat.pow_succ, Nat.mul_assoc, show 2 * (p / 2) = p from by omega]; exact h
        have hk1 : k + 1 ≤ 9600000 := pow_len (Nat.le_trans (Nat.le_mul_of_pos_right _ (by omega)) hk2) hlM
        have hgg : 2 ^ (k + 1) * Nat.gcd (p / 2) (q / 2) = Nat.gcd M N := by rw [← hg.out, gcd_both hboth.1 hboth.2, Nat.pow_succ, Nat.mul_assoc]
        have HK2 := Lib.hid hk2
        have HGG := Lib.hid hgg
        clear hk2 hgg d3
        go_wp2
        go_roundg (p / 2)
        case measure => omega
        case rel => exact ⟨k + 1, p / 2, q / 2, a3, n3, c3, a4, n4, c4, by rw [show IntKind.i64.wrap ((k : Int) + 1) = (k : Int) + 1 from IntWalk.i64_in _ (by omega)]; rfl, rfl, by omega, by omega, by omega, by omega, hk1, HK2, HGG, hC5⟩
    · have hcase : p % 2 = 1 ∨ (p % 2 = 0 ∧ q % 2 = 1) := by omega
      have hodd : p % 2 = 1 ∨ q % 2 = 1 := by omega
      rcases hcase with h1 | ⟨h1, h2⟩
      case' inl =>
        have e1 : ((p : Int) % 2 == 0) = false := by simp; omega
        go_wp2_with fail
        refine (even_b _ _ _ p _ hC.out.d1 hp).mono ?_; rintro e w2 ⟨rfl, hb1⟩
        have hC2 := Lib.hid (hC.out.later hb1)
        clear b1 b2 f1 f2 hC hb1
        rw [e1]
        go_wp2_with fail
      case' inr =>
        have e1 : ((p : Int) % 2 == 0) = true := by simp; omega
        have e2 : ((q : Int) % 2 == 0) = false := by simp; omega
        go_wp2_with fail
        refine (even_b _ _ _ p _ hC.out.d1 hp).mono ?_; rintro e w1 ⟨rfl, hb1⟩
        have hC1 := Lib.hid (hC.out.later hb1)
        clear b1 b2 f1 f2 hC hb1
        obtain ⟨b1, b2, f1, f2⟩ := hC1.out.cells
        rw [e1]
        go_wp2_with fail
        refine (even_b _ _ _ q _ hC1.out.d2 hq).mono ?_; rintro e w2 ⟨rfl, hb2⟩
        have hC2 := Lib.hid (hC1.out.later hb2)
        clear b1 b2 f1 f2 hC1 hb2
        rw [e2]
        go_wp2_with fail
      all_goals
        clear e1
        have hG := Lib.hid hg.out
        clear hg hkp
        go_loopg [] p (fun gk w3 => ∃ (p2 : Nat) (a3 : Option Addr) (n3 c3 : Nat), p2 = gk ∧ 0 < p2 ∧ (p2 % 2 = 1 ∨ q % 2 = 1) ∧ Hid (2 ^ k * Nat.gcd p2 q = Nat.gcd M N) ∧ Hid (CI w w3 w.heap.size (.slice a3 n3 c3) (.slice a2 n2 c2) p2 q 400000))
        case atStart => exact ⟨p, a1, n1, c1, rfl, hp, hodd, hG, hC2⟩
        case round =>
          clear hC2 hodd hG hp hpM
          obtain ⟨p2, a3, n3, c3, rfl, hp2, hodd, hG, hC⟩ := hrel
          obtain ⟨b1, b2, f1, f2⟩ := hC.out.cells
          by_cases hev : p2 % 2 = 0
          · have e1 : ((p2 : Int) % 2 == 0) = true := by simp; omega
            go_wp2_with fail
            refine (even_b _ _ _ p2 _ hC.out.d1 hp2).mono ?_; rintro e w4 ⟨rfl, hb1⟩
            have hC2 := Lib.hid (hC.out.later hb1)
            clear b1 b2 f1 f2 hC hb1
            obtain ⟨b1, b2, f1, f2⟩ := hC2.out.cells
            rw [e1]
            go_wp2_with fail
            refine (half_any _ _ _ p2 _ hC2.out.d1 (Nat.le_trans hC2.out.l1 (by omega))).mono ?_; rintro e w5 ⟨a4, n4, c4, rfl, hd, hb⟩
            have hC3 := Lib.hid (CI.set1 hC2.out hb hd (Nat.le_trans (dg_len_mono (by omega) (Nat.div_le_self p2 2)) hC2.out.l1) (Nat.le_refl _))
            have f1' := ((hC2.out.later hb).x1).free
            have b1' := ((hC2.out.later hb).x1).cell
            clear b1 b2 f1 f2 hC2 hb hd
            go_wp2
            go_roundg (p2 / 2)
            case measure => omega
            case rel => exact ⟨p2 / 2, a4, n4, c4, rfl, by omega, .inr (by omega), by unfold Hid; rw [gcd_half_left hev (by omega)]; exact hG.out, hC3⟩
          · have e1 : ((p2 : Int) % 2 == 0) = false := by simp; omega
            have hpo : p2 % 2 = 1 := by omega
            go_wp2_with fail
            refine (even_b _ _ _ p2 _ hC.out.d1 hp2).mono ?_; rintro e w4 ⟨rfl, hb1⟩
            have hC2 := Lib.hid (hC.out.later hb1)
            clear b1 b2 f1 f2 hC hb1 hodd hev
            rw [e1]
            go_wp2_with fail
            go_loopg [] (p2 + q) (fun gk w5 => ∃ (p3 q3 : Nat) (a4 : Option Addr) (n4 c4 : Nat) (a5 : Option Addr) (n5 c5 : Nat), p3 + q3 = gk ∧ 0 < p3 ∧ p3 % 2 = 1 ∧ Hid (2 ^ k * Nat.gcd p3 q3 = Nat.gcd M N) ∧ Hid (CI w w5 w.heap.size (.slice a4 n4 c4) (.slice a5 n5 c5) p3 q3 400000))
            case atStart => exact ⟨p2, q, a3, n3, c3, a2, n2, c2, rfl, hp2, hpo, hG, hC2⟩
            case round =>
              clear hC2 hG hp2 hpo e1
              obtain ⟨p3, q3, a4, n4, c4, a5, n5, c5, rfl, hp3, hpo, hG, hC⟩ := hrel
              obtain ⟨b1, b2, f1, f2⟩ := hC.out.cells
              by_cases hq0 : q3 = 0
              · subst hq0
                go_wp2_with fail
                refine (none_t _ _ _ _ hC.out.d2).mono ?_; rintro e w6 ⟨rfl, hb1⟩
                have hC2 := Lib.hid (hC.out.later hb1)
                clear b1 b2 f1 f2 hC hb1
                obtain ⟨b1, b2, f1, f2⟩ := hC2.out.cells
                go_wp2_with fail
                refine (shifted_any _ _ _ p3 k _ hC2.out.d1 (Nat.le_trans hC2.out.l1 (by omega)) (by omega)).mono ?_; rintro e w7 ⟨a6, n6, c6, rfl, hd, hb⟩
                have hC3 := Lib.hid (hC2.out.later hb)
                have bx := hC3.out.x3
                have bc := bx.cell
                have bf := bx.free
                have bs := fun u => (bx.set u).cell
                have HF := Lib.hid (show RetD w (Nat.gcd M N) (.returned (.agg #[.slice a6 n6 c6])) (w7.setCell ⟨w.heap.size + 2, 0, none⟩ (.slice a6 n6 c6)) from
                  ⟨a6, n6, c6, rfl, by rw [← hG.out, Nat.gcd_zero_right, Nat.mul_comm]; exact Sl.other hd (Sl.ne_box hd bx (by decide)) _, hC3.out.b.setCell (by simp) _⟩)
                clear b1 b2 f1 f2 hd hb bx
                go_wp2
                exact bodyPost_ret (v := .agg #[.slice a6 n6 c6]) (by simp [results, Tryd.results44, go_sem, bs]) rfl HF.out
              · go_wp2_with fail
                refine (none_f _ _ _ q3 _ hC.out.d2 hq0).mono ?_; rintro e w6 ⟨rfl, hb1⟩
                have hC2 := Lib.hid (hC.out.later hb1)
                clear b1 b2 f1 f2 hC hb1
                obtain ⟨b1, b2, f1, f2⟩ := hC2.out.cells
                go_wp2_with fail
                clear b1 b2 f1 f2
                go_loopg [] q3 (fun gk w7 => ∃ (q4 : Nat) (a6 : Option Addr) (n6 c6 : Nat), q4 = gk ∧ 0 < q4 ∧ q4 ≤ q3 ∧ Hid (2 ^ k * Nat.gcd p3 q4 = Nat.gcd M N) ∧ Hid (CI w w7 w.heap.size (.slice a4 n4 c4) (.slice a6 n6 c6) p3 q4 400000))
                case atStart => exact ⟨q3, a5, n5, c5, rfl, by omega, Nat.le_refl _, hG, hC2⟩
                case round =>
                  clear hC2 hG
                  obtain ⟨q4, a6, n6, c6, rfl, hq4, hle, hG, hC⟩ := hrel
                  obtain ⟨b1, b2, f1, f2⟩ := hC.out.cells
                  by_cases hev : q4 % 2 = 0
                  · have e1 : ((q4 : Int) % 2 == 0) = true := by simp; omega
                    go_wp2_with fail
                    refine (even_b _ _ _ q4 _ hC.out.d2 hq4).mono ?_; rintro e w8 ⟨rfl, hb1⟩
                    have hC2 := Lib.hid (hC.out.later hb1)
                    clear b1 b2 f1 f2 hC hb1
                    obtain ⟨b1, b2, f1, f2⟩ := hC2.out.cells
                    rw [e1]
                    go_wp2_with fail
                    refine (half_any _ _ _ q4 _ hC2.out.d2 (Nat.le_trans hC2.out.l2 (by omega))).mono ?_; rintro e w9 ⟨a7, n7, c7, rfl, hd, hb⟩
                    have hC3 := Lib.hid (CI.set2 hC2.out hb hd (Nat.le_trans (dg_len_mono (by omega) (Nat.div_le_self q4 2)) hC2.out.l2) (Nat.le_refl _))
                    have f2' := ((hC2.out.later hb).x2).free
                    have b2' := ((hC2.out.later hb).x2).cell
                    clear b1 b2 f1 f2 hC2 hb hd
                    go_wp2
                    go_roundg (q4 / 2)
                    case measure => omega
                    case rel => exact ⟨q4 / 2, a7, n7, c7, rfl, by omega, by omega, by unfold Hid; rw [gcd_half_right hpo hev]; exact hG.out, hC3⟩
                  · have e1 : ((q4 : Int) % 2 == 0) = false := by simp; omega
                    have hqo : q4 % 2 = 1 := by omega
                    go_wp2_with fail
                    refine (even_b _ _ _ q4 _ hC.out.d2 hq4).mono ?_; rintro e w8 ⟨rfl, hb1⟩
                    have hC2 := Lib.hid (hC.out.later hb1)
                    clear b1 b2 f1 f2 hC hb1
                    obtain ⟨b1, b2, f1, f2⟩ := hC2.out.cells
                    rw [e1]
                    go_wp2_with fail
                    refine (size_any _ _ _ _ _ _ p3 q4 _ hC2.out.d1 hC2.out.d2 (Nat.le_trans hC2.out.l1 (by omega)) (Nat.le_trans hC2.out.l2 (by omega))).mono ?_; rintro e w9 ⟨rfl, hb1⟩
                    have hC3 := Lib.hid (hC2.out.later hb1)
                    clear b1 b2 f1 f2 hC2 hb1
                    obtain ⟨b1, b2, f1, f2⟩ := hC3.out.cells
                    by_cases hsw : q4 < p3
                    case pos =>
                      have hcv : cmpN p3 q4 = 1 := by unfold cmpN; rw [if_neg (by omega), if_pos hsw]
                      rw [hcv]
                      have hC4 := Lib.hid (CI.swap hC3.out (Nat.le_refl _))
                      have hgs := Lib.hid (show 2 ^ k * Nat.gcd q4 p3 = Nat.gcd M N by rw [Nat.gcd_comm]; exact hG.out)
                      obtain ⟨c1', c2', d1', d2'⟩ := hC4.out.cells
                      have hpq : q4 ≤ p3 := by omega
                      have hsum : q4 + (p3 - q4) < p3 + q3 := by omega
                      have hlo : 0 < q4 := hq4
                      have hPo : q4 % 2 = 1 := hqo
                      clear hsw hcv hG
                      go_wp2_with fail
                      refine (plus_any _ _ _ _ _ _ (-1) p3 q4 _ hC4.out.d2 hC4.out.d1 (.inr rfl) (by omega) (Nat.le_trans hC4.out.l2 (by omega)) (Nat.le_trans hC4.out.l1 (by omega))).mono ?_
                      rw [show ((p3 : Int) + -1 * (q4 : Int)).toNat = p3 - q4 from by omega]
                      clear b1 b2 f1 f2
                      rintro e w10 ⟨a8, n8, c8, rfl, hd, hb⟩
                      have hC5 := Lib.hid (CI.set2 hC4.out hb hd (Nat.le_trans (dg_len_mono (by omega) (Nat.sub_le p3 q4)) hC4.out.l2) (Nat.le_refl _))
                      have fx := ((hC4.out.later hb).x2).free
                      have bx := ((hC4.out.later hb).x2).cell
                      have hg5 := Lib.hid (show 2 ^ k * Nat.gcd q4 (p3 - q4) = Nat.gcd M N by rw [gcd_sub hpq]; exact hgs.out)
                      clear hC4 hb hd hgs hC3
                      obtain ⟨b1, b2, f1, f2⟩ := hC5.out.cells
                      have HN1 := Lib.hid (Sl.len hC5.out.d1)
                      have HN2 := Lib.hid (Sl.len hC5.out.d2)
                      have hq1 := Lib.hid (show n6 ≤ 2 → q4 < 281474976710656 from fun h => small2 (by have := HN1.out; omega))
                      have hq2 := Lib.hid (show n8 ≤ 2 → p3 - q4 < 281474976710656 from fun h => small2 (by have := HN2.out; omega))
                      by_cases hs : n6 ≤ 2 ∧ n8 ≤ 2
                      · obtain ⟨hs1, hs2⟩ := hs
                        have hp48 := hq1.out hs1
                        have hq48 := hq2.out hs2
                        obtain ⟨gg, hgg⟩ : ∃ gg : Nat, gg = Nat.gcd q4 (p3 - q4) := ⟨_, rfl⟩
                        have hg48 : gg < 18446744073709551616 := by rw [hgg]; exact Nat.lt_of_le_of_lt (Nat.gcd_le_left _ hlo) (by omega)
                        have HGG := Lib.hid hgg
                        clear hgg
                        go_wp2_with fail
                        have hBR := hC5.out.x3
                        have hD1 := hC5.out.d1
                        have hD2 := hC5.out.d2
                        have HD1 := Lib.hid hD1
                        have HD2 := Lib.hid hD2
                        clear hD1 hD2 hBR hq1 hq2
                        go_region_held3 (fun w' => w'.cell? ⟨w.heap.size, 0, none⟩ = some (.slice a6 n6 c6) ∧ w'.cell? ⟨w.heap.size + 1, 0, none⟩ = some (.slice a8 n8 c8))
                          (first | exact ⟨(hCe.out.x1.other (by omega) _).cell, (hCe.out.x2.other (by omega) _).cell⟩ | exact ⟨hCe.out.x1.cell, hCe.out.x2.cell⟩ | exact ⟨hCd.out.x1.cell, hCd.out.x2.cell⟩ | exact ⟨hCc.out.x1.cell, hCc.out.x2.cell⟩ | exact ⟨hCb.out.x1.cell, hCb.out.x2.cell⟩ | exact ⟨hCa.out.x1.cell, hCa.out.x2.cell⟩ | exact ⟨hC5.out.x1.cell, hC5.out.x2.cell⟩)
                          (first
                            | (go_at_call_of 49 (Value.slice a6 n6 c6); refine (dword_any a6 n6 c6 q4 _ (Sl.drew HD1.out) (by omega)).mono ?_; rintro e wa ⟨rfl, hb⟩; have hCa := Lib.hid (hC5.out.later (Below.trans (Below.refl _ _).drew hb)); clear hb)
                            | (go_at_call_of 49 (Value.slice a8 n8 c8); refine (dword_any a8 n8 c8 (p3 - q4) _ hCa.out.d2 (by omega)).mono ?_; rintro e wb ⟨rfl, hb⟩; have hCb := Lib.hid (hCa.out.later hb); clear hb)
                            | (go_at_call 65; refine (divisor_any q4 (p3 - q4) _ (by omega) (by omega)).mono ?_; rintro e wc ⟨rfl, hb⟩; rw [← HGG.out]; have hCc := Lib.hid (hCb.out.later hb); clear hb)
                            | (go_at_call 37; refine (word_any gg _ hg48).mono ?_; rintro e wd ⟨a9, n9, c9, rfl, hd, hb⟩; have hCd := Lib.hid (hCc.out.later hb); have HD9 := Lib.hid hd; clear hb hd)
                            | (go_at_call 66; refine (shifted_any a9 n9 c9 gg k _ HD9.out (gcd_len hg48) (by omega)).mono ?_; rintro e we ⟨b9, m9, d9, rfl, hd, hb⟩; have hCe := Lib.hid (hCd.out.later hb); have HDe := Lib.hid hd; have bxe := (hCd.out.later hb).x3.cell; have fxe := (hCd.out.later hb).x3.free; clear hb hd))
                        go_wp2
                        have hF : RetD w (Nat.gcd M N) (.returned (.agg #[.slice b9 m9 d9])) (we.setCell ⟨w.heap.size + 2, 0, none⟩ (.slice b9 m9 d9)) :=
                          ⟨b9, m9, d9, rfl, by rw [← hg5.out, Nat.mul_comm, ← HGG.out]; exact Sl.other HDe.out (Sl.ne_box HDe.out hCe.out.x3 (by decide)) _, hCe.out.b.setCell (by simp) _⟩
                        have bs := fun u => (hCe.out.x3.set u).cell
                        exact bodyPost_ret (v := .agg #[.slice b9 m9 d9]) (by simp [results, Tryd.results44, go_sem, bs]) rfl hF
                      · go_wp2
                        all_goals
                          go_roundg (q4 + (p3 - q4))
                          case measure => exact hsum
                          case rel => exact ⟨q4, p3 - q4, a6, n6, c6, a8, n8, c8, rfl, hlo, hPo, hg5, hC5⟩
                    case neg =>
                      have hcv : ¬ (0 < cmpN p3 q4) := by unfold cmpN; split <;> omega
                      have hC4 := Lib.hid hC3.out
                      have hgs := Lib.hid hG.out
                      have hpq : p3 ≤ q4 := by omega
                      have hsum : p3 + (q4 - p3) < p3 + q3 := by omega
                      have hlo : 0 < p3 := hp3
                      have hPo : p3 % 2 = 1 := hpo
                      clear hsw hG
                      go_wp2_with fail
                      refine (plus_any _ _ _ _ _ _ (-1) q4 p3 _ hC4.out.d2 hC4.out.d1 (.inr rfl) (by omega) (Nat.le_trans hC4.out.l2 (by omega)) (Nat.le_trans hC4.out.l1 (by omega))).mono ?_
                      rw [show ((q4 : Int) + -1 * (p3 : Int)).toNat = q4 - p3 from by omega]
                      clear b1 b2 f1 f2
                      rintro e w10 ⟨a8, n8, c8, rfl, hd, hb⟩
                      have hC5 := Lib.hid (CI.set2 hC4.out hb hd (Nat.le_trans (dg_len_mono (by omega) (Nat.sub_le q4 p3)) hC4.out.l2) (Nat.le_refl _))
                      have fx := ((hC4.out.later hb).x2).free
                      have bx := ((hC4.out.later hb).x2).cell
                      have hg5 := Lib.hid (show 2 ^ k * Nat.gcd p3 (q4 - p3) = Nat.gcd M N by rw [gcd_sub hpq]; exact hgs.out)
                      clear hC4 hb hd hgs hC3
                      obtain ⟨b1, b2, f1, f2⟩ := hC5.out.cells
                      have HN1 := Lib.hid (Sl.len hC5.out.d1)
                      have HN2 := Lib.hid (Sl.len hC5.out.d2)
                      have hq1 := Lib.hid (show n4 ≤ 2 → p3 < 281474976710656 from fun h => small2 (by have := HN1.out; omega))
                      have hq2 := Lib.hid (show n8 ≤ 2 → q4 - p3 < 281474976710656 from fun h => small2 (by have := HN2.out; omega))
                      by_cases hs : n4 ≤ 2 ∧ n8 ≤ 2
                      · obtain ⟨hs1, hs2⟩ := hs
                        have hp48 := hq1.out hs1
                        have hq48 := hq2.out hs2
                        obtain ⟨gg, hgg⟩ : ∃ gg : Nat, gg = Nat.gcd p3 (q4 - p3) := ⟨_, rfl⟩
                        have hg48 : gg < 18446744073709551616 := by rw [hgg]; exact Nat.lt_of_le_of_lt (Nat.gcd_le_left _ hlo) (by omega)
                        have HGG := Lib.hid hgg
                        clear hgg
                        go_wp2_with fail
                        have hBR := hC5.out.x3
                        have hD1 := hC5.out.d1
                        have hD2 := hC5.out.d2
                        have HD1 := Lib.hid hD1
                        have HD2 := Lib.hid hD2
                        clear hD1 hD2 hBR hq1 hq2
                        go_region_held3 (fun w' => w'.cell? ⟨w.heap.size, 0, none⟩ = some (.slice a4 n4 c4) ∧ w'.cell? ⟨w.heap.size + 1, 0, none⟩ = some (.slice a8 n8 c8))
                          (first | exact ⟨(hCe.out.x1.other (by omega) _).cell, (hCe.out.x2.other (by omega) _).cell⟩ | exact ⟨hCe.out.x1.cell, hCe.out.x2.cell⟩ | exact ⟨hCd.out.x1.cell, hCd.out.x2.cell⟩ | exact ⟨hCc.out.x1.cell, hCc.out.x2.cell⟩ | exact ⟨hCb.out.x1.cell, hCb.out.x2.cell⟩ | exact ⟨hCa.out.x1.cell, hCa.out.x2.cell⟩ | exact ⟨hC5.out.x1.cell, hC5.out.x2.cell⟩)
                          (first
                            | (go_at_call_of 49 (Value.slice a4 n4 c4); refine (dword_any a4 n4 c4 p3 _ (Sl.drew HD1.out) (by omega)).mono ?_; rintro e wa ⟨rfl, hb⟩; have hCa := Lib.hid (hC5.out.later (Below.trans (Below.refl _ _).drew hb)); clear hb)
                            | (go_at_call_of 49 (Value.slice a8 n8 c8); refine (dword_any a8 n8 c8 (q4 - p3) _ hCa.out.d2 (by omega)).mono ?_; rintro e wb ⟨rfl, hb⟩; have hCb := Lib.hid (hCa.out.later hb); clear hb)
                            | (go_at_call 65; refine (divisor_any p3 (q4 - p3) _ (by omega) (by omega)).mono ?_; rintro e wc ⟨rfl, hb⟩; rw [← HGG.out]; have hCc := Lib.hid (hCb.out.later hb); clear hb)
                            | (go_at_call 37; refine (word_any gg _ hg48).mono ?_; rintro e wd ⟨a9, n9, c9, rfl, hd, hb⟩; have hCd := Lib.hid (hCc.out.later hb); have HD9 := Lib.hid hd; clear hb hd)
                            | (go_at_call 66; refine (shifted_any a9 n9 c9 gg k _ HD9.out (gcd_len hg48) (by omega)).mono ?_; rintro e we ⟨b9, m9, d9, rfl, hd, hb⟩; have hCe := Lib.hid (hCd.out.later hb); have HDe := Lib.hid hd; have bxe := (hCd.out.later hb).x3.cell; have fxe := (hCd.out.later hb).x3.free; clear hb hd))
                        go_wp2
                        have hF : RetD w (Nat.gcd M N) (.returned (.agg #[.slice b9 m9 d9])) (we.setCell ⟨w.heap.size + 2, 0, none⟩ (.slice b9 m9 d9)) :=
                          ⟨b9, m9, d9, rfl, by rw [← hg5.out, Nat.mul_comm, ← HGG.out]; exact Sl.other HDe.out (Sl.ne_box HDe.out hCe.out.x3 (by decide)) _, hCe.out.b.setCell (by simp) _⟩
                        have bs := fun u => (hCe.out.x3.set u).cell
                        exact bodyPost_ret (v := .agg #[.slice b9 m9 d9]) (by simp [results, Tryd.results44, go_sem, bs]) rfl hF
                      · go_wp2
                        all_goals
                          go_roundg (p3 + (q4 - p3))
                          case measure => exact hsum
                          case rel => exact ⟨p3, q4 - p3, a4, n4, c4, a8, n8, c8, rfl, hlo, hPo, hg5, hC5⟩

end Go.Proofs.YtnimnoodpnhodaaDoor

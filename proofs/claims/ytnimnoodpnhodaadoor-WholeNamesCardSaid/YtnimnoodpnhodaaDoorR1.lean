/- ratios: ratio and what leans on it -/
import Derived.Test.YtnimnoodpnhodaaDoorR0
import Derived.Test.YtnimnoodpnhodaaDoorZ5
import Derived.Test.YtnimnoodpnhodaaDoorZ6
import Derived.Test.YtnimnoodpnhodaaDoorParseZ
namespace Go.Proofs.YtnimnoodpnhodaaDoor
open Go.RowKit Dig

section
variable {w : World} {a1 : Option Addr} {n1 c1 : Nat} {m1 : Bool} {z1 : Int} {a2 : Option Addr} {n2 c2 : Nat} {m2 : Bool} {z2 : Int} {k1 k2 : Nat}
theorem mul_b (h1 : Zd w (.slice a1 n1 c1) m1 z1) (h2 : Zd w (.slice a2 n2 c2) m2 z2) (b1 : Bd k1 z1) (b2 : Bd k2 z2) (hk1 : k1 ≤ 1000000) (hk2 : k2 ≤ 1000000) :
    Calls Tryd.prog 21 #[.agg #[.slice a1 n1 c1, .bool m1], .agg #[.slice a2 n2 c2, .bool m2]] w (RetZ w (z1 * z2)) :=
  mul_any _ _ _ _ _ _ _ _ _ _ _ h1 h2 (Nat.le_trans (b1.len hk1) (by omega)) (Nat.le_trans (b2.len hk2) (by omega))
theorem add_b (h1 : Zd w (.slice a1 n1 c1) m1 z1) (h2 : Zd w (.slice a2 n2 c2) m2 z2) (b1 : Bd k1 z1) (b2 : Bd k2 z2) (hk1 : k1 ≤ 1000000) (hk2 : k2 ≤ 1000000) :
    Calls Tryd.prog 22 #[.agg #[.slice a1 n1 c1, .bool m1], .agg #[.slice a2 n2 c2, .bool m2]] w (RetZ w (z1 + z2)) :=
  add_any _ _ _ _ _ _ _ _ _ _ _ h1 h2 (Nat.le_trans (b1.len hk1) (by omega)) (Nat.le_trans (b2.len hk2) (by omega))
theorem sub_b (h1 : Zd w (.slice a1 n1 c1) m1 z1) (h2 : Zd w (.slice a2 n2 c2) m2 z2) (b1 : Bd k1 z1) (b2 : Bd k2 z2) (hk1 : k1 ≤ 1000000) (hk2 : k2 ≤ 1000000) :
    Calls Tryd.prog 39 #[.agg #[.slice a1 n1 c1, .bool m1], .agg #[.slice a2 n2 c2, .bool m2]] w (RetZ w (z1 - z2)) :=
  sub_any _ _ _ _ _ _ _ _ _ _ _ h1 h2 (Nat.le_trans (b1.len hk1) (by omega)) (Nat.le_trans (b2.len hk2) (by omega))
theorem cmp_b (h1 : Zd w (.slice a1 n1 c1) m1 z1) (h2 : Zd w (.slice a2 n2 c2) m2 z2) (b1 : Bd k1 z1) (b2 : Bd k2 z2) (hk1 : k1 ≤ 1000000) (hk2 : k2 ≤ 1000000) :
    Calls Tryd.prog 23 #[.agg #[.slice a1 n1 c1, .bool m1], .agg #[.slice a2 n2 c2, .bool m2]] w fun e w' => e = .returned (.int .i64 (sgn (z1 - z2))) ∧ Below w.heap.size w w' :=
  cmp_any _ _ _ _ _ _ _ _ _ _ _ h1 h2 (Nat.le_trans (b1.len hk1) (by omega)) (Nat.le_trans (b2.len hk2) (by omega))
theorem gcd_b (h1 : Zd w (.slice a1 n1 c1) m1 z1) (h2 : Zd w (.slice a2 n2 c2) m2 z2) (b1 : Bd k1 z1) (b2 : Bd k2 z2) (hk1 : k1 ≤ 1000000) (hk2 : k2 ≤ 1000000) :
    Calls Tryd.prog 18 #[.agg #[.slice a1 n1 c1, .bool m1], .agg #[.slice a2 n2 c2, .bool m2]] w (RetZ w (Int.gcd z1 z2)) :=
  gcd_any _ _ _ _ _ _ _ _ _ _ _ h1 h2 (Nat.le_trans (b1.len hk1) (by omega)) (Nat.le_trans (b2.len hk2) (by omega))
theorem quo_b (h1 : Zd w (.slice a1 n1 c1) m1 z1) (h2 : Zd w (.slice a2 n2 c2) m2 z2) (hz : z2 ≠ 0) (b1 : Bd k1 z1) (b2 : Bd k2 z2) (hk1 : k1 ≤ 1000000) (hk2 : k2 ≤ 1000000) :
    Calls Tryd.prog 12 #[.agg #[.slice a1 n1 c1, .bool m1], .agg #[.slice a2 n2 c2, .bool m2]] w (RetQ w (z1 / z2) (z1 % z2) 0) :=
  quotient_nz _ _ _ _ _ _ _ _ _ _ _ h1 h2 hz (Nat.le_trans (b1.len hk1) (by omega)) (Nat.le_trans (b2.len hk2) (by omega))
theorem neg_b (h1 : Zd w (.slice a1 n1 c1) m1 z1) : Calls Tryd.prog 41 #[.agg #[.slice a1 n1 c1, .bool m1]] w (RetZ w (-z1)) := neg_any _ _ _ _ _ _ h1
theorem abs_b (h1 : Zd w (.slice a1 n1 c1) m1 z1) : Calls Tryd.prog 40 #[.agg #[.slice a1 n1 c1, .bool m1]] w (RetZ w z1.natAbs) := abs_any _ _ _ _ _ _ h1
theorem sign_b (h1 : Zd w (.slice a1 n1 c1) m1 z1) : Calls Tryd.prog 6 #[.agg #[.slice a1 n1 c1, .bool m1]] w fun e w' => e = .returned (.int .i64 (sgn z1)) ∧ Below w.heap.size w w' := sign_any _ _ _ _ _ _ h1
end

set_option maxRecDepth 100000 in
set_option maxHeartbeats 2000000 in
theorem ratio_any (a1 : Option Addr) (n1 c1 : Nat) (m1 : Bool) (z1 : Int) (a2 : Option Addr) (n2 c2 : Nat) (m2 : Bool) (z2 : Int) (w : World) (h1 : Zd w (.slice a1 n1 c1) m1 z1) (h2 : Zd w (.slice a2 n2 c2) m2 z2) (k1 k2 : Nat) (b1 : Bd k1 z1) (b2 : Bd k2 z2) (hk1 : k1 ≤ 200000) (hk2 : k2 ≤ 200000) (hz : z2 ≠ 0) :
    Calls Tryd.prog 56 #[.agg #[.slice a1 n1 c1, .bool m1], .agg #[.slice a2 n2 c2, .bool m2]] w (RetR w (Rat.divInt z1 z2)) := by
  obtain ⟨g, hg⟩ : ∃ g : Int, g = (if z2 < 0 then -(Int.gcd z1 z2 : Int) else (Int.gcd z1 z2 : Int)) := ⟨_, rfl⟩
  have hp := ratio_parts z1 z2 hz
  rw [← hg] at hp
  have HP := Lib.hid hp
  have HG := Lib.hid hg
  have hg0 : g ≠ 0 := by have := gcd_pos' z1 hz; rw [hg]; split <;> omega
  have HG0 := Lib.hid hg0
  have BG := Lib.hid (show Bd (k1 + k2) g from by rw [hg]; split; exact (b1.gcd b2).neg; exact b1.gcd b2)
  have B1 := Lib.hid b1
  have B2 := Lib.hid b2
  have HM := Lib.hid h2.m
  have HLd := Lib.hid (show (dg 16777216 (Rat.divInt z1 z2).den).length ≤ 10000000 from by
    have := ((b2.of_le (y := ((Rat.divInt z1 z2).den : Int)) (by rw [Int.natAbs_natCast]; exact divInt_den_le z1 hz)).len (by omega))
    rw [Int.natAbs_natCast] at this; omega)
  have HDE := Lib.hid (show ((((Rat.divInt z1 z2).den : Nat) : Int) + -1 * ((1 : Nat) : Int)).toNat = (Rat.divInt z1 z2).den - 1 from by have := (Rat.divInt z1 z2).den_nz; omega)
  clear hp hg hg0 b1 b2 hz
  have hC := Lib.hid ((((((St.enter w).pz h1).pz h2).al (w.heap.size) #[.slice a1 n1 c1, .bool m1] 27 rfl rfl).al (w.heap.size + 1) #[.slice a2 n2 c2, .bool m2] 27 (by simp) rfl).al (w.heap.size + 2) #[.slice none 0 0, .bool false, .slice none 0 0] 32 (by simp) rfl)
  clear h1 h2
  go_enter Tryd.func56, Tryd.ntmps56
  go_wp2_with fail
  refine (gcd_b (hC.out.z 0 rfl) (hC.out.z 1 rfl) B1.out B2.out (by omega) (by omega)).mono ?_
  rintro e w3 ⟨a3, n3, c3, m3, rfl, hz, hb⟩
  have hC3 := Lib.hid (((hC.out.call hb).pz hz).al w3.heap.size #[.slice a3 n3 c3, .bool m3] 27 rfl rfl)
  clear hb hz hC
  cases m2
  · have hC3_c00 := hC3.out.cell 0 0 rfl rfl
    have hC3_f00 := hC3.out.free 0 0 rfl
    have hC3_c01 := hC3.out.cell 0 1 rfl rfl
    have hC3_f01 := hC3.out.free 0 1 rfl
    have hC3_c11 := hC3.out.cell 1 1 rfl rfl
    have hC3_f11 := hC3.out.free 1 1 rfl
    have hC3_c30 := hC3.out.cell 3 0 rfl rfl
    have hC3_f30 := hC3.out.free 3 0 rfl
    have hC3_c31 := hC3.out.cell 3 1 rfl rfl
    have hC3_f31 := hC3.out.free 3 1 rfl
    have o03 := hC3.out.apart 0 3 rfl rfl (by omega)
    have o13 := hC3.out.apart 1 3 rfl rfl (by omega)
    have HGE := Lib.hid (show ((Int.gcd z1 z2 : Nat) : Int) = g from by rw [HG.out]; have := HM.out; simp at this; rw [if_neg (by omega)])
    go_wp2_with fail
    refine (quo_b (hC3.out.z 0 rfl) (HGE.out ▸ hC3.out.z 2 rfl) HG0.out B1.out BG.out (by omega) (by omega)).mono ?_
    rintro e w5 ⟨a5, n5, c5, m5, _, _, _, _, rfl, hz, _, hb⟩
    have hC5 := Lib.hid ((hC3.out.call hb).pz hz)
    clear hz hb hC3 hC3_c00 hC3_c01 hC3_c11 hC3_c30 hC3_c31 hC3_f00 hC3_f01 hC3_f11 hC3_f30 hC3_f31
    have hC5_c00 := hC5.out.cell 0 0 rfl rfl
    have hC5_f00 := hC5.out.free 0 0 rfl
    have hC5_c01 := hC5.out.cell 0 1 rfl rfl
    have hC5_f01 := hC5.out.free 0 1 rfl
    have hC5_c10 := hC5.out.cell 1 0 rfl rfl
    have hC5_f10 := hC5.out.free 1 0 rfl
    have hC5_c11 := hC5.out.cell 1 1 rfl rfl
    have hC5_f11 := hC5.out.free 1 1 rfl
    have hC5_c30 := hC5.out.cell 3 0 rfl rfl
    have hC5_f30 := hC5.out.free 3 0 rfl
    have hC5_c31 := hC5.out.cell 3 1 rfl rfl
    have hC5_f31 := hC5.out.free 3 1 rfl
    go_wp2_with fail
    refine (quo_b ((hC5.out |>.set 0 rfl |>.set 0 rfl).z 1 rfl) (HGE.out ▸ (hC5.out |>.set 0 rfl |>.set 0 rfl).z 2 rfl) HG0.out B2.out BG.out (by omega) (by omega)).mono ?_
    rintro e w6 ⟨a6, n6, c6, m6, _, _, _, _, rfl, hz, _, hb⟩
    have hC6 := Lib.hid (((hC5.out |>.set 0 rfl |>.set 0 rfl).call hb).pz hz)
    clear hz hb hC5 hC5_c00 hC5_c01 hC5_c10 hC5_c11 hC5_c30 hC5_c31 hC5_f00 hC5_f01 hC5_f10 hC5_f11 hC5_f30 hC5_f31
    have hC6_c10 := hC6.out.cell 1 0 rfl rfl
    have hC6_f10 := hC6.out.free 1 0 rfl
    have hC6_c11 := hC6.out.cell 1 1 rfl rfl
    have hC6_f11 := hC6.out.free 1 1 rfl
    go_wp2_with fail
    refine gen_app (hC6.out |>.set 1 rfl |>.set 1 rfl) ?_
    intro W7 hc7
    have hC7 := Lib.hid hc7
    clear hc7 hC6 hC6_c10 hC6_c11 hC6_f10 hC6_f11
    have HN := Lib.hid (show Zd W7 (.slice a5 n5 c5) m5 (Rat.divInt z1 z2).num from by have := hC7.out.z 3 rfl; rwa [HP.out.1] at this)
    have HDn := Lib.hid (show Dg W7 (.slice a6 n6 c6) (Rat.divInt z1 z2).den from by have := (hC7.out.z 4 rfl).d; rwa [HP.out.2, Int.natAbs_natCast] at this)
    have hC8 := Lib.hid ((hC7.out.pz HN.out).pd HDn.out)
    clear hC7 HN HDn
    go_region_held3 (fun w' => w'.cell? ⟨w.heap.size, 0, none⟩ = some (.slice a5 n5 c5) ∧ w'.cell? ⟨w.heap.size, 1, none⟩ = some (.bool m5) ∧ w'.cell? ⟨w.heap.size + 1, 0, none⟩ = some (.slice a6 n6 c6) ∧ True)
      (first
        | (with_reducible refine And.intro (?_ : World.cell? (World.setCell (World.setCell (World.setCell w10 _ _) _ _) _ _) _ = _) ?_; exact (hC10.out |>.set 2 rfl |>.set 2 rfl |>.set 2 rfl).cell 0 0 rfl rfl; exact ⟨(hC10.out |>.set 2 rfl |>.set 2 rfl |>.set 2 rfl).cell 0 1 rfl rfl, (hC10.out |>.set 2 rfl |>.set 2 rfl |>.set 2 rfl).cell 1 0 rfl rfl, trivial⟩)
        | (with_reducible refine And.intro (?_ : World.cell? w10 _ = _) ?_; exact hC10.out.cell 0 0 rfl rfl; exact ⟨hC10.out.cell 0 1 rfl rfl, hC10.out.cell 1 0 rfl rfl, trivial⟩)
        | (with_reducible refine And.intro (?_ : World.cell? w9 _ = _) ?_; exact hC9.out.cell 0 0 rfl rfl; exact ⟨hC9.out.cell 0 1 rfl rfl, hC9.out.cell 1 0 rfl rfl, trivial⟩)
        | (with_reducible refine And.intro (?_ : World.cell? _ _ = _) ?_; exact hC8.out.drew.cell 0 0 rfl rfl; exact ⟨hC8.out.drew.cell 0 1 rfl rfl, hC8.out.drew.cell 1 0 rfl rfl, trivial⟩))
      (first
        | (have _t := hC9; go_at_call 47; refine (plus_any _ _ _ _ _ _ (-1) _ 1 _ (hC9.out.d 6 rfl) (hC9.out.d 7 rfl) (.inr rfl) (by have := (Rat.divInt z1 z2).den_nz; omega) HLd.out (dg_len_le (by omega) (by omega))).mono ?_; rintro e w10 ⟨a10, n10, c10, rfl, hz, hb⟩; have hC10 := Lib.hid ((hC9.out.call hb).pd hz); clear hz hb; have hC10_c20 := hC10.out.cell 2 0 rfl rfl; have hC10_f20 := hC10.out.free 2 0 rfl; have hC10_c21 := hC10.out.cell 2 1 rfl rfl; have hC10_f21 := hC10.out.free 2 1 rfl; have hC10_c22 := hC10.out.cell 2 2 rfl rfl; have hC10_f22 := hC10.out.free 2 2 rfl; clear _t hC9)
        | (have _t := hC8; go_at_call 37; refine (word_any 1 _ (by omega)).mono ?_; rintro e w9 ⟨a9, n9, c9, rfl, hz, hb⟩; have hC9 := Lib.hid ((hC8.out.drew.call hb).pd hz); clear hz hb; clear _t hC8)
        | fail)
    go_wp2
    refine ret_st (hC10.out |>.set 2 rfl |>.set 2 rfl |>.set 2 rfl) (v := .agg #[.slice a5 n5 c5, .bool m5, .slice a10 n10 c10]) (fun hF => ?_) rfl (fun hF => ⟨_, _, _, _, _, _, _, rfl, ⟨hF.z 5 rfl, ?_⟩, hF.be⟩)
    · have e0 := hF.cell 2 0 rfl rfl
      have e1 := hF.cell 2 1 rfl rfl
      have e2 := hF.cell 2 2 rfl rfl
      simp [results, Tryd.results56, go_sem, e0, e1, e2]
    · have := hF.d 8 rfl
      rwa [HDE.out] at this
  · have y30 := hC3.out.cell 3 0 rfl rfl
    have y31 := hC3.out.cell 3 1 rfl rfl
    have y11 := hC3.out.cell 1 1 rfl rfl
    go_wp2_with fail
    refine (neg_b (hC3.out.z 2 rfl)).mono ?_
    rintro e w4 ⟨a4, n4, c4, m4, rfl, hz, hb⟩
    have hC4 := Lib.hid ((hC3.out.call hb).pz hz)
    clear hb hz hC3
    have hC4_c30 := hC4.out.cell 3 0 rfl rfl
    have hC4_f30 := hC4.out.free 3 0 rfl
    have hC4_c31 := hC4.out.cell 3 1 rfl rfl
    have hC4_f31 := hC4.out.free 3 1 rfl
    go_upto_region 4 with fail
    refine wp_gen (hC4.out |>.set 3 rfl |>.set 3 rfl) ?_
    intro W4 hc4
    have hC4b := Lib.hid hc4
    clear hc4 hC4 y30 y31 y11 hC4_c30 hC4_c31 hC4_f30 hC4_f31
    have hC4b_c00 := hC4b.out.cell 0 0 rfl rfl
    have hC4b_f00 := hC4b.out.free 0 0 rfl
    have hC4b_c01 := hC4b.out.cell 0 1 rfl rfl
    have hC4b_f01 := hC4b.out.free 0 1 rfl
    have hC4b_c11 := hC4b.out.cell 1 1 rfl rfl
    have hC4b_f11 := hC4b.out.free 1 1 rfl
    have hC4b_c30 := hC4b.out.cell 3 0 rfl rfl
    have hC4b_f30 := hC4b.out.free 3 0 rfl
    have hC4b_c31 := hC4b.out.cell 3 1 rfl rfl
    have hC4b_f31 := hC4b.out.free 3 1 rfl
    have o03 := hC4b.out.apart 0 3 rfl rfl (by omega)
    have o13 := hC4b.out.apart 1 3 rfl rfl (by omega)
    have HGE := Lib.hid (show (-((Int.gcd z1 z2 : Nat) : Int)) = g from by rw [HG.out]; have := HM.out; simp at this; rw [if_pos (by omega)])
    go_wp2_with fail
    refine (quo_b (hC4b.out.z 0 rfl) (HGE.out ▸ hC4b.out.z 3 rfl) HG0.out B1.out BG.out (by omega) (by omega)).mono ?_
    rintro e w5 ⟨a5, n5, c5, m5, _, _, _, _, rfl, hz, _, hb⟩
    have hC5 := Lib.hid ((hC4b.out.call hb).pz hz)
    clear hz hb hC4b hC4b_c00 hC4b_c01 hC4b_c11 hC4b_c30 hC4b_c31 hC4b_f00 hC4b_f01 hC4b_f11 hC4b_f30 hC4b_f31
    have hC5_c00 := hC5.out.cell 0 0 rfl rfl
    have hC5_f00 := hC5.out.free 0 0 rfl
    have hC5_c01 := hC5.out.cell 0 1 rfl rfl
    have hC5_f01 := hC5.out.free 0 1 rfl
    have hC5_c10 := hC5.out.cell 1 0 rfl rfl
    have hC5_f10 := hC5.out.free 1 0 rfl
    have hC5_c11 := hC5.out.cell 1 1 rfl rfl
    have hC5_f11 := hC5.out.free 1 1 rfl
    have hC5_c30 := hC5.out.cell 3 0 rfl rfl
    have hC5_f30 := hC5.out.free 3 0 rfl
    have hC5_c31 := hC5.out.cell 3 1 rfl rfl
    have hC5_f31 := hC5.out.free 3 1 rfl
    go_wp2_with fail
    refine (quo_b ((hC5.out |>.set 0 rfl |>.set 0 rfl).z 1 rfl) (HGE.out ▸ (hC5.out |>.set 0 rfl |>.set 0 rfl).z 3 rfl) HG0.out B2.out BG.out (by omega) (by omega)).mono ?_
    rintro e w6 ⟨a6, n6, c6, m6, _, _, _, _, rfl, hz, _, hb⟩
    have hC6 := Lib.hid (((hC5.out |>.set 0 rfl |>.set 0 rfl).call hb).pz hz)
    clear hz hb hC5 hC5_c00 hC5_c01 hC5_c10 hC5_c11 hC5_c30 hC5_c31 hC5_f00 hC5_f01 hC5_f10 hC5_f11 hC5_f30 hC5_f31
    have hC6_c10 := hC6.out.cell 1 0 rfl rfl
    have hC6_f10 := hC6.out.free 1 0 rfl
    have hC6_c11 := hC6.out.cell 1 1 rfl rfl
    have hC6_f11 := hC6.out.free 1 1 rfl
    go_wp2_with fail
    refine gen_app (hC6.out |>.set 1 rfl |>.set 1 rfl) ?_
    intro W7 hc7
    have hC7 := Lib.hid hc7
    clear hc7 hC6 hC6_c10 hC6_c11 hC6_f10 hC6_f11
    have HN := Lib.hid (show Zd W7 (.slice a5 n5 c5) m5 (Rat.divInt z1 z2).num from by have := hC7.out.z 4 rfl; rwa [HP.out.1] at this)
    have HDn := Lib.hid (show Dg W7 (.slice a6 n6 c6) (Rat.divInt z1 z2).den from by have := (hC7.out.z 5 rfl).d; rwa [HP.out.2, Int.natAbs_natCast] at this)
    have hC8 := Lib.hid ((hC7.out.pz HN.out).pd HDn.out)
    clear hC7 HN HDn
    go_region_held3 (fun w' => w'.cell? ⟨w.heap.size, 0, none⟩ = some (.slice a5 n5 c5) ∧ w'.cell? ⟨w.heap.size, 1, none⟩ = some (.bool m5) ∧ w'.cell? ⟨w.heap.size + 1, 0, none⟩ = some (.slice a6 n6 c6) ∧ True)
      (first
        | (with_reducible refine And.intro (?_ : World.cell? (World.setCell (World.setCell (World.setCell w10 _ _) _ _) _ _) _ = _) ?_; exact (hC10.out |>.set 2 rfl |>.set 2 rfl |>.set 2 rfl).cell 0 0 rfl rfl; exact ⟨(hC10.out |>.set 2 rfl |>.set 2 rfl |>.set 2 rfl).cell 0 1 rfl rfl, (hC10.out |>.set 2 rfl |>.set 2 rfl |>.set 2 rfl).cell 1 0 rfl rfl, trivial⟩)
        | (with_reducible refine And.intro (?_ : World.cell? w10 _ = _) ?_; exact hC10.out.cell 0 0 rfl rfl; exact ⟨hC10.out.cell 0 1 rfl rfl, hC10.out.cell 1 0 rfl rfl, trivial⟩)
        | (with_reducible refine And.intro (?_ : World.cell? w9 _ = _) ?_; exact hC9.out.cell 0 0 rfl rfl; exact ⟨hC9.out.cell 0 1 rfl rfl, hC9.out.cell 1 0 rfl rfl, trivial⟩)
        | (with_reducible refine And.intro (?_ : World.cell? _ _ = _) ?_; exact hC8.out.drew.cell 0 0 rfl rfl; exact ⟨hC8.out.drew.cell 0 1 rfl rfl, hC8.out.drew.cell 1 0 rfl rfl, trivial⟩))
      (first
        | (have _t := hC9; go_at_call 47; refine (plus_any _ _ _ _ _ _ (-1) _ 1 _ (hC9.out.d 7 rfl) (hC9.out.d 8 rfl) (.inr rfl) (by have := (Rat.divInt z1 z2).den_nz; omega) HLd.out (dg_len_le (by omega) (by omega))).mono ?_; rintro e w10 ⟨a10, n10, c10, rfl, hz, hb⟩; have hC10 := Lib.hid ((hC9.out.call hb).pd hz); clear hz hb; have hC10_c20 := hC10.out.cell 2 0 rfl rfl; have hC10_f20 := hC10.out.free 2 0 rfl; have hC10_c21 := hC10.out.cell 2 1 rfl rfl; have hC10_f21 := hC10.out.free 2 1 rfl; have hC10_c22 := hC10.out.cell 2 2 rfl rfl; have hC10_f22 := hC10.out.free 2 2 rfl; clear _t hC9)
        | (have _t := hC8; go_at_call 37; refine (word_any 1 _ (by omega)).mono ?_; rintro e w9 ⟨a9, n9, c9, rfl, hz, hb⟩; have hC9 := Lib.hid ((hC8.out.drew.call hb).pd hz); clear hz hb; clear _t hC8)
        | fail)
    go_wp2
    refine ret_st (hC10.out |>.set 2 rfl |>.set 2 rfl |>.set 2 rfl) (v := .agg #[.slice a5 n5 c5, .bool m5, .slice a10 n10 c10]) (fun hF => ?_) rfl (fun hF => ⟨_, _, _, _, _, _, _, rfl, ⟨hF.z 6 rfl, ?_⟩, hF.be⟩)
    · have e0 := hF.cell 2 0 rfl rfl
      have e1 := hF.cell 2 1 rfl rfl
      have e2 := hF.cell 2 2 rfl rfl
      simp [results, Tryd.results56, go_sem, e0, e1, e2]
    · have := hF.d 9 rfl
      rwa [HDE.out] at this

end Go.Proofs.YtnimnoodpnhodaaDoor

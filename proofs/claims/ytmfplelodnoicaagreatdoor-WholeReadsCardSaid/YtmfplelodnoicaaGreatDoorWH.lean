/- ratios: ratio and what leans on it -/
/- ratios: Whole, Of, OfZ, Ratio, Neg, Abs, Num, Den, Mul, Div, Sign, Cmp -/
/- ratios: OfZ, Of, Ratio, Div -/
import Derived.Test.YtmfplelodnoicaaGreatDoorWF
import Derived.Test.YtmfplelodnoicaaGreatDoorWG
namespace Go.Proofs.YtmfplelodnoicaaGreatDoor
open Go.RowKit Dig

section
variable {w : World} {a1 : Option Addr} {n1 c1 : Nat} {m1 : Bool} {z1 : Int} {a2 : Option Addr} {n2 c2 : Nat} {m2 : Bool} {z2 : Int} {k1 k2 : Nat}
theorem mul_b (h1 : Zd w (.slice a1 n1 c1) m1 z1) (h2 : Zd w (.slice a2 n2 c2) m2 z2) (b1 : Bd k1 z1) (b2 : Bd k2 z2) (hk1 : k1 ≤ 1000000) (hk2 : k2 ≤ 1000000) :
    Calls Tryz.prog 41 #[.agg #[.slice a1 n1 c1, .bool m1], .agg #[.slice a2 n2 c2, .bool m2]] w (RetZ w (z1 * z2)) :=
  mul_any _ _ _ _ _ _ _ _ _ _ _ h1 h2 (Nat.le_trans (b1.len hk1) (by omega)) (Nat.le_trans (b2.len hk2) (by omega))
theorem add_b (h1 : Zd w (.slice a1 n1 c1) m1 z1) (h2 : Zd w (.slice a2 n2 c2) m2 z2) (b1 : Bd k1 z1) (b2 : Bd k2 z2) (hk1 : k1 ≤ 1000000) (hk2 : k2 ≤ 1000000) :
    Calls Tryz.prog 37 #[.agg #[.slice a1 n1 c1, .bool m1], .agg #[.slice a2 n2 c2, .bool m2]] w (RetZ w (z1 + z2)) :=
  add_any _ _ _ _ _ _ _ _ _ _ _ h1 h2 (Nat.le_trans (b1.len hk1) (by omega)) (Nat.le_trans (b2.len hk2) (by omega))
theorem sub_b (h1 : Zd w (.slice a1 n1 c1) m1 z1) (h2 : Zd w (.slice a2 n2 c2) m2 z2) (b1 : Bd k1 z1) (b2 : Bd k2 z2) (hk1 : k1 ≤ 1000000) (hk2 : k2 ≤ 1000000) :
    Calls Tryz.prog 39 #[.agg #[.slice a1 n1 c1, .bool m1], .agg #[.slice a2 n2 c2, .bool m2]] w (RetZ w (z1 - z2)) :=
  sub_any _ _ _ _ _ _ _ _ _ _ _ h1 h2 (Nat.le_trans (b1.len hk1) (by omega)) (Nat.le_trans (b2.len hk2) (by omega))
theorem cmp_b (h1 : Zd w (.slice a1 n1 c1) m1 z1) (h2 : Zd w (.slice a2 n2 c2) m2 z2) (b1 : Bd k1 z1) (b2 : Bd k2 z2) (hk1 : k1 ≤ 1000000) (hk2 : k2 ≤ 1000000) :
    Calls Tryz.prog 31 #[.agg #[.slice a1 n1 c1, .bool m1], .agg #[.slice a2 n2 c2, .bool m2]] w fun e w' => e = .returned (.int .i64 (sgn (z1 - z2))) ∧ Below w.heap.size w w' :=
  cmp_any _ _ _ _ _ _ _ _ _ _ _ h1 h2 (Nat.le_trans (b1.len hk1) (by omega)) (Nat.le_trans (b2.len hk2) (by omega))
theorem gcd_b (h1 : Zd w (.slice a1 n1 c1) m1 z1) (h2 : Zd w (.slice a2 n2 c2) m2 z2) (b1 : Bd k1 z1) (b2 : Bd k2 z2) (hk1 : k1 ≤ 1000000) (hk2 : k2 ≤ 1000000) :
    Calls Tryz.prog 15 #[.agg #[.slice a1 n1 c1, .bool m1], .agg #[.slice a2 n2 c2, .bool m2]] w (RetZ w (Int.gcd z1 z2)) :=
  gcd_any _ _ _ _ _ _ _ _ _ _ _ h1 h2 (Nat.le_trans (b1.len hk1) (by omega)) (Nat.le_trans (b2.len hk2) (by omega))
theorem quo_b (h1 : Zd w (.slice a1 n1 c1) m1 z1) (h2 : Zd w (.slice a2 n2 c2) m2 z2) (hz : z2 ≠ 0) (b1 : Bd k1 z1) (b2 : Bd k2 z2) (hk1 : k1 ≤ 1000000) (hk2 : k2 ≤ 1000000) :
    Calls Tryz.prog 17 #[.agg #[.slice a1 n1 c1, .bool m1], .agg #[.slice a2 n2 c2, .bool m2]] w (RetQ w (z1 / z2) (z1 % z2) 0) :=
  quotient_nz _ _ _ _ _ _ _ _ _ _ _ h1 h2 hz (Nat.le_trans (b1.len hk1) (by omega)) (Nat.le_trans (b2.len hk2) (by omega))
theorem neg_b (h1 : Zd w (.slice a1 n1 c1) m1 z1) : Calls Tryz.prog 43 #[.agg #[.slice a1 n1 c1, .bool m1]] w (RetZ w (-z1)) := neg_any _ _ _ _ _ _ h1
theorem abs_b (h1 : Zd w (.slice a1 n1 c1) m1 z1) : Calls Tryz.prog 45 #[.agg #[.slice a1 n1 c1, .bool m1]] w (RetZ w z1.natAbs) := abs_any _ _ _ _ _ _ h1
theorem sign_b (h1 : Zd w (.slice a1 n1 c1) m1 z1) : Calls Tryz.prog 18 #[.agg #[.slice a1 n1 c1, .bool m1]] w fun e w' => e = .returned (.int .i64 (sgn z1)) ∧ Below w.heap.size w w' := sign_any _ _ _ _ _ _ h1
end

set_option maxRecDepth 100000 in
set_option maxHeartbeats 2000000 in
theorem ratio_any (a1 : Option Addr) (n1 c1 : Nat) (m1 : Bool) (z1 : Int) (a2 : Option Addr) (n2 c2 : Nat) (m2 : Bool) (z2 : Int) (w : World) (h1 : Zd w (.slice a1 n1 c1) m1 z1) (h2 : Zd w (.slice a2 n2 c2) m2 z2) (k1 k2 : Nat) (b1 : Bd k1 z1) (b2 : Bd k2 z2) (hk1 : k1 ≤ 200000) (hk2 : k2 ≤ 200000) (hz : z2 ≠ 0) :
    Calls Tryz.prog 123 #[.agg #[.slice a1 n1 c1, .bool m1], .agg #[.slice a2 n2 c2, .bool m2]] w (RetR w (Rat.divInt z1 z2)) := by
  obtain ⟨g, hg⟩ : ∃ g : Int, g = (if z2 < 0 then -(Int.gcd z1 z2 : Int) else (Int.gcd z1 z2 : Int)) := ⟨_, rfl⟩
  have hp := ratio_parts z1 z2 hz
  rw [← hg] at hp
  have HP := Lib.hid hp
  have HG := Lib.hid hg
  have hg0 : g ≠ 0 := by have := gcd_pos' z1 hz; rw [hg]; split <;> omega
  have HG0 := Lib.hid hg0
  have BG := Lib.hid (show Bd (k1 + k2) g from by rw [hg]; split; exact (b1.gcd b2).neg; exact b1.gcd b2)
  have B1 := Lib.hid b1
  have B2 := Lib.hid b2
  have HM := Lib.hid h2.m
  have HLd := Lib.hid (show (dg 16777216 (Rat.divInt z1 z2).den).length ≤ 10000000 from by
    have := ((b2.of_le (y := ((Rat.divInt z1 z2).den : Int)) (by rw [Int.natAbs_natCast]; exact divInt_den_le z1 hz)).len (by omega))
    rw [Int.natAbs_natCast] at this; omega)
  have HDE := Lib.hid (show ((((Rat.divInt z1 z2).den : Nat) : Int) + -1 * ((1 : Nat) : Int)).toNat = (Rat.divInt z1 z2).den - 1 from by have := (Rat.divInt z1 z2).den_nz; omega)
  clear hp hg hg0 b1 b2 hz
  have hC := Lib.hid ((((((St.enter w).pz h1).pz h2).al (w.heap.size) #[.slice a1 n1 c1, .bool m1] 28 rfl rfl).al (w.heap.size + 1) #[.slice a2 n2 c2, .bool m2] 28 (by simp) rfl).al (w.heap.size + 2) #[.slice none 0 0, .bool false, .slice none 0 0] 48 (by simp) rfl)
  clear h1 h2
  go_enter Tryz.func123, Tryz.ntmps123
  go_wp2_with fail
  refine (gcd_b (hC.out.z 0 rfl) (hC.out.z 1 rfl) B1.out B2.out (by omega) (by omega)).mono ?_
  rintro e w3 ⟨a3, n3, c3, m3, rfl, hz, hb⟩
  have hC3 := Lib.hid (((hC.out.call hb).pz hz).al w3.heap.size #[.slice a3 n3 c3, .bool m3] 28 rfl rfl)
  clear hb hz hC
  cases m2
  · have hC3_c00 := hC3.out.cell 0 0 rfl rfl
    have hC3_f00 := hC3.out.free 0 0 rfl
    have hC3_c01 := hC3.out.cell 0 1 rfl rfl
    have hC3_f01 := hC3.out.free 0 1 rfl
    have hC3_c11 := hC3.out.cell 1 1 rfl rfl
    have hC3_f11 := hC3.out.free 1 1 rfl
    have hC3_c30 := hC3.out.cell 3 0 rfl rfl
    have hC3_f30 := hC3.out.free 3 0 rfl
    have hC3_c31 := hC3.out.cell 3 1 rfl rfl
    have hC3_f31 := hC3.out.free 3 1 rfl
    have o03 := hC3.out.apart 0 3 rfl rfl (by omega)
    have o13 := hC3.out.apart 1 3 rfl rfl (by omega)
    have HGE := Lib.hid (show ((Int.gcd z1 z2 : Nat) : Int) = g from by rw [HG.out]; have := HM.out; simp at this; rw [if_neg (by omega)])
    go_wp2_with fail
    refine (quo_b (hC3.out.z 0 rfl) (HGE.out ▸ hC3.out.z 2 rfl) HG0.out B1.out BG.out (by omega) (by omega)).mono ?_
    rintro e w5 ⟨a5, n5, c5, m5, _, _, _, _, rfl, hz, _, hb⟩
    have hC5 := Lib.hid ((hC3.out.call hb).pz hz)
    clear hz hb hC3 hC3_c00 hC3_c01 hC3_c11 hC3_c30 hC3_c31 hC3_f00 hC3_f01 hC3_f11 hC3_f30 hC3_f31
    have hC5_c00 := hC5.out.cell 0 0 rfl rfl
    have hC5_f00 := hC5.out.free 0 0 rfl
    have hC5_c01 := hC5.out.cell 0 1 rfl rfl
    have hC5_f01 := hC5.out.free 0 1 rfl
    have hC5_c10 := hC5.out.cell 1 0 rfl rfl
    have hC5_f10 := hC5.out.free 1 0 rfl
    have hC5_c11 := hC5.out.cell 1 1 rfl rfl
    have hC5_f11 := hC5.out.free 1 1 rfl
    have hC5_c30 := hC5.out.cell 3 0 rfl rfl
    have hC5_f30 := hC5.out.free 3 0 rfl
    have hC5_c31 := hC5.out.cell 3 1 rfl rfl
    have hC5_f31 := hC5.out.free 3 1 rfl
    go_wp2_with fail
    refine (quo_b ((hC5.out |>.set 0 rfl |>.set 0 rfl).z 1 rfl) (HGE.out ▸ (hC5.out |>.set 0 rfl |>.set 0 rfl).z 2 rfl) HG0.out B2.out BG.out (by omega) (by omega)).mono ?_
    rintro e w6 ⟨a6, n6, c6, m6, _, _, _, _, rfl, hz, _, hb⟩
    have hC6 := Lib.hid (((hC5.out |>.set 0 rfl |>.set 0 rfl).call hb).pz hz)
    clear hz hb hC5 hC5_c00 hC5_c01 hC5_c10 hC5_c11 hC5_c30 hC5_c31 hC5_f00 hC5_f01 hC5_f10 hC5_f11 hC5_f30 hC5_f31
    have hC6_c10 := hC6.out.cell 1 0 rfl rfl
    have hC6_f10 := hC6.out.free 1 0 rfl
    have hC6_c11 := hC6.out.cell 1 1 rfl rfl
    have hC6_f11 := hC6.out.free 1 1 rfl
    go_wp2_with fail
    refine gen_app (hC6.out |>.set 1 rfl |>.set 1 rfl) ?_
    intro W7 hc7
    have hC7 := Lib.hid hc7
    clear hc7 hC6 hC6_c10 hC6_c11 hC6_f10 hC6_f11
    have HN := Lib.hid (show Zd W7 (.slice a5 n5 c5) m5 (Rat.divInt z1 z2).num from by have := hC7.out.z 3 rfl; rwa [HP.out.1] at this)
    have HDn := Lib.hid (show Dg W7 (.slice a6 n6 c6) (Rat.divInt z1 z2).den from by have := (hC7.out.z 4 rfl).d; rwa [HP.out.2, Int.natAbs_natCast] at this)
    have hC8 := Lib.hid ((hC7.out.pz HN.out).pd HDn.out)
    clear hC7 HN HDn
    go_region_held3 (fun w' => w'.cell? ⟨w.heap.size, 0, none⟩ = some (.slice a5 n5 c5) ∧ w'.cell? ⟨w.heap.size, 1, none⟩ = some (.bool m5) ∧ w'.cell? ⟨w.heap.size + 1, 0, none⟩ = some (.slice a6 n6 c6) ∧ True)
      (first
        | (with_reducible refine And.intro (?_ : World.cell? (World.setCell (World.setCell (World.setCell w10 _ _) _ _) _ _) _ = _) ?_; exact (hC10.out |>.set 2 rfl |>.set 2 rfl |>.set 2 rfl).cell 0 0 rfl rfl; exact ⟨(hC10.out |>.set 2 rfl |>.set 2 rfl |>.set 2 rfl).cell 0 1 rfl rfl, (hC10.out |>.set 2 rfl |>.set 2 rfl |>.set 2 rfl).cell 1 0 rfl rfl, trivial⟩)
        | (with_reducible refine And.intro (?_ : World.cell? w10 _ = _) ?_; exact hC10.out.cell 0 0 rfl rfl; exact ⟨hC10.out.cell 0 1 rfl rfl, hC10.out.cell 1 0 rfl rfl, trivial⟩)
        | (with_reducible refine And.intro (?_ : World.cell? w9 _ = _) ?_; exact hC9.out.cell 0 0 rfl rfl; exact ⟨hC9.out.cell 0 1 rfl rfl, hC9.out.cell 1 0 rfl rfl, trivial⟩)
        | (with_reducible refine And.intro (?_ : World.cell? _ _ = _) ?_; exact hC8.out.drew.cell 0 0 rfl rfl; exact ⟨hC8.out.drew.cell 0 1 rfl rfl, hC8.out.drew.cell 1 0 rfl rfl, trivial⟩))
      (first
        | (have _t := hC9; go_at_call 120; refine (plus_any _ _ _ _ _ _ (-1) _ 1 _ (hC9.out.d 6 rfl) (hC9.out.d 7 rfl) (.inr rfl) (by have := (Rat.divInt z1 z2).den_nz; omega) HLd.out (dg_len_le (by omega) (by omega))).mono ?_; rintro e w10 ⟨a10, n10, c10, rfl, hz, hb⟩; have hC10 := Lib.hid ((hC9.out.call hb).pd hz); clear hz hb; have hC10_c20 := hC10.out.cell 2 0 rfl rfl; have hC10_f20 := hC10.out.free 2 0 rfl; have hC10_c21 := hC10.out.cell 2 1 rfl rfl; have hC10_f21 := hC10.out.free 2 1 rfl; have hC10_c22 := hC10.out.cell 2 2 rfl rfl; have hC10_f22 := hC10.out.free 2 2 rfl; clear _t hC9)
        | (have _t := hC8; go_at_call 119; refine (word_any 1 _ (by omega)).mono ?_; rintro e w9 ⟨a9, n9, c9, rfl, hz, hb⟩; have hC9 := Lib.hid ((hC8.out.drew.call hb).pd hz); clear hz hb; clear _t hC8)
        | fail)
    go_wp2
    refine ret_st (hC10.out |>.set 2 rfl |>.set 2 rfl |>.set 2 rfl) (v := .agg #[.slice a5 n5 c5, .bool m5, .slice a10 n10 c10]) (fun hF => ?_) rfl (fun hF => ⟨_, _, _, _, _, _, _, rfl, ⟨hF.z 5 rfl, ?_⟩, hF.be⟩)
    · have e0 := hF.cell 2 0 rfl rfl
      have e1 := hF.cell 2 1 rfl rfl
      have e2 := hF.cell 2 2 rfl rfl
      simp [results, Tryz.results123, go_sem, e0, e1, e2]
    · have := hF.d 8 rfl
      rwa [HDE.out] at this
  · have y30 := hC3.out.cell 3 0 rfl rfl
    have y31 := hC3.out.cell 3 1 rfl rfl
    have y11 := hC3.out.cell 1 1 rfl rfl
    go_wp2_with fail
    refine (neg_b (hC3.out.z 2 rfl)).mono ?_
    rintro e w4 ⟨a4, n4, c4, m4, rfl, hz, hb⟩
    have hC4 := Lib.hid ((hC3.out.call hb).pz hz)
    clear hb hz hC3
    have hC4_c30 := hC4.out.cell 3 0 rfl rfl
    have hC4_f30 := hC4.out.free 3 0 rfl
    have hC4_c31 := hC4.out.cell 3 1 rfl rfl
    have hC4_f31 := hC4.out.free 3 1 rfl
    go_upto_region 4 with fail
    refine wp_gen (hC4.out |>.set 3 rfl |>.set 3 rfl) ?_
    intro W4 hc4
    have hC4b := Lib.hid hc4
    clear hc4 hC4 y30 y31 y11 hC4_c30 hC4_c31 hC4_f30 hC4_f31
    have hC4b_c00 := hC4b.out.cell 0 0 rfl rfl
    have hC4b_f00 := hC4b.out.free 0 0 rfl
    have hC4b_c01 := hC4b.out.cell 0 1 rfl rfl
    have hC4b_f01 := hC4b.out.free 0 1 rfl
    have hC4b_c11 := hC4b.out.cell 1 1 rfl rfl
    have hC4b_f11 := hC4b.out.free 1 1 rfl
    have hC4b_c30 := hC4b.out.cell 3 0 rfl rfl
    have hC4b_f30 := hC4b.out.free 3 0 rfl
    have hC4b_c31 := hC4b.out.cell 3 1 rfl rfl
    have hC4b_f31 := hC4b.out.free 3 1 rfl
    have o03 := hC4b.out.apart 0 3 rfl rfl (by omega)
    have o13 := hC4b.out.apart 1 3 rfl rfl (by omega)
    have HGE := Lib.hid (show (-((Int.gcd z1 z2 : Nat) : Int)) = g from by rw [HG.out]; have := HM.out; simp at this; rw [if_pos (by omega)])
    go_wp2_with fail
    refine (quo_b (hC4b.out.z 0 rfl) (HGE.out ▸ hC4b.out.z 3 rfl) HG0.out B1.out BG.out (by omega) (by omega)).mono ?_
    rintro e w5 ⟨a5, n5, c5, m5, _, _, _, _, rfl, hz, _, hb⟩
    have hC5 := Lib.hid ((hC4b.out.call hb).pz hz)
    clear hz hb hC4b hC4b_c00 hC4b_c01 hC4b_c11 hC4b_c30 hC4b_c31 hC4b_f00 hC4b_f01 hC4b_f11 hC4b_f30 hC4b_f31
    have hC5_c00 := hC5.out.cell 0 0 rfl rfl
    have hC5_f00 := hC5.out.free 0 0 rfl
    have hC5_c01 := hC5.out.cell 0 1 rfl rfl
    have hC5_f01 := hC5.out.free 0 1 rfl
    have hC5_c10 := hC5.out.cell 1 0 rfl rfl
    have hC5_f10 := hC5.out.free 1 0 rfl
    have hC5_c11 := hC5.out.cell 1 1 rfl rfl
    have hC5_f11 := hC5.out.free 1 1 rfl
    have hC5_c30 := hC5.out.cell 3 0 rfl rfl
    have hC5_f30 := hC5.out.free 3 0 rfl
    have hC5_c31 := hC5.out.cell 3 1 rfl rfl
    have hC5_f31 := hC5.out.free 3 1 rfl
    go_wp2_with fail
    refine (quo_b ((hC5.out |>.set 0 rfl |>.set 0 rfl).z 1 rfl) (HGE.out ▸ (hC5.out |>.set 0 rfl |>.set 0 rfl).z 3 rfl) HG0.out B2.out BG.out (by omega) (by omega)).mono ?_
    rintro e w6 ⟨a6, n6, c6, m6, _, _, _, _, rfl, hz, _, hb⟩
    have hC6 := Lib.hid (((hC5.out |>.set 0 rfl |>.set 0 rfl).call hb).pz hz)
    clear hz hb hC5 hC5_c00 hC5_c01 hC5_c10 hC5_c11 hC5_c30 hC5_c31 hC5_f00 hC5_f01 hC5_f10 hC5_f11 hC5_f30 hC5_f31
    have hC6_c10 := hC6.out.cell 1 0 rfl rfl
    have hC6_f10 := hC6.out.free 1 0 rfl
    have hC6_c11 := hC6.out.cell 1 1 rfl rfl
    have hC6_f11 := hC6.out.free 1 1 rfl
    go_wp2_with fail
    refine gen_app (hC6.out |>.set 1 rfl |>.set 1 rfl) ?_
    intro W7 hc7
    have hC7 := Lib.hid hc7
    clear hc7 hC6 hC6_c10 hC6_c11 hC6_f10 hC6_f11
    have HN := Lib.hid (show Zd W7 (.slice a5 n5 c5) m5 (Rat.divInt z1 z2).num from by have := hC7.out.z 4 rfl; rwa [HP.out.1] at this)
    have HDn := Lib.hid (show Dg W7 (.slice a6 n6 c6) (Rat.divInt z1 z2).den from by have := (hC7.out.z 5 rfl).d; rwa [HP.out.2, Int.natAbs_natCast] at this)
    have hC8 := Lib.hid ((hC7.out.pz HN.out).pd HDn.out)
    clear hC7 HN HDn
    go_region_held3 (fun w' => w'.cell? ⟨w.heap.size, 0, none⟩ = some (.slice a5 n5 c5) ∧ w'.cell? ⟨w.heap.size, 1, none⟩ = some (.bool m5) ∧ w'.cell? ⟨w.heap.size + 1, 0, none⟩ = some (.slice a6 n6 c6) ∧ True)
      (first
        | (with_reducible refine And.intro (?_ : World.cell? (World.setCell (World.setCell (World.setCell w10 _ _) _ _) _ _) _ = _) ?_; exact (hC10.out |>.set 2 rfl |>.set 2 rfl |>.set 2 rfl).cell 0 0 rfl rfl; exact ⟨(hC10.out |>.set 2 rfl |>.set 2 rfl |>.set 2 rfl).cell 0 1 rfl rfl, (hC10.out |>.set 2 rfl |>.set 2 rfl |>.set 2 rfl).cell 1 0 rfl rfl, trivial⟩)
        | (with_reducible refine And.intro (?_ : World.cell? w10 _ = _) ?_; exact hC10.out.cell 0 0 rfl rfl; exact ⟨hC10.out.cell 0 1 rfl rfl, hC10.out.cell 1 0 rfl rfl, trivial⟩)
        | (with_reducible refine And.intro (?_ : World.cell? w9 _ = _) ?_; exact hC9.out.cell 0 0 rfl rfl; exact ⟨hC9.out.cell 0 1 rfl rfl, hC9.out.cell 1 0 rfl rfl, trivial⟩)
        | (with_reducible refine And.intro (?_ : World.cell? _ _ = _) ?_; exact hC8.out.drew.cell 0 0 rfl rfl; exact ⟨hC8.out.drew.cell 0 1 rfl rfl, hC8.out.drew.cell 1 0 rfl rfl, trivial⟩))
      (first
        | (have _t := hC9; go_at_call 120; refine (plus_any _ _ _ _ _ _ (-1) _ 1 _ (hC9.out.d 7 rfl) (hC9.out.d 8 rfl) (.inr rfl) (by have := (Rat.divInt z1 z2).den_nz; omega) HLd.out (dg_len_le (by omega) (by omega))).mono ?_; rintro e w10 ⟨a10, n10, c10, rfl, hz, hb⟩; have hC10 := Lib.hid ((hC9.out.call hb).pd hz); clear hz hb; have hC10_c20 := hC10.out.cell 2 0 rfl rfl; have hC10_f20 := hC10.out.free 2 0 rfl; have hC10_c21 := hC10.out.cell 2 1 rfl rfl; have hC10_f21 := hC10.out.free 2 1 rfl; have hC10_c22 := hC10.out.cell 2 2 rfl rfl; have hC10_f22 := hC10.out.free 2 2 rfl; clear _t hC9)
        | (have _t := hC8; go_at_call 119; refine (word_any 1 _ (by omega)).mono ?_; rintro e w9 ⟨a9, n9, c9, rfl, hz, hb⟩; have hC9 := Lib.hid ((hC8.out.drew.call hb).pd hz); clear hz hb; clear _t hC8)
        | fail)
    go_wp2
    refine ret_st (hC10.out |>.set 2 rfl |>.set 2 rfl |>.set 2 rfl) (v := .agg #[.slice a5 n5 c5, .bool m5, .slice a10 n10 c10]) (fun hF => ?_) rfl (fun hF => ⟨_, _, _, _, _, _, _, rfl, ⟨hF.z 6 rfl, ?_⟩, hF.be⟩)
    · have e0 := hF.cell 2 0 rfl rfl
      have e1 := hF.cell 2 1 rfl rfl
      have e2 := hF.cell 2 2 rfl rfl
      simp [results, Tryz.results123, go_sem, e0, e1, e2]
    · have := hF.d 9 rfl
      rwa [HDE.out] at this

end Go.Proofs.YtmfplelodnoicaaGreatDoor
namespace Go.Proofs.YtmfplelodnoicaaGreatDoor
open Go.RowKit Dig

section
variable {w : World} {a1 : Option Addr} {n1 c1 : Nat} {m1 : Bool} {z1 : Int} {a2 : Option Addr} {n2 c2 : Nat} {m2 : Bool} {z2 : Int} {k1 k2 : Nat}
theorem ratio_b (h1 : Zd w (.slice a1 n1 c1) m1 z1) (h2 : Zd w (.slice a2 n2 c2) m2 z2) (b1 : Bd k1 z1) (b2 : Bd k2 z2) (hk1 : k1 ≤ 200000) (hk2 : k2 ≤ 200000) (hz : z2 ≠ 0) :
    Calls Tryz.prog 123 #[.agg #[.slice a1 n1 c1, .bool m1], .agg #[.slice a2 n2 c2, .bool m2]] w (RetR w (Rat.divInt z1 z2)) :=
  ratio_any _ _ _ _ _ _ _ _ _ _ _ h1 h2 k1 k2 b1 b2 hk1 hk2 hz
variable {d1 : Option Addr} {e1 f1 : Nat} {q1 : Rat}
theorem bottom_b (h1 : Rd w (.slice a1 n1 c1) m1 (.slice d1 e1 f1) q1) (b1 : Bq k1 q1) (hk1 : k1 ≤ 1000000) :
    Calls Tryz.prog 117 #[.agg #[.slice a1 n1 c1, .bool m1, .slice d1 e1 f1]] w (RetZ w q1.den) := bottom_any _ _ _ _ _ _ _ _ _ h1 k1 b1 hk1
end

theorem Dg.nil {w : World} : Dg w (.slice none 0 0) 0 := by unfold Dg; rw [dg_zero]; exact Sl.nil
theorem Rd.nil {w : World} : Rd w (.slice none 0 0) false (.slice none 0 0) 0 := ⟨Zd.nil, Dg.nil⟩

set_option maxRecDepth 100000 in
set_option maxHeartbeats 1000000 in
theorem whole_any (a1 : Option Addr) (n1 c1 : Nat) (m1 : Bool) (z1 : Int) (w : World) (h1 : Zd w (.slice a1 n1 c1) m1 z1) :
    Calls Tryz.prog 50 #[.agg #[.slice a1 n1 c1, .bool m1]] w (RetR w (z1 : Rat)) := by
  have hC := Lib.hid ((((St.enter w).pz h1).al (w.heap.size) #[.slice a1 n1 c1, .bool m1] 28 rfl rfl).al (w.heap.size + 1) #[.slice a1 n1 c1, .bool m1, .slice none 0 0] 48 (by simp) rfl)
  clear h1
  go_enter Tryz.func50, Tryz.ntmps50
  go_wp2
  refine ret_st hC.out (v := .agg #[.slice a1 n1 c1, .bool m1, .slice none 0 0]) (fun hF => ?_) rfl (fun hF => ⟨_, _, _, _, _, _, _, rfl, ⟨by rw [Rat.num_intCast]; exact hF.z 0 rfl, by rw [Rat.den_intCast]; exact Dg.nil⟩, hF.be⟩)
  · have e0 := hF.cell 1 0 rfl rfl
    have e1 := hF.cell 1 1 rfl rfl
    have e2 := hF.cell 1 2 rfl rfl
    simp [results, Tryz.results50, go_sem, e0, e1, e2]

set_option maxRecDepth 100000 in
set_option maxHeartbeats 1000000 in
theorem num_any (a1 : Option Addr) (n1 c1 : Nat) (m1 : Bool) (d1 : Option Addr) (e1 f1 : Nat) (q1 : Rat) (w : World) (h1 : Rd w (.slice a1 n1 c1) m1 (.slice d1 e1 f1) q1) :
    Calls Tryz.prog 56 #[.agg #[.slice a1 n1 c1, .bool m1, .slice d1 e1 f1]] w (RetZ w q1.num) := by
  have hC := Lib.hid ((((St.enter w).pr h1).al (w.heap.size) #[.slice a1 n1 c1, .bool m1, .slice d1 e1 f1] 48 rfl rfl).al (w.heap.size + 1) #[.slice a1 n1 c1, .bool m1] 28 (by simp) rfl)
  clear h1
  go_enter Tryz.func56, Tryz.ntmps56
  go_wp2
  refine ret_st hC.out (v := .agg #[.slice a1 n1 c1, .bool m1]) (fun hF => ?_) rfl (fun hF => ⟨_, _, _, _, rfl, (hF.r 0 rfl).z, hF.be⟩)
  · have e0 := hF.cell 1 0 rfl rfl
    have e1 := hF.cell 1 1 rfl rfl
    simp [results, Tryz.results56, go_sem, e0, e1]

set_option maxRecDepth 100000 in
set_option maxHeartbeats 1000000 in
theorem den_any (a1 : Option Addr) (n1 c1 : Nat) (m1 : Bool) (d1 : Option Addr) (e1 f1 : Nat) (q1 : Rat) (w : World) (h1 : Rd w (.slice a1 n1 c1) m1 (.slice d1 e1 f1) q1) (k1 : Nat) (b1 : Bq k1 q1) (hk1 : k1 ≤ 40000) :
    Calls Tryz.prog 58 #[.agg #[.slice a1 n1 c1, .bool m1, .slice d1 e1 f1]] w (RetZ w (q1.den)) := by
  have B1 := Lib.hid b1
  clear b1
  have hC := Lib.hid ((((St.enter w).pr h1).al (w.heap.size) #[.slice a1 n1 c1, .bool m1, .slice d1 e1 f1] 48 rfl rfl).al (w.heap.size + 1) #[.slice none 0 0, .bool false] 28 (by simp) rfl)
  clear h1
  go_enter Tryz.func58, Tryz.ntmps58
  have hC_c00 := hC.out.cell 0 0 rfl rfl
  have hC_f00 := hC.out.free 0 0 rfl
  have hC_c01 := hC.out.cell 0 1 rfl rfl
  have hC_f01 := hC.out.free 0 1 rfl
  have hC_c02 := hC.out.cell 0 2 rfl rfl
  have hC_f02 := hC.out.free 0 2 rfl
  go_wp2_with fail
  refine (bottom_b (hC.out.r 0 rfl) B1.out (by omega)).mono ?_
  rintro e w3 ⟨a3, n3, c3, m3, rfl, hz, hb⟩
  have hC3 := Lib.hid ((hC.out.call hb).pz hz)
  clear hb hz
  have hC3_c10 := hC3.out.cell 1 0 rfl rfl
  have hC3_f10 := hC3.out.free 1 0 rfl
  have hC3_c11 := hC3.out.cell 1 1 rfl rfl
  have hC3_f11 := hC3.out.free 1 1 rfl
  clear hC
  go_wp2
  refine ret_st (hC3.out |>.set 1 rfl |>.set 1 rfl) (v := .agg #[.slice a3 n3 c3, .bool m3]) (fun hF => ?_) rfl (fun hF => ⟨_, _, _, _, rfl, hF.z 1 rfl, hF.be⟩)
  · have e0 := hF.cell 1 0 rfl rfl
    have e1 := hF.cell 1 1 rfl rfl
    simp [results, Tryz.results58, go_sem, e0, e1]

set_option maxRecDepth 100000 in
set_option maxHeartbeats 1000000 in
theorem rneg_any (a1 : Option Addr) (n1 c1 : Nat) (m1 : Bool) (d1 : Option Addr) (e1 f1 : Nat) (q1 : Rat) (w : World) (h1 : Rd w (.slice a1 n1 c1) m1 (.slice d1 e1 f1) q1) :
    Calls Tryz.prog 73 #[.agg #[.slice a1 n1 c1, .bool m1, .slice d1 e1 f1]] w (RetR w (-q1)) := by
  have hC := Lib.hid ((((St.enter w).pr h1).al (w.heap.size) #[.slice a1 n1 c1, .bool m1, .slice d1 e1 f1] 48 rfl rfl).al (w.heap.size + 1) #[.slice none 0 0, .bool false, .slice none 0 0] 48 (by simp) rfl)
  clear h1
  go_enter Tryz.func73, Tryz.ntmps73
  go_wp2
  go_region_held3 (fun w' => w'.cell? ⟨w.heap.size, 0, none⟩ = some (.slice a1 n1 c1) ∧ w'.cell? ⟨w.heap.size, 1, none⟩ = some (.bool m1) ∧ w'.cell? ⟨w.heap.size, 2, none⟩ = some (.slice d1 e1 f1) ∧ True)
    (first
      | (with_reducible refine And.intro (?_ : World.cell? (World.setCell (World.setCell (World.setCell w3 _ _) _ _) _ _) _ = _) ?_; exact (hC3.out |>.set 1 rfl |>.set 1 rfl |>.set 1 rfl).cell 0 0 rfl rfl; exact ⟨(hC3.out |>.set 1 rfl |>.set 1 rfl |>.set 1 rfl).cell 0 1 rfl rfl, (hC3.out |>.set 1 rfl |>.set 1 rfl |>.set 1 rfl).cell 0 2 rfl rfl, trivial⟩)
      | (with_reducible refine And.intro (?_ : World.cell? w3 _ = _) ?_; exact hC3.out.cell 0 0 rfl rfl; exact ⟨hC3.out.cell 0 1 rfl rfl, hC3.out.cell 0 2 rfl rfl, trivial⟩)
      | (with_reducible refine And.intro (?_ : World.cell? _ _ = _) ?_; exact hC.out.drew.cell 0 0 rfl rfl; exact ⟨hC.out.drew.cell 0 1 rfl rfl, hC.out.drew.cell 0 2 rfl rfl, trivial⟩))
    (first
      | (have _t := hC; go_at_call 43; refine (neg_b (hC.out.drew.r 0 rfl).z).mono ?_; rintro e w3 ⟨a3, n3, c3, m3, rfl, hz, hb⟩; have hC3 := Lib.hid ((hC.out.drew.call hb).pz hz); clear hb hz; have hC3_c10 := hC3.out.cell 1 0 rfl rfl; have hC3_f10 := hC3.out.free 1 0 rfl; have hC3_c11 := hC3.out.cell 1 1 rfl rfl; have hC3_f11 := hC3.out.free 1 1 rfl; have hC3_c12 := hC3.out.cell 1 2 rfl rfl; have hC3_f12 := hC3.out.free 1 2 rfl; clear _t hC)
      | fail)
  go_wp2
  refine ret_st (hC3.out |>.set 1 rfl |>.set 1 rfl |>.set 1 rfl) (v := .agg #[.slice a3 n3 c3, .bool m3, .slice d1 e1 f1]) (fun hF => ?_) rfl (fun hF => ⟨_, _, _, _, _, _, _, rfl, ⟨by rw [Rat.neg_num]; exact hF.z 1 rfl, by rw [Rat.neg_den]; exact (hF.r 0 rfl).d⟩, hF.be⟩)
  · have e0 := hF.cell 1 0 rfl rfl
    have e1 := hF.cell 1 1 rfl rfl
    have e2 := hF.cell 1 2 rfl rfl
    simp [results, Tryz.results73, go_sem, e0, e1, e2]

set_option maxRecDepth 100000 in
set_option maxHeartbeats 1000000 in
theorem rabs_any (a1 : Option Addr) (n1 c1 : Nat) (m1 : Bool) (d1 : Option Addr) (e1 f1 : Nat) (q1 : Rat) (w : World) (h1 : Rd w (.slice a1 n1 c1) m1 (.slice d1 e1 f1) q1) :
    Calls Tryz.prog 75 #[.agg #[.slice a1 n1 c1, .bool m1, .slice d1 e1 f1]] w (RetR w (q1.abs)) := by
  have hC := Lib.hid ((((St.enter w).pr h1).al (w.heap.size) #[.slice a1 n1 c1, .bool m1, .slice d1 e1 f1] 48 rfl rfl).al (w.heap.size + 1) #[.slice none 0 0, .bool false, .slice none 0 0] 48 (by simp) rfl)
  clear h1
  go_enter Tryz.func75, Tryz.ntmps75
  go_wp2
  go_region_held3 (fun w' => w'.cell? ⟨w.heap.size, 0, none⟩ = some (.slice a1 n1 c1) ∧ w'.cell? ⟨w.heap.size, 1, none⟩ = some (.bool m1) ∧ w'.cell? ⟨w.heap.size, 2, none⟩ = some (.slice d1 e1 f1) ∧ True)
    (first
      | (with_reducible refine And.intro (?_ : World.cell? (World.setCell (World.setCell (World.setCell w3 _ _) _ _) _ _) _ = _) ?_; exact (hC3.out |>.set 1 rfl |>.set 1 rfl |>.set 1 rfl).cell 0 0 rfl rfl; exact ⟨(hC3.out |>.set 1 rfl |>.set 1 rfl |>.set 1 rfl).cell 0 1 rfl rfl, (hC3.out |>.set 1 rfl |>.set 1 rfl |>.set 1 rfl).cell 0 2 rfl rfl, trivial⟩)
      | (with_reducible refine And.intro (?_ : World.cell? w3 _ = _) ?_; exact hC3.out.cell 0 0 rfl rfl; exact ⟨hC3.out.cell 0 1 rfl rfl, hC3.out.cell 0 2 rfl rfl, trivial⟩)
      | (with_reducible refine And.intro (?_ : World.cell? _ _ = _) ?_; exact hC.out.drew.cell 0 0 rfl rfl; exact ⟨hC.out.drew.cell 0 1 rfl rfl, hC.out.drew.cell 0 2 rfl rfl, trivial⟩))
    (first
      | (have _t := hC; go_at_call 45; refine (abs_b (hC.out.drew.r 0 rfl).z).mono ?_; rintro e w3 ⟨a3, n3, c3, m3, rfl, hz, hb⟩; have hC3 := Lib.hid ((hC.out.drew.call hb).pz hz); clear hb hz; have hC3_c10 := hC3.out.cell 1 0 rfl rfl; have hC3_f10 := hC3.out.free 1 0 rfl; have hC3_c11 := hC3.out.cell 1 1 rfl rfl; have hC3_f11 := hC3.out.free 1 1 rfl; have hC3_c12 := hC3.out.cell 1 2 rfl rfl; have hC3_f12 := hC3.out.free 1 2 rfl; clear _t hC)
      | fail)
  go_wp2
  refine ret_st (hC3.out |>.set 1 rfl |>.set 1 rfl |>.set 1 rfl) (v := .agg #[.slice a3 n3 c3, .bool m3, .slice d1 e1 f1]) (fun hF => ?_) rfl (fun hF => ⟨_, _, _, _, _, _, _, rfl, ⟨by have := abs_num q1; unfold Rat.abs; rw [this]; exact hF.z 1 rfl, by have := abs_den q1; unfold Rat.abs; rw [this]; exact (hF.r 0 rfl).d⟩, hF.be⟩)
  · have e0 := hF.cell 1 0 rfl rfl
    have e1 := hF.cell 1 1 rfl rfl
    have e2 := hF.cell 1 2 rfl rfl
    simp [results, Tryz.results75, go_sem, e0, e1, e2]

set_option maxRecDepth 100000 in
set_option maxHeartbeats 1000000 in
theorem rmul_any (a1 : Option Addr) (n1 c1 : Nat) (m1 : Bool) (d1 : Option Addr) (e1 f1 : Nat) (q1 : Rat) (a2 : Option Addr) (n2 c2 : Nat) (m2 : Bool) (d2 : Option Addr) (e2 f2 : Nat) (q2 : Rat) (w : World) (h1 : Rd w (.slice a1 n1 c1) m1 (.slice d1 e1 f1) q1) (h2 : Rd w (.slice a2 n2 c2) m2 (.slice d2 e2 f2) q2) (k1 k2 : Nat) (b1 : Bq k1 q1) (b2 : Bq k2 q2) (hk1 : k1 ≤ 40000) (hk2 : k2 ≤ 40000) :
    Calls Tryz.prog 71 #[.agg #[.slice a1 n1 c1, .bool m1, .slice d1 e1 f1], .agg #[.slice a2 n2 c2, .bool m2, .slice d2 e2 f2]] w (RetR w (Rat.divInt (q1.num * q2.num) (q1.den * q2.den))) := by
  have B1 := Lib.hid b1
  have B2 := Lib.hid b2
  clear b1 b2
  have hC := Lib.hid ((((((St.enter w).pr h1).pr h2).al (w.heap.size) #[.slice a1 n1 c1, .bool m1, .slice d1 e1 f1] 48 rfl rfl).al (w.heap.size + 1) #[.slice a2 n2 c2, .bool m2, .slice d2 e2 f2] 48 (by simp) rfl).al (w.heap.size + 2) #[.slice none 0 0, .bool false, .slice none 0 0] 48 (by simp) rfl)
  clear h1 h2
  go_enter Tryz.func71, Tryz.ntmps71
  go_wp2
  go_region_held3 (fun w' => w'.cell? ⟨w.heap.size, 0, none⟩ = some (.slice a1 n1 c1) ∧ w'.cell? ⟨w.heap.size, 1, none⟩ = some (.bool m1) ∧ w'.cell? ⟨w.heap.size, 2, none⟩ = some (.slice d1 e1 f1) ∧ w'.cell? ⟨w.heap.size + 1, 0, none⟩ = some (.slice a2 n2 c2) ∧ w'.cell? ⟨w.heap.size + 1, 1, none⟩ = some (.bool m2) ∧ w'.cell? ⟨w.heap.size + 1, 2, none⟩ = some (.slice d2 e2 f2) ∧ True)
    (first
      | (with_reducible refine And.intro (?_ : World.cell? (World.setCell (World.setCell (World.setCell w7 _ _) _ _) _ _) _ = _) ?_; exact (hC7.out |>.set 2 rfl |>.set 2 rfl |>.set 2 rfl).cell 0 0 rfl rfl; exact ⟨(hC7.out |>.set 2 rfl |>.set 2 rfl |>.set 2 rfl).cell 0 1 rfl rfl, (hC7.out |>.set 2 rfl |>.set 2 rfl |>.set 2 rfl).cell 0 2 rfl rfl, (hC7.out |>.set 2 rfl |>.set 2 rfl |>.set 2 rfl).cell 1 0 rfl rfl, (hC7.out |>.set 2 rfl |>.set 2 rfl |>.set 2 rfl).cell 1 1 rfl rfl, (hC7.out |>.set 2 rfl |>.set 2 rfl |>.set 2 rfl).cell 1 2 rfl rfl, trivial⟩)
      | (with_reducible refine And.intro (?_ : World.cell? w7 _ = _) ?_; exact hC7.out.cell 0 0 rfl rfl; exact ⟨hC7.out.cell 0 1 rfl rfl, hC7.out.cell 0 2 rfl rfl, hC7.out.cell 1 0 rfl rfl, hC7.out.cell 1 1 rfl rfl, hC7.out.cell 1 2 rfl rfl, trivial⟩)
      | (with_reducible refine And.intro (?_ : World.cell? w6 _ = _) ?_; exact hC6.out.cell 0 0 rfl rfl; exact ⟨hC6.out.cell 0 1 rfl rfl, hC6.out.cell 0 2 rfl rfl, hC6.out.cell 1 0 rfl rfl, hC6.out.cell 1 1 rfl rfl, hC6.out.cell 1 2 rfl rfl, trivial⟩)
      | (with_reducible refine And.intro (?_ : World.cell? w5 _ = _) ?_; exact hC5.out.cell 0 0 rfl rfl; exact ⟨hC5.out.cell 0 1 rfl rfl, hC5.out.cell 0 2 rfl rfl, hC5.out.cell 1 0 rfl rfl, hC5.out.cell 1 1 rfl rfl, hC5.out.cell 1 2 rfl rfl, trivial⟩)
      | (with_reducible refine And.intro (?_ : World.cell? w4 _ = _) ?_; exact hC4.out.cell 0 0 rfl rfl; exact ⟨hC4.out.cell 0 1 rfl rfl, hC4.out.cell 0 2 rfl rfl, hC4.out.cell 1 0 rfl rfl, hC4.out.cell 1 1 rfl rfl, hC4.out.cell 1 2 rfl rfl, trivial⟩)
      | (with_reducible refine And.intro (?_ : World.cell? w3 _ = _) ?_; exact hC3.out.cell 0 0 rfl rfl; exact ⟨hC3.out.cell 0 1 rfl rfl, hC3.out.cell 0 2 rfl rfl, hC3.out.cell 1 0 rfl rfl, hC3.out.cell 1 1 rfl rfl, hC3.out.cell 1 2 rfl rfl, trivial⟩)
      | (with_reducible refine And.intro (?_ : World.cell? _ _ = _) ?_; exact hC.out.drew.cell 0 0 rfl rfl; exact ⟨hC.out.drew.cell 0 1 rfl rfl, hC.out.drew.cell 0 2 rfl rfl, hC.out.drew.cell 1 0 rfl rfl, hC.out.drew.cell 1 1 rfl rfl, hC.out.drew.cell 1 2 rfl rfl, trivial⟩))
    (first
      | (have _t := hC6; go_at_call 123; refine (ratio_b (hC6.out.z 2 rfl) (hC6.out.z 5 rfl) (B1.out.num.mul B2.out.num) (B1.out.den.mul B2.out.den) (by omega) (by omega) (Int.mul_ne_zero (den_ne q1) (den_ne q2))).mono ?_; rintro e w7 ⟨a7, n7, c7, m7, d7, e7, f7, rfl, hz, hb⟩; have hC7 := Lib.hid ((hC6.out.call hb).pr hz); clear hb hz; have hC7_c20 := hC7.out.cell 2 0 rfl rfl; have hC7_f20 := hC7.out.free 2 0 rfl; have hC7_c21 := hC7.out.cell 2 1 rfl rfl; have hC7_f21 := hC7.out.free 2 1 rfl; have hC7_c22 := hC7.out.cell 2 2 rfl rfl; have hC7_f22 := hC7.out.free 2 2 rfl; clear _t hC6)
      | (have _t := hC5; go_at_call 41; refine (mul_b (hC5.out.z 3 rfl) (hC5.out.z 4 rfl) B1.out.den B2.out.den (by omega) (by omega)).mono ?_; rintro e w6 ⟨a6, n6, c6, m6, rfl, hz, hb⟩; have hC6 := Lib.hid ((hC5.out.call hb).pz hz); clear hb hz; clear _t hC5)
      | (have _t := hC4; go_at_call 117; refine (bottom_b (hC4.out.r 1 rfl) B2.out (by omega)).mono ?_; rintro e w5 ⟨a5, n5, c5, m5, rfl, hz, hb⟩; have hC5 := Lib.hid ((hC4.out.call hb).pz hz); clear hb hz; clear _t hC4)
      | (have _t := hC3; go_at_call 117; refine (bottom_b (hC3.out.r 0 rfl) B1.out (by omega)).mono ?_; rintro e w4 ⟨a4, n4, c4, m4, rfl, hz, hb⟩; have hC4 := Lib.hid ((hC3.out.call hb).pz hz); clear hb hz; clear _t hC3)
      | (have _t := hC; go_at_call 41; refine (mul_b (hC.out.drew.r 0 rfl).z (hC.out.drew.r 1 rfl).z B1.out.num B2.out.num (by omega) (by omega)).mono ?_; rintro e w3 ⟨a3, n3, c3, m3, rfl, hz, hb⟩; have hC3 := Lib.hid ((hC.out.drew.call hb).pz hz); clear hb hz; clear _t hC)
      | fail)
  go_wp2
  refine ret_st (hC7.out |>.set 2 rfl |>.set 2 rfl |>.set 2 rfl) (v := .agg #[.slice a7 n7 c7, .bool m7, .slice d7 e7 f7]) (fun hF => ?_) rfl (fun hF => ⟨_, _, _, _, _, _, _, rfl, hF.r 6 rfl, hF.be⟩)
  · have e0 := hF.cell 2 0 rfl rfl
    have e1 := hF.cell 2 1 rfl rfl
    have e2 := hF.cell 2 2 rfl rfl
    simp [results, Tryz.results71, go_sem, e0, e1, e2]

set_option maxRecDepth 100000 in
set_option maxHeartbeats 1000000 in
theorem rsign_any (a1 : Option Addr) (n1 c1 : Nat) (m1 : Bool) (d1 : Option Addr) (e1 f1 : Nat) (q1 : Rat) (w : World) (h1 : Rd w (.slice a1 n1 c1) m1 (.slice d1 e1 f1) q1) :
    Calls Tryz.prog 23 #[.agg #[.slice a1 n1 c1, .bool m1, .slice d1 e1 f1]] w (fun e w' => e = .returned (.int .i64 (sgnQ q1)) ∧ Below w.heap.size w w') := by
  have hC := Lib.hid (((St.enter w).pr h1).al (w.heap.size) #[.slice a1 n1 c1, .bool m1, .slice d1 e1 f1] 48 rfl rfl)
  clear h1
  go_enter Tryz.func23, Tryz.ntmps23
  have hC_c00 := hC.out.cell 0 0 rfl rfl
  have hC_f00 := hC.out.free 0 0 rfl
  have hC_c01 := hC.out.cell 0 1 rfl rfl
  have hC_f01 := hC.out.free 0 1 rfl
  go_wp2_with fail
  refine (sign_b (hC.out.r 0 rfl).z).mono ?_
  rintro e w3 ⟨rfl, hb⟩
  have hC3 := Lib.hid ((hC.out.call hb))
  clear hb
  clear hC
  go_wp2
  go_ret
  exact ⟨by rw [← sgn_num]; rfl, hC3.out.be⟩

set_option maxRecDepth 100000 in
set_option maxHeartbeats 1000000 in
theorem rcmp_any (a1 : Option Addr) (n1 c1 : Nat) (m1 : Bool) (d1 : Option Addr) (e1 f1 : Nat) (q1 : Rat) (a2 : Option Addr) (n2 c2 : Nat) (m2 : Bool) (d2 : Option Addr) (e2 f2 : Nat) (q2 : Rat) (w : World) (h1 : Rd w (.slice a1 n1 c1) m1 (.slice d1 e1 f1) q1) (h2 : Rd w (.slice a2 n2 c2) m2 (.slice d2 e2 f2) q2) (k1 k2 : Nat) (b1 : Bq k1 q1) (b2 : Bq k2 q2) (hk1 : k1 ≤ 40000) (hk2 : k2 ≤ 40000) :
    Calls Tryz.prog 32 #[.agg #[.slice a1 n1 c1, .bool m1, .slice d1 e1 f1], .agg #[.slice a2 n2 c2, .bool m2, .slice d2 e2 f2]] w (fun e w' => e = .returned (.int .i64 (cmpQ q1 q2)) ∧ Below w.heap.size w w') := by
  have B1 := Lib.hid b1
  have B2 := Lib.hid b2
  clear b1 b2
  have hC := Lib.hid (((((St.enter w).pr h1).pr h2).al (w.heap.size) #[.slice a1 n1 c1, .bool m1, .slice d1 e1 f1] 48 rfl rfl).al (w.heap.size + 1) #[.slice a2 n2 c2, .bool m2, .slice d2 e2 f2] 48 (by simp) rfl)
  clear h1 h2
  go_enter Tryz.func32, Tryz.ntmps32
  go_wp2
  go_region_held3 (fun w' => w'.cell? ⟨w.heap.size, 0, none⟩ = some (.slice a1 n1 c1) ∧ w'.cell? ⟨w.heap.size, 1, none⟩ = some (.bool m1) ∧ w'.cell? ⟨w.heap.size, 2, none⟩ = some (.slice d1 e1 f1) ∧ w'.cell? ⟨w.heap.size + 1, 0, none⟩ = some (.slice a2 n2 c2) ∧ w'.cell? ⟨w.heap.size + 1, 1, none⟩ = some (.bool m2) ∧ w'.cell? ⟨w.heap.size + 1, 2, none⟩ = some (.slice d2 e2 f2) ∧ True)
    (first
      | (with_reducible refine And.intro (?_ : World.cell? w7 _ = _) ?_; exact hC7.out.cell 0 0 rfl rfl; exact ⟨hC7.out.cell 0 1 rfl rfl, hC7.out.cell 0 2 rfl rfl, hC7.out.cell 1 0 rfl rfl, hC7.out.cell 1 1 rfl rfl, hC7.out.cell 1 2 rfl rfl, trivial⟩)
      | (with_reducible refine And.intro (?_ : World.cell? w6 _ = _) ?_; exact hC6.out.cell 0 0 rfl rfl; exact ⟨hC6.out.cell 0 1 rfl rfl, hC6.out.cell 0 2 rfl rfl, hC6.out.cell 1 0 rfl rfl, hC6.out.cell 1 1 rfl rfl, hC6.out.cell 1 2 rfl rfl, trivial⟩)
      | (with_reducible refine And.intro (?_ : World.cell? w5 _ = _) ?_; exact hC5.out.cell 0 0 rfl rfl; exact ⟨hC5.out.cell 0 1 rfl rfl, hC5.out.cell 0 2 rfl rfl, hC5.out.cell 1 0 rfl rfl, hC5.out.cell 1 1 rfl rfl, hC5.out.cell 1 2 rfl rfl, trivial⟩)
      | (with_reducible refine And.intro (?_ : World.cell? w4 _ = _) ?_; exact hC4.out.cell 0 0 rfl rfl; exact ⟨hC4.out.cell 0 1 rfl rfl, hC4.out.cell 0 2 rfl rfl, hC4.out.cell 1 0 rfl rfl, hC4.out.cell 1 1 rfl rfl, hC4.out.cell 1 2 rfl rfl, trivial⟩)
      | (with_reducible refine And.intro (?_ : World.cell? w3 _ = _) ?_; exact hC3.out.cell 0 0 rfl rfl; exact ⟨hC3.out.cell 0 1 rfl rfl, hC3.out.cell 0 2 rfl rfl, hC3.out.cell 1 0 rfl rfl, hC3.out.cell 1 1 rfl rfl, hC3.out.cell 1 2 rfl rfl, trivial⟩)
      | (with_reducible refine And.intro (?_ : World.cell? _ _ = _) ?_; exact hC.out.drew.cell 0 0 rfl rfl; exact ⟨hC.out.drew.cell 0 1 rfl rfl, hC.out.drew.cell 0 2 rfl rfl, hC.out.drew.cell 1 0 rfl rfl, hC.out.drew.cell 1 1 rfl rfl, hC.out.drew.cell 1 2 rfl rfl, trivial⟩))
    (first
      | (have _t := hC6; go_at_call 31; refine (cmp_b (hC6.out.z 3 rfl) (hC6.out.z 5 rfl) (B1.out.num.mul B2.out.den) (B2.out.num.mul B1.out.den) (by omega) (by omega)).mono ?_; rintro e w7 ⟨rfl, hb⟩; have hC7 := Lib.hid ((hC6.out.call hb)); clear hb; clear _t hC6)
      | (have _t := hC5; go_at_call 41; refine (mul_b (hC5.out.r 1 rfl).z (hC5.out.z 4 rfl) B2.out.num B1.out.den (by omega) (by omega)).mono ?_; rintro e w6 ⟨a6, n6, c6, m6, rfl, hz, hb⟩; have hC6 := Lib.hid ((hC5.out.call hb).pz hz); clear hb hz; clear _t hC5)
      | (have _t := hC4; go_at_call 117; refine (bottom_b (hC4.out.r 0 rfl) B1.out (by omega)).mono ?_; rintro e w5 ⟨a5, n5, c5, m5, rfl, hz, hb⟩; have hC5 := Lib.hid ((hC4.out.call hb).pz hz); clear hb hz; clear _t hC4)
      | (have _t := hC3; go_at_call 41; refine (mul_b (hC3.out.r 0 rfl).z (hC3.out.z 2 rfl) B1.out.num B2.out.den (by omega) (by omega)).mono ?_; rintro e w4 ⟨a4, n4, c4, m4, rfl, hz, hb⟩; have hC4 := Lib.hid ((hC3.out.call hb).pz hz); clear hb hz; clear _t hC3)
      | (have _t := hC; go_at_call 117; refine (bottom_b (hC.out.drew.r 1 rfl) B2.out (by omega)).mono ?_; rintro e w3 ⟨a3, n3, c3, m3, rfl, hz, hb⟩; have hC3 := Lib.hid ((hC.out.drew.call hb).pz hz); clear hb hz; clear _t hC)
      | fail)
  go_wp2
  go_ret
  exact ⟨by rw [← sgn_cross]; rfl, hC7.out.be⟩

end Go.Proofs.YtmfplelodnoicaaGreatDoor
namespace Go.Proofs.YtmfplelodnoicaaGreatDoor
open Go.RowKit Dig

set_option maxRecDepth 100000 in
set_option maxHeartbeats 1000000 in
theorem ofz_zero (a1 : Option Addr) (n1 c1 : Nat) (m1 : Bool) (z1 : Int) (a2 : Option Addr) (n2 c2 : Nat) (m2 : Bool) (z2 : Int) (w : World) (h1 : Zd w (.slice a1 n1 c1) m1 z1) (h2 : Zd w (.slice a2 n2 c2) m2 z2) (hz : z2 = 0) :
    Calls Tryz.prog 54 #[.agg #[.slice a1 n1 c1, .bool m1], .agg #[.slice a2 n2 c2, .bool m2]] w (RetRE w 0 9) := by
  have hn0 : ((n2 : Int) == 0) = true := by simpa using h2.len0.2 hz
  have HN := Lib.hid hn0
  clear hn0 hz
  have hC := Lib.hid ((((((St.enter w).pz h1).pz h2).al (w.heap.size) #[.slice a1 n1 c1, .bool m1] 28 rfl rfl).al (w.heap.size + 1) #[.slice a2 n2 c2, .bool m2] 28 (by simp) rfl).al (w.heap.size + 2) #[.slice none 0 0, .bool false, .slice none 0 0] 48 (by simp) rfl)
  clear h1 h2
  go_enter Tryz.func54, Tryz.ntmps54
  have hC_c10 := hC.out.cell 1 0 rfl rfl
  have hC_f10 := hC.out.free 1 0 rfl
  go_wp2_with fail
  refine (none_any _ _ _ _).mono ?_
  rintro e w3 ⟨rfl, hw⟩
  have hC3 := Lib.hid (hC.out.call (W' := w3) (by rw [hw]; exact (Below.refl _ _).alloc (Nat.le_refl _) _))
  clear hC hw
  rw [HN.out]
  have hC3_c20 := hC3.out.cell 2 0 rfl rfl
  have hC3_f20 := hC3.out.free 2 0 rfl
  have hC3_c21 := hC3.out.cell 2 1 rfl rfl
  have hC3_f21 := hC3.out.free 2 1 rfl
  have hC3_c22 := hC3.out.cell 2 2 rfl rfl
  have hC3_f22 := hC3.out.free 2 2 rfl
  go_wp2
  refine ret_st (hC3.out |>.set 2 rfl |>.set 2 rfl |>.set 2 rfl) (v := .tuple #[.agg #[.slice none 0 0, .bool false, .slice none 0 0], .int .i64 9]) (fun hF => ?_) rfl (fun hF => ⟨_, _, _, _, _, _, _, rfl, Rd.nil, hF.be⟩)
  · have e0 := hF.cell 2 0 rfl rfl
    have e1 := hF.cell 2 1 rfl rfl
    have e2 := hF.cell 2 2 rfl rfl
    simp [results, Tryz.results54, go_sem, e0, e1, e2]

set_option maxRecDepth 100000 in
set_option maxHeartbeats 1000000 in
theorem ofz_nz (a1 : Option Addr) (n1 c1 : Nat) (m1 : Bool) (z1 : Int) (a2 : Option Addr) (n2 c2 : Nat) (m2 : Bool) (z2 : Int) (w : World) (h1 : Zd w (.slice a1 n1 c1) m1 z1) (h2 : Zd w (.slice a2 n2 c2) m2 z2) (k1 k2 : Nat) (b1 : Bd k1 z1) (b2 : Bd k2 z2) (hk1 : k1 ≤ 200000) (hk2 : k2 ≤ 200000) (hz : z2 ≠ 0) :
    Calls Tryz.prog 54 #[.agg #[.slice a1 n1 c1, .bool m1], .agg #[.slice a2 n2 c2, .bool m2]] w (RetRE w (Rat.divInt z1 z2) 0) := by
  have hn0 : ((n2 : Int) == 0) = false := by simpa using fun e => hz (h2.len0.1 e)
  have HN := Lib.hid hn0
  have HZ := Lib.hid hz
  have B1 := Lib.hid b1
  have B2 := Lib.hid b2
  clear b1 b2
  clear hn0 hz
  have hC := Lib.hid ((((((St.enter w).pz h1).pz h2).al (w.heap.size) #[.slice a1 n1 c1, .bool m1] 28 rfl rfl).al (w.heap.size + 1) #[.slice a2 n2 c2, .bool m2] 28 (by simp) rfl).al (w.heap.size + 2) #[.slice none 0 0, .bool false, .slice none 0 0] 48 (by simp) rfl)
  clear h1 h2
  go_enter Tryz.func54, Tryz.ntmps54
  have hC_c10 := hC.out.cell 1 0 rfl rfl
  have hC_f10 := hC.out.free 1 0 rfl
  go_wp2_with fail
  refine (none_any _ _ _ _).mono ?_
  rintro e w3 ⟨rfl, hw⟩
  have hC3 := Lib.hid (hC.out.call (W' := w3) (by rw [hw]; exact (Below.refl _ _).alloc (Nat.le_refl _) _))
  clear hC hw
  rw [HN.out]
  have hC3_c00 := hC3.out.cell 0 0 rfl rfl
  have hC3_f00 := hC3.out.free 0 0 rfl
  have hC3_c01 := hC3.out.cell 0 1 rfl rfl
  have hC3_f01 := hC3.out.free 0 1 rfl
  have hC3_c10 := hC3.out.cell 1 0 rfl rfl
  have hC3_f10 := hC3.out.free 1 0 rfl
  have hC3_c11 := hC3.out.cell 1 1 rfl rfl
  have hC3_f11 := hC3.out.free 1 1 rfl
  go_wp2_with fail
  refine (ratio_b (hC3.out.z 0 rfl) (hC3.out.z 1 rfl) B1.out B2.out (by omega) (by omega) HZ.out).mono ?_
  rintro e w4 ⟨a4, n4, c4, m4, d4, e4, f4, rfl, hz, hb⟩
  have hC4 := Lib.hid ((hC3.out.call hb).pr hz)
  clear hb hz
  have hC4_c20 := hC4.out.cell 2 0 rfl rfl
  have hC4_f20 := hC4.out.free 2 0 rfl
  have hC4_c21 := hC4.out.cell 2 1 rfl rfl
  have hC4_f21 := hC4.out.free 2 1 rfl
  have hC4_c22 := hC4.out.cell 2 2 rfl rfl
  have hC4_f22 := hC4.out.free 2 2 rfl
  clear hC3
  go_wp2
  refine ret_st (hC4.out |>.set 2 rfl |>.set 2 rfl |>.set 2 rfl) (v := .tuple #[.agg #[.slice a4 n4 c4, .bool m4, .slice d4 e4 f4], .int .i64 0]) (fun hF => ?_) rfl (fun hF => ⟨_, _, _, _, _, _, _, rfl, hF.r 2 rfl, hF.be⟩)
  · have e0 := hF.cell 2 0 rfl rfl
    have e1 := hF.cell 2 1 rfl rfl
    have e2 := hF.cell 2 2 rfl rfl
    simp [results, Tryz.results54, go_sem, e0, e1, e2]

section
variable {w : World} {a1 : Option Addr} {n1 c1 : Nat} {m1 : Bool} {z1 : Int} {a2 : Option Addr} {n2 c2 : Nat} {m2 : Bool} {z2 : Int} {k1 k2 : Nat}
/-- what OfZ answers -/
def ofzE (z2 : Int) : Int := if z2 = 0 then 9 else 0
theorem ofz_b (h1 : Zd w (.slice a1 n1 c1) m1 z1) (h2 : Zd w (.slice a2 n2 c2) m2 z2) (b1 : Bd k1 z1) (b2 : Bd k2 z2) (hk1 : k1 ≤ 200000) (hk2 : k2 ≤ 200000) :
    Calls Tryz.prog 54 #[.agg #[.slice a1 n1 c1, .bool m1], .agg #[.slice a2 n2 c2, .bool m2]] w (RetRE w (Rat.divInt z1 z2) (ofzE z2)) := by
  by_cases hz : z2 = 0
  · have := ofz_zero _ _ _ _ _ _ _ _ _ _ _ h1 h2 hz
    unfold ofzE; rw [if_pos hz, hz, Rat.divInt_zero]; exact this
  · have := ofz_nz _ _ _ _ _ _ _ _ _ _ _ h1 h2 k1 k2 b1 b2 hk1 hk2 hz
    unfold ofzE; rw [if_neg hz]; exact this
end

set_option maxHeartbeats 1000000 in
theorem of_any (k : Int) (hk : -9223372036854775808 ≤ k ∧ k < 9223372036854775808) (w : World) : Calls Tryz.prog 48 #[.int .i64 k] w (RetR w (k : Rat)) := by
  have hC := Lib.hid ((St.enter w).al (w.heap.size) #[.slice none 0 0, .bool false, .slice none 0 0] 48 rfl rfl)
  go_enter Tryz.func48, Tryz.ntmps48
  go_wp2_with fail
  refine (int_any k hk _).mono ?_
  rintro e w3 ⟨a3, n3, c3, m3, rfl, hz, hb⟩
  have hC3 := Lib.hid ((hC.out.call hb).pz hz)
  clear hb hz
  clear hC
  go_wp2_with fail
  refine (whole_any _ _ _ _ _ _ (hC3.out.z 0 rfl)).mono ?_
  rintro e w4 ⟨a4, n4, c4, m4, d4, e4, f4, rfl, hz, hb⟩
  have hC4 := Lib.hid ((hC3.out.call hb).pr hz)
  clear hb hz
  have hC4_c00 := hC4.out.cell 0 0 rfl rfl
  have hC4_f00 := hC4.out.free 0 0 rfl
  have hC4_c01 := hC4.out.cell 0 1 rfl rfl
  have hC4_f01 := hC4.out.free 0 1 rfl
  have hC4_c02 := hC4.out.cell 0 2 rfl rfl
  have hC4_f02 := hC4.out.free 0 2 rfl
  clear hC3
  go_wp2
  refine ret_st (hC4.out |>.set 0 rfl |>.set 0 rfl |>.set 0 rfl) (v := .agg #[.slice a4 n4 c4, .bool m4, .slice d4 e4 f4]) (fun hF => ?_) rfl (fun hF => ⟨_, _, _, _, _, _, _, rfl, hF.r 1 rfl, hF.be⟩)
  · have e0 := hF.cell 0 0 rfl rfl
    have e1 := hF.cell 0 1 rfl rfl
    have e2 := hF.cell 0 2 rfl rfl
    simp [results, Tryz.results48, go_sem, e0, e1, e2]

set_option maxHeartbeats 1000000 in
theorem ratioI_any (x y : Int) (hx : -9223372036854775808 ≤ x ∧ x < 9223372036854775808) (hy : -9223372036854775808 ≤ y ∧ y < 9223372036854775808) (w : World) : Calls Tryz.prog 52 #[.int .i64 x, .int .i64 y] w (RetRE w (Rat.divInt x y) (ofzE y)) := by
  have hC := Lib.hid ((St.enter w).al (w.heap.size) #[.slice none 0 0, .bool false, .slice none 0 0] 48 rfl rfl)
  go_enter Tryz.func52, Tryz.ntmps52
  go_wp2_with fail
  refine (int_any x hx _).mono ?_
  rintro e w3 ⟨a3, n3, c3, m3, rfl, hz, hb⟩
  have hC3 := Lib.hid ((hC.out.call hb).pz hz)
  clear hb hz
  clear hC
  go_wp2_with fail
  refine (int_any y hy _).mono ?_
  rintro e w4 ⟨a4, n4, c4, m4, rfl, hz, hb⟩
  have hC4 := Lib.hid ((hC3.out.call hb).pz hz)
  clear hb hz
  clear hC3
  go_wp2_with fail
  refine (ofz_b (hC4.out.z 0 rfl) (hC4.out.z 1 rfl) (Bd.i64 hx) (Bd.i64 hy) (by omega) (by omega)).mono ?_
  rintro e w5 ⟨a5, n5, c5, m5, d5, e5, f5, rfl, hz, hb⟩
  have hC5 := Lib.hid ((hC4.out.call hb).pr hz)
  clear hb hz
  have hC5_c00 := hC5.out.cell 0 0 rfl rfl
  have hC5_f00 := hC5.out.free 0 0 rfl
  have hC5_c01 := hC5.out.cell 0 1 rfl rfl
  have hC5_f01 := hC5.out.free 0 1 rfl
  have hC5_c02 := hC5.out.cell 0 2 rfl rfl
  have hC5_f02 := hC5.out.free 0 2 rfl
  clear hC4
  go_wp2
  refine ret_st (hC5.out |>.set 0 rfl |>.set 0 rfl |>.set 0 rfl) (v := .tuple #[.agg #[.slice a5 n5 c5, .bool m5, .slice d5 e5 f5], .int .i64 (ofzE y)]) (fun hF => ?_) rfl (fun hF => ⟨_, _, _, _, _, _, _, rfl, hF.r 2 rfl, hF.be⟩)
  · have e0 := hF.cell 0 0 rfl rfl
    have e1 := hF.cell 0 1 rfl rfl
    have e2 := hF.cell 0 2 rfl rfl
    simp [results, Tryz.results52, go_sem, e0, e1, e2]

set_option maxRecDepth 100000 in
set_option maxHeartbeats 1000000 in
theorem rdiv_any (a1 : Option Addr) (n1 c1 : Nat) (m1 : Bool) (d1 : Option Addr) (e1 f1 : Nat) (q1 : Rat) (a2 : Option Addr) (n2 c2 : Nat) (m2 : Bool) (d2 : Option Addr) (e2 f2 : Nat) (q2 : Rat) (w : World) (h1 : Rd w (.slice a1 n1 c1) m1 (.slice d1 e1 f1) q1) (h2 : Rd w (.slice a2 n2 c2) m2 (.slice d2 e2 f2) q2) (k1 k2 : Nat) (b1 : Bq k1 q1) (b2 : Bq k2 q2) (hk1 : k1 ≤ 40000) (hk2 : k2 ≤ 40000) :
    Calls Tryz.prog 64 #[.agg #[.slice a1 n1 c1, .bool m1, .slice d1 e1 f1], .agg #[.slice a2 n2 c2, .bool m2, .slice d2 e2 f2]] w (RetRE w (Rat.divInt (q1.num * q2.den) (q1.den * q2.num)) (ofzE (q1.den * q2.num))) := by
  have B1 := Lib.hid b1
  have B2 := Lib.hid b2
  clear b1 b2
  have hC := Lib.hid ((((((St.enter w).pr h1).pr h2).al (w.heap.size) #[.slice a1 n1 c1, .bool m1, .slice d1 e1 f1] 48 rfl rfl).al (w.heap.size + 1) #[.slice a2 n2 c2, .bool m2, .slice d2 e2 f2] 48 (by simp) rfl).al (w.heap.size + 2) #[.slice none 0 0, .bool false, .slice none 0 0] 48 (by simp) rfl)
  clear h1 h2
  go_enter Tryz.func64, Tryz.ntmps64
  go_wp2
  go_region_held3 (fun w' => w'.cell? ⟨w.heap.size, 0, none⟩ = some (.slice a1 n1 c1) ∧ w'.cell? ⟨w.heap.size, 1, none⟩ = some (.bool m1) ∧ w'.cell? ⟨w.heap.size, 2, none⟩ = some (.slice d1 e1 f1) ∧ w'.cell? ⟨w.heap.size + 1, 0, none⟩ = some (.slice a2 n2 c2) ∧ w'.cell? ⟨w.heap.size + 1, 1, none⟩ = some (.bool m2) ∧ w'.cell? ⟨w.heap.size + 1, 2, none⟩ = some (.slice d2 e2 f2) ∧ True)
    (first
      | (with_reducible refine And.intro (?_ : World.cell? (World.setCell (World.setCell (World.setCell w7 _ _) _ _) _ _) _ = _) ?_; exact (hC7.out |>.set 2 rfl |>.set 2 rfl |>.set 2 rfl).cell 0 0 rfl rfl; exact ⟨(hC7.out |>.set 2 rfl |>.set 2 rfl |>.set 2 rfl).cell 0 1 rfl rfl, (hC7.out |>.set 2 rfl |>.set 2 rfl |>.set 2 rfl).cell 0 2 rfl rfl, (hC7.out |>.set 2 rfl |>.set 2 rfl |>.set 2 rfl).cell 1 0 rfl rfl, (hC7.out |>.set 2 rfl |>.set 2 rfl |>.set 2 rfl).cell 1 1 rfl rfl, (hC7.out |>.set 2 rfl |>.set 2 rfl |>.set 2 rfl).cell 1 2 rfl rfl, trivial⟩)
      | (with_reducible refine And.intro (?_ : World.cell? w7 _ = _) ?_; exact hC7.out.cell 0 0 rfl rfl; exact ⟨hC7.out.cell 0 1 rfl rfl, hC7.out.cell 0 2 rfl rfl, hC7.out.cell 1 0 rfl rfl, hC7.out.cell 1 1 rfl rfl, hC7.out.cell 1 2 rfl rfl, trivial⟩)
      | (with_reducible refine And.intro (?_ : World.cell? w6 _ = _) ?_; exact hC6.out.cell 0 0 rfl rfl; exact ⟨hC6.out.cell 0 1 rfl rfl, hC6.out.cell 0 2 rfl rfl, hC6.out.cell 1 0 rfl rfl, hC6.out.cell 1 1 rfl rfl, hC6.out.cell 1 2 rfl rfl, trivial⟩)
      | (with_reducible refine And.intro (?_ : World.cell? w5 _ = _) ?_; exact hC5.out.cell 0 0 rfl rfl; exact ⟨hC5.out.cell 0 1 rfl rfl, hC5.out.cell 0 2 rfl rfl, hC5.out.cell 1 0 rfl rfl, hC5.out.cell 1 1 rfl rfl, hC5.out.cell 1 2 rfl rfl, trivial⟩)
      | (with_reducible refine And.intro (?_ : World.cell? w4 _ = _) ?_; exact hC4.out.cell 0 0 rfl rfl; exact ⟨hC4.out.cell 0 1 rfl rfl, hC4.out.cell 0 2 rfl rfl, hC4.out.cell 1 0 rfl rfl, hC4.out.cell 1 1 rfl rfl, hC4.out.cell 1 2 rfl rfl, trivial⟩)
      | (with_reducible refine And.intro (?_ : World.cell? w3 _ = _) ?_; exact hC3.out.cell 0 0 rfl rfl; exact ⟨hC3.out.cell 0 1 rfl rfl, hC3.out.cell 0 2 rfl rfl, hC3.out.cell 1 0 rfl rfl, hC3.out.cell 1 1 rfl rfl, hC3.out.cell 1 2 rfl rfl, trivial⟩)
      | (with_reducible refine And.intro (?_ : World.cell? _ _ = _) ?_; exact hC.out.drew.cell 0 0 rfl rfl; exact ⟨hC.out.drew.cell 0 1 rfl rfl, hC.out.drew.cell 0 2 rfl rfl, hC.out.drew.cell 1 0 rfl rfl, hC.out.drew.cell 1 1 rfl rfl, hC.out.drew.cell 1 2 rfl rfl, trivial⟩))
    (first
      | (have _t := hC6; go_at_call 54; refine (ofz_b (hC6.out.z 3 rfl) (hC6.out.z 5 rfl) (B1.out.num.mul B2.out.den) (B1.out.den.mul B2.out.num) (by omega) (by omega)).mono ?_; rintro e w7 ⟨a7, n7, c7, m7, d7, e7, f7, rfl, hz, hb⟩; have hC7 := Lib.hid ((hC6.out.call hb).pr hz); clear hb hz; have hC7_c20 := hC7.out.cell 2 0 rfl rfl; have hC7_f20 := hC7.out.free 2 0 rfl; have hC7_c21 := hC7.out.cell 2 1 rfl rfl; have hC7_f21 := hC7.out.free 2 1 rfl; have hC7_c22 := hC7.out.cell 2 2 rfl rfl; have hC7_f22 := hC7.out.free 2 2 rfl; clear _t hC6)
      | (have _t := hC5; go_at_call 41; refine (mul_b (hC5.out.z 4 rfl) (hC5.out.r 1 rfl).z B1.out.den B2.out.num (by omega) (by omega)).mono ?_; rintro e w6 ⟨a6, n6, c6, m6, rfl, hz, hb⟩; have hC6 := Lib.hid ((hC5.out.call hb).pz hz); clear hb hz; clear _t hC5)
      | (have _t := hC4; go_at_call 117; refine (bottom_b (hC4.out.r 0 rfl) B1.out (by omega)).mono ?_; rintro e w5 ⟨a5, n5, c5, m5, rfl, hz, hb⟩; have hC5 := Lib.hid ((hC4.out.call hb).pz hz); clear hb hz; clear _t hC4)
      | (have _t := hC3; go_at_call 41; refine (mul_b (hC3.out.r 0 rfl).z (hC3.out.z 2 rfl) B1.out.num B2.out.den (by omega) (by omega)).mono ?_; rintro e w4 ⟨a4, n4, c4, m4, rfl, hz, hb⟩; have hC4 := Lib.hid ((hC3.out.call hb).pz hz); clear hb hz; clear _t hC3)
      | (have _t := hC; go_at_call 117; refine (bottom_b (hC.out.drew.r 1 rfl) B2.out (by omega)).mono ?_; rintro e w3 ⟨a3, n3, c3, m3, rfl, hz, hb⟩; have hC3 := Lib.hid ((hC.out.drew.call hb).pz hz); clear hb hz; clear _t hC)
      | fail)
  go_wp2
  refine ret_st (hC7.out |>.set 2 rfl |>.set 2 rfl |>.set 2 rfl) (v := .tuple #[.agg #[.slice a7 n7 c7, .bool m7, .slice d7 e7 f7], .int .i64 (ofzE (q1.den * q2.num))]) (fun hF => ?_) rfl (fun hF => ⟨_, _, _, _, _, _, _, rfl, hF.r 6 rfl, hF.be⟩)
  · have e0 := hF.cell 2 0 rfl rfl
    have e1 := hF.cell 2 1 rfl rfl
    have e2 := hF.cell 2 2 rfl rfl
    simp [results, Tryz.results64, go_sem, e0, e1, e2]

end Go.Proofs.YtmfplelodnoicaaGreatDoor

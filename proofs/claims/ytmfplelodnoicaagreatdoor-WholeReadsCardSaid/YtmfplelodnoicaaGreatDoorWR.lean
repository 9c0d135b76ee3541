/- the reference's integers: ZGcd -/
/- the reference's ratios: what they read as; Den, OfZ -/
/- the reference's ratios: Num, Of, Ratio, Whole, Neg, Abs, Sign, Cmp, Mul, Div, Add, Sub, Floor, Ceil -/
/- the reference's ratios: Floor, Ceil; contracts as walks want them -/
import Derived.Test.YtmfplelodnoicaaGreatDoorWQ
import Derived.Deep.QuietTactic
import Derived.BigQuiet
import Derived.Test.YtmfplelodnoicaaGreatDoorWH
import Derived.Test.YtmfplelodnoicaaGreatDoorWJ
namespace Go.Proofs.YtmfplelodnoicaaGreatDoor
open Go.RowKit Dig

section
variable {w : World} {s1 : Int} {a1 : Option Addr} {n1 c1 : Nat} {z1 : Int} {s2 : Int} {a2 : Option Addr} {n2 c2 : Nat} {z2 : Int} {k1 k2 : Nat}
theorem zquotN_b (h1 : Nz w s1 (.slice a1 n1 c1) z1) (h2 : Nz w s2 (.slice a2 n2 c2) z2) (hz : z2 ≠ 0) (b1 : Bd k1 z1) (b2 : Bd k2 z2) (hk1 : k1 ≤ 300000) (hk2 : k2 ≤ 300000) :
    Calls Tryz.prog 20 #[.agg #[.int .i64 s1, .slice a1 n1 c1], .agg #[.int .i64 s2, .slice a2 n2 c2]] w (RetQN w (z1 / z2) (z1 % z2)) := zquotN_any _ _ _ _ _ _ _ _ _ _ _ h1 h2 hz k1 k2 b1 b2 hk1 hk2
theorem value_b (h1 : Nz w s1 (.slice a1 n1 c1) z1) (hz : -9223372036854775808 ≤ z1 ∧ z1 < 9223372036854775808) :
    Calls Tryz.prog 103 #[.agg #[.int .i64 s1, .slice a1 n1 c1]] w fun e w' => e = .returned (.int .i64 z1) ∧ Below w.heap.size w w' := value_any _ _ _ _ _ _ h1 hz
end
theorem len4 {x : Nat} (h : (dg 10000 x).length ≤ 4) : x < 10000000000000000 := by
  have h1 := dg_len_lt (b := 10000) (by omega) x
  have h2 : (10000 : Nat) ^ (dg 10000 x).length ≤ 10000 ^ 4 := Nat.pow_le_pow_right (by omega) h
  have h3 : (10000 : Nat) ^ 4 = 10000000000000000 := by decide
  omega

set_option maxRecDepth 100000 in
set_option maxHeartbeats 8000000 in
theorem zgcdN_any (s1 : Int) (a1 : Option Addr) (n1 c1 : Nat) (z1 : Int) (s2 : Int) (a2 : Option Addr) (n2 c2 : Nat) (z2 : Int) (w : World) (h1 : Nz w s1 (.slice a1 n1 c1) z1) (h2 : Nz w s2 (.slice a2 n2 c2) z2) (k : Nat) (b1 : Bd k z1) (b2 : Bd k z2) (hk : k ≤ 300000) :
    Calls Tryz.prog 16 #[.agg #[.int .i64 s1, .slice a1 n1 c1], .agg #[.int .i64 s2, .slice a2 n2 c2]] w (RetN w ((Int.gcd z1 z2 : Nat) : Int)) := by
  obtain ⟨G, hG⟩ : ∃ G : Nat, Int.gcd z1 z2 = G := ⟨_, rfl⟩
  rw [hG]
  have HG := Lib.hid (show Nat.gcd z1.natAbs z2.natAbs = G from hG)
  have B1 := Lib.hid b1.abs
  have B2 := Lib.hid b2.abs
  have hC := Lib.hid (((((St.enter w).pn h1).pn h2).al w.heap.size #[.int .i64 s1, .slice a1 n1 c1] 31 rfl rfl).al (w.heap.size + 1) #[.int .i64 s2, .slice a2 n2 c2] 31 (by simp) rfl |>.al (w.heap.size + 2) #[.int .i64 0, .slice none 0 0] 31 (by simp) rfl)
  clear h1 h2 b1 b2 hG
  go_enter Tryz.func16, Tryz.ntmps16
  go_upto_region 1 with fail
  refine wp_gen hC.out ?_
  intro W hc
  clear hC
  have hC := Lib.hid hc
  clear hc
  go_cut [] (fun wx => ∃ (s3 : Int) (a3 : Option Addr) (n3 c3 : Nat) (s4 : Int) (a4 : Option Addr) (n4 c4 : Nat), Hid (St w wx [(w.heap.size, #[.int .i64 s3, .slice a3 n3 c3], 31), (w.heap.size + 1, #[.int .i64 s4, .slice a4 n4 c4], 31), (w.heap.size + 2, #[.int .i64 0, .slice none 0 0], 31)] [fun V => Nz V s3 (.slice a3 n3 c3) (z1.natAbs : Int), fun V => Nz V s4 (.slice a4 n4 c4) (z2.natAbs : Int)]))
  case first =>
    have x00 := hC.out.cell 0 0 rfl rfl
    have x01 := hC.out.cell 0 1 rfl rfl
    have x10 := hC.out.cell 1 0 rfl rfl
    have x11 := hC.out.cell 1 1 rfl rfl
    go_region_with (first
      | (have _t := hCa; go_at_call 46; refine (absN_b (hCa.out.n 1 rfl)).mono ?_; rintro e wb ⟨s4, a4, n4, c4, rfl, hz, hb⟩; have hCb := Lib.hid ((hCa.out.call hb).pn hz); clear hz hb; have y00 := hCb.out.cell 0 0 rfl rfl; have y01 := hCb.out.cell 0 1 rfl rfl; have y10 := hCb.out.cell 1 0 rfl rfl; have y11 := hCb.out.cell 1 1 rfl rfl; have f00 := hCb.out.free 0 0 rfl; have f01 := hCb.out.free 0 1 rfl; have f10 := hCb.out.free 1 0 rfl; have f11 := hCb.out.free 1 1 rfl; clear _t hCa)
      | (have _t := hC; go_at_call 46; refine (absN_b (hC.out.drew.n 0 rfl)).mono ?_; rintro e wa ⟨s3, a3, n3, c3, rfl, hz, hb⟩; have hCa := Lib.hid ((hC.out.drew.call hb).pn hz); clear hz hb; have z10 := hCa.out.cell 1 0 rfl rfl; have z11 := hCa.out.cell 1 1 rfl rfl; clear _t hC)
      | fail)
    all_goals (go_wp2_with fail; go_meet; exact ⟨s3, a3, n3, c3, s4, a4, n4, c4, Lib.hid ((hCb.out.set 0 rfl |>.set 0 rfl |>.set 1 rfl |>.set 1 rfl).pick [2, 3] rfl)⟩)
  case rest =>
    clear hC
    obtain ⟨s3, a3, n3, c3, s4, a4, n4, c4, hC⟩ := hcut
    go_wp2_with fail
    go_loopg [] z2.natAbs (fun gk wr => ∃ (x y : Nat) (s5 : Int) (a5 : Option Addr) (n5 c5 : Nat) (s6 : Int) (a6 : Option Addr) (n6 c6 : Nat), y = gk ∧ Hid (Nat.gcd x y = G) ∧ Hid (Bd k (x : Int)) ∧ Hid (Bd k (y : Int)) ∧
      Hid (St w wr [(w.heap.size, #[.int .i64 s5, .slice a5 n5 c5], 31), (w.heap.size + 1, #[.int .i64 s6, .slice a6 n6 c6], 31), (w.heap.size + 2, #[.int .i64 0, .slice none 0 0], 31)] [fun V => Nz V s5 (.slice a5 n5 c5) ((x : Nat) : Int), fun V => Nz V s6 (.slice a6 n6 c6) ((y : Nat) : Int)]))
    case atStart => exact ⟨z1.natAbs, z2.natAbs, s3, a3, n3, c3, s4, a4, n4, c4, rfl, HG, B1, B2, hC⟩
    case round =>
      clear hC HG B1 B2
      obtain ⟨x, y, s5, a5, n5, c5, s6, a6, n6, c6, rfl, HG, B1, B2, hC⟩ := hrel
      have x10 := hC.out.cell 1 0 rfl rfl
      have hs6 := (hC.out.n 1 rfl).s0
      by_cases hy : y = 0
      · have d0 : s6 = 0 := hs6.2.2 (by omega)
        have HGX := Lib.hid (show x = G from by have := HG.out; rw [hy, Nat.gcd_zero_right] at this; exact this)
        subst d0
        clear hs6 hy
        have x00 := hC.out.cell 0 0 rfl rfl
        have x01 := hC.out.cell 0 1 rfl rfl
        have f20 := hC.out.free 2 0 rfl
        have f21 := hC.out.free 2 1 rfl
        have x20 := hC.out.cell 2 0 rfl rfl
        have x21 := hC.out.cell 2 1 rfl rfl
        go_wp2
        refine ret_st (hC.out |>.set 2 rfl |>.set 2 rfl) (v := .agg #[.int .i64 s5, .slice a5 n5 c5]) (fun hF => ?_) rfl (fun hF => ⟨_, _, _, _, rfl, by rw [← HGX.out]; exact hF.n 0 rfl, hF.be⟩)
        · have e0 := hF.cell 2 0 rfl rfl
          have e1 := hF.cell 2 1 rfl rfl
          simp [results, Tryz.results16, go_sem, e0, e1]
      · have d0 : (s6 != 0) = true := by
          rw [bne_iff_ne]; intro e; exact hy (by have := hs6.2.1 e; omega)
        have hn5 := (hC.out.n 0 rfl).g.len
        have hn6 := (hC.out.n 1 rfl).g.len
        rw [Int.natAbs_natCast] at hn5 hn6
        have HY := Lib.hid hy
        clear hs6 hy
        have x01 := hC.out.cell 0 1 rfl rfl
        have x11 := hC.out.cell 1 1 rfl rfl
        by_cases h5 : n5 ≤ 4
        · have e5 : decide ((n5 : Int) ≤ 4) = true := by simp; omega
          by_cases h6 : n6 ≤ 4
          · have e6 : decide ((n6 : Int) ≤ 4) = true := by simp; omega
            have HX16 := Lib.hid (show x < 10000000000000000 from len4 (by omega))
            have HY16 := Lib.hid (show y < 10000000000000000 from len4 (by omega))
            clear hn5 hn6 h5 h6
            go_upto_region 4 with fail
            clear x01 x11 x10 d0 e5 e6
            go_region_held3 (fun w' => w'.cell? ⟨w.heap.size, 0, none⟩ = some (.int .i64 s5) ∧ w'.cell? ⟨w.heap.size, 1, none⟩ = some (.slice a5 n5 c5) ∧ w'.cell? ⟨w.heap.size + 1, 0, none⟩ = some (.int .i64 s6) ∧ w'.cell? ⟨w.heap.size + 1, 1, none⟩ = some (.slice a6 n6 c6) ∧ True)
              (first
                | (with_reducible refine And.intro (?_ : World.cell? wb _ = _) ?_; exact hCb.out.cell 0 0 rfl rfl; exact ⟨hCb.out.cell 0 1 rfl rfl, hCb.out.cell 1 0 rfl rfl, hCb.out.cell 1 1 rfl rfl, trivial⟩)
                | (with_reducible refine And.intro (?_ : World.cell? wa _ = _) ?_; exact hCa.out.cell 0 0 rfl rfl; exact ⟨hCa.out.cell 0 1 rfl rfl, hCa.out.cell 1 0 rfl rfl, hCa.out.cell 1 1 rfl rfl, trivial⟩)
                | (with_reducible refine And.intro (?_ : World.cell? (World.drew wr) _ = _) ?_; exact hC.out.drew.cell 0 0 rfl rfl; exact ⟨hC.out.drew.cell 0 1 rfl rfl, hC.out.drew.cell 1 0 rfl rfl, hC.out.drew.cell 1 1 rfl rfl, trivial⟩))
              (first
                | (have _t := hCa; go_at_call 103; refine (value_b (hCa.out.n 1 rfl) (by have := HY16.out; omega)).mono ?_; rintro e wb ⟨rfl, hb⟩; have hCb := Lib.hid (hCa.out.call hb); clear hb; clear _t hCa)
                | (have _t := hC; go_at_call 103; refine (value_b (hC.out.drew.n 0 rfl) (by have := HX16.out; omega)).mono ?_; rintro e wa ⟨rfl, hb⟩; have hCa := Lib.hid (hC.out.drew.call hb); clear hb; clear _t hC)
                | fail)
            go_wp2_with fail
            have HXV := Lib.hid (show Nat.gcd x y = G from HG.out)
            obtain ⟨wo, hwo⟩ : ∃ wo : World, wo = wb := ⟨_, rfl⟩
            go_loopw [5, 6] (fun xv yv wi => ∃ (p q : Nat), xv = .int .i64 (p : Int) ∧ yv = .int .i64 (q : Int) ∧ Hid (Nat.gcd p q = G) ∧ p < 10000000000000000 ∧ q < 10000000000000000 ∧ Hid (St w wi [(w.heap.size, #[.int .i64 s5, .slice a5 n5 c5], 31), (w.heap.size + 1, #[.int .i64 s6, .slice a6 n6 c6], 31), (w.heap.size + 2, #[.int .i64 0, .slice none 0 0], 31)] [])) (fun _ yv _ => (intOf yv).toNat)
            case atStart => exact ⟨x, y, rfl, rfl, HXV.out, HX16.out, HY16.out, Lib.hid (hCb.out.pick [] rfl)⟩
            case round =>
              clear hCb
              obtain ⟨p, q, rfl, rfl, HPQ, hp, hq, hC⟩ := hrel
              by_cases hq0 : q = 0
              · subst hq0
                have HP := Lib.hid (show p = G from by have := HPQ.out; rw [Nat.gcd_zero_right] at this; exact this)
                have hpb : -9223372036854775808 ≤ (p : Int) ∧ (p : Int) < 9223372036854775808 := by omega
                have HPB := Lib.hid hpb
                clear hpb
                go_wp2_with fail
                refine (zint_any (p : Int) HPB.out _).mono ?_
                rintro e w9 ⟨s9, a9, n9, c9, rfl, hz, hb⟩
                have hC9 := Lib.hid ((hC.out.call hb).pn hz)
                clear hz hb hC
                have f20 := hC9.out.free 2 0 rfl
                have f21 := hC9.out.free 2 1 rfl
                have x20 := hC9.out.cell 2 0 rfl rfl
                have x21 := hC9.out.cell 2 1 rfl rfl
                go_wp2
                refine ret_st (hC9.out |>.set 2 rfl |>.set 2 rfl) (v := .agg #[.int .i64 s9, .slice a9 n9 c9]) (fun hF => ?_) rfl (fun hF => ⟨_, _, _, _, rfl, by rw [← HP.out]; exact hF.n 0 rfl, hF.be⟩)
                · have e0 := hF.cell 2 0 rfl rfl
                  have e1 := hF.cell 2 1 rfl rfl
                  simp [results, Tryz.results16, go_sem, e0, e1]
              · have hqn : ((q : Int) != 0) = true := by simp; omega
                have hqe : ((q : Int) == 0) = false := by simp; omega
                have hqne : (q : Int) ≠ 0 := by omega
                have hrem : (p : Int).tmod (q : Int) = ((p % q : Nat) : Int) := by rw [Int.tmod_eq_emod_of_nonneg (by omega)]; rfl
                have hrem2 : (p : Int) % (q : Int) = ((p % q : Nat) : Int) := rfl
                have HR := Lib.hid (show p % q < q from Nat.mod_lt _ (by omega))
                have HPQ2 := Lib.hid (show Nat.gcd q (p % q) = G from by rw [← HPQ.out, Nat.gcd_comm p q, Nat.gcd_rec q p, Nat.gcd_comm])
                obtain ⟨r, hr⟩ : ∃ r : Nat, r = p % q := ⟨_, rfl⟩
                rw [← hr] at hrem hrem2 HR HPQ2
                clear hr hq0
                go_wp2_with fail
                go_quiet (fail)
                go_wp2
                go_roundw
                case rel => exact ⟨q, r, rfl, rfl, HPQ2, hq, by have := HR.out; omega, Lib.hid (hC.out.drewN _)⟩
                case measure => have := HR.out; simp [intOf]; omega
          · have e6 : decide ((n6 : Int) ≤ 4) = false := by simp; omega
            clear hn5 hn6 h5 h6
            have x00 := hC.out.cell 0 0 rfl rfl
            go_upto_region 8 with fail
            refine wp_gen hC.out ?_
            intro W8 hc
            clear hC x00 x01 x10 x11 d0
            have hC := Lib.hid hc
            clear hc
            have x00 := hC.out.cell 0 0 rfl rfl
            have x01 := hC.out.cell 0 1 rfl rfl
            have x10 := hC.out.cell 1 0 rfl rfl
            have x11 := hC.out.cell 1 1 rfl rfl
            go_wp2_with fail
            refine (zquotN_b (hC.out.n 0 rfl) (hC.out.n 1 rfl) (by have := HY.out; omega) B1.out B2.out (by omega) (by omega)).mono ?_
            rintro e w7 ⟨s7, a7, n7, c7, s8, a8, n8, c8, rfl, hz, hz2, hb⟩
            have hC7 := Lib.hid ((((hC.out.call hb).pn hz).pn (show Nz w7 s8 (.slice a8 n8 c8) ((x % y : Nat) : Int) from hz2)).al w7.heap.size #[.int .i64 s7, .slice a7 n7 c7] 31 rfl rfl |>.al (w7.heap.size + 1) #[.int .i64 s8, .slice a8 n8 c8] 31 (by simp) rfl)
            have hsz : w.heap.size + 3 ≤ w7.heap.size := by have := hb.size; have := hC.out.lt 2 rfl; omega
            clear hz hz2 hb hC x00 x01 x10 x11
            have HR := Lib.hid (show x % y < y from Nat.mod_lt _ (by have := HY.out; omega))
            have HG2 := Lib.hid (show Nat.gcd y (x % y) = G from by rw [← HG.out, Nat.gcd_comm x y, Nat.gcd_rec y x, Nat.gcd_comm])
            have BR := Lib.hid (show Bd k ((x % y : Nat) : Int) from by have h1 := B2.out; have h2 := HR.out; unfold Bd at *; rw [Int.natAbs_natCast] at *; omega)
            obtain ⟨r, hr⟩ : ∃ r : Nat, r = x % y := ⟨_, rfl⟩
            rw [← hr] at hC7 HR HG2 BR
            clear hr
            go_upto_region 9 with fail
            refine wp_gen hC7.out ?_
            intro W9 hc
            clear hC7 hsz
            have hC := Lib.hid hc
            clear hc
            have x10 := hC.out.cell 1 0 rfl rfl
            have x11 := hC.out.cell 1 1 rfl rfl
            have x00 := hC.out.cell 0 0 rfl rfl
            have x01 := hC.out.cell 0 1 rfl rfl
            have x40 := hC.out.cell 4 0 rfl rfl
            have x41 := hC.out.cell 4 1 rfl rfl
            have f00 := hC.out.free 0 0 rfl
            have f01 := hC.out.free 0 1 rfl
            have f10 := hC.out.free 1 0 rfl
            have f11 := hC.out.free 1 1 rfl
            have n04 := hC.out.apart 0 4 rfl rfl (by omega)
            have n14 := hC.out.apart 1 4 rfl rfl (by omega)
            go_region
            all_goals
              go_wp2
              go_roundg r
              case measure => exact HR.out
              case rel => exact ⟨y, r, s6, a6, n6, c6, s8, a8, n8, c8, rfl, HG2, B2, BR, Lib.hid (((hC.out.set 0 rfl |>.set 0 rfl |>.set 1 rfl |>.set 1 rfl).drew.bpick [0, 1, 2] (by decide) rfl).pick [1, 3] rfl)⟩
        · have e5 : decide ((n5 : Int) ≤ 4) = false := by simp; omega
          clear hn5 hn6 h5
          have x00 := hC.out.cell 0 0 rfl rfl
          go_upto_region 8 with fail
          refine wp_gen hC.out ?_
          intro W8 hc
          clear hC x00 x01 x10 x11 d0
          have hC := Lib.hid hc
          clear hc
          have x00 := hC.out.cell 0 0 rfl rfl
          have x01 := hC.out.cell 0 1 rfl rfl
          have x10 := hC.out.cell 1 0 rfl rfl
          have x11 := hC.out.cell 1 1 rfl rfl
          go_wp2_with fail
          refine (zquotN_b (hC.out.n 0 rfl) (hC.out.n 1 rfl) (by have := HY.out; omega) B1.out B2.out (by omega) (by omega)).mono ?_
          rintro e w7 ⟨s7, a7, n7, c7, s8, a8, n8, c8, rfl, hz, hz2, hb⟩
          have hC7 := Lib.hid ((((hC.out.call hb).pn hz).pn (show Nz w7 s8 (.slice a8 n8 c8) ((x % y : Nat) : Int) from hz2)).al w7.heap.size #[.int .i64 s7, .slice a7 n7 c7] 31 rfl rfl |>.al (w7.heap.size + 1) #[.int .i64 s8, .slice a8 n8 c8] 31 (by simp) rfl)
          have hsz : w.heap.size + 3 ≤ w7.heap.size := by have := hb.size; have := hC.out.lt 2 rfl; omega
          clear hz hz2 hb hC x00 x01 x10 x11
          have HR := Lib.hid (show x % y < y from Nat.mod_lt _ (by have := HY.out; omega))
          have HG2 := Lib.hid (show Nat.gcd y (x % y) = G from by rw [← HG.out, Nat.gcd_comm x y, Nat.gcd_rec y x, Nat.gcd_comm])
          have BR := Lib.hid (show Bd k ((x % y : Nat) : Int) from by have h1 := B2.out; have h2 := HR.out; unfold Bd at *; rw [Int.natAbs_natCast] at *; omega)
          obtain ⟨r, hr⟩ : ∃ r : Nat, r = x % y := ⟨_, rfl⟩
          rw [← hr] at hC7 HR HG2 BR
          clear hr
          go_upto_region 9 with fail
          refine wp_gen hC7.out ?_
          intro W9 hc
          clear hC7 hsz
          have hC := Lib.hid hc
          clear hc
          have x10 := hC.out.cell 1 0 rfl rfl
          have x11 := hC.out.cell 1 1 rfl rfl
          have x00 := hC.out.cell 0 0 rfl rfl
          have x01 := hC.out.cell 0 1 rfl rfl
          have x40 := hC.out.cell 4 0 rfl rfl
          have x41 := hC.out.cell 4 1 rfl rfl
          have f00 := hC.out.free 0 0 rfl
          have f01 := hC.out.free 0 1 rfl
          have f10 := hC.out.free 1 0 rfl
          have f11 := hC.out.free 1 1 rfl
          have n04 := hC.out.apart 0 4 rfl rfl (by omega)
          have n14 := hC.out.apart 1 4 rfl rfl (by omega)
          go_region
          all_goals
            go_wp2
            go_roundg r
            case measure => exact HR.out
            case rel => exact ⟨y, r, s6, a6, n6, c6, s8, a8, n8, c8, rfl, HG2, B2, BR, Lib.hid (((hC.out.set 0 rfl |>.set 0 rfl |>.set 1 rfl |>.set 1 rfl).drew.bpick [0, 1, 2] (by decide) rfl).pick [1, 3] rfl)⟩

end Go.Proofs.YtmfplelodnoicaaGreatDoor
namespace Go.Proofs.YtmfplelodnoicaaGreatDoor
open Go.RowKit Dig

/-- a ratio of the reference: a denominator whose sign is 0 counts as 1 -/
structure Nq (w : World) (s : Int) (g : Value) (t : Int) (h : Value) (q : Rat) : Prop where
  n : Nz w s g q.num
  d : Nz w t h (q.den : Int) ∨ (Nz w t h 0 ∧ q.den = 1)
theorem Nq.keep {w w' : World} {s t : Int} {g h : Value} {q : Rat} (x : Nq w s g t h q) (hk : Keeps w w') : Nq w' s g t h q := ⟨x.n.keep hk, x.d.imp (fun y => y.keep hk) (fun y => ⟨y.1.keep hk, y.2⟩)⟩
section
variable {w W : World} {bs : List (Nat × Array Value × TypeId)} {rs : List (World → Prop)}
theorem St.pq (h : St w W bs rs) {s t : Int} {g g' : Value} {q : Rat} (hz : Nq W s g t g' q) : St w W bs (rs ++ [fun V => Nq V s g t g' q]) := h.push (fun _ _ k hz => hz.keep k) hz
theorem St.rq (h : St w W bs rs) (i : Nat) {s t : Int} {g g' : Value} {q : Rat} (hx : rs[i]? = some (fun V => Nq V s g t g' q)) : Nq W s g t g' q := (h.rd _ (List.mem_of_getElem? hx)).2
end
/-- the result is the reference's ratio q -/
def RetNQ (w : World) (q : Rat) (e : Ending) (w' : World) : Prop := ∃ s a n c t d e' f, e = .returned (.agg #[.int .i64 s, .slice a n c, .int .i64 t, .slice d e' f]) ∧ Nq w' s (.slice a n c) t (.slice d e' f) q ∧ Below w.heap.size w w'
theorem Nq.of {w : World} {s t : Int} {g h : Value} {q : Rat} {x y : Int} (hx : Nz w s g x) (hy : Nz w t h y) (ex : q.num = x) (ey : (q.den : Int) = y) : Nq w s g t h q := ⟨by rw [ex]; exact hx, .inl (by rw [ey]; exact hy)⟩
theorem Nq.nil {w : World} : Nq w 0 (.slice none 0 0) 0 (.slice none 0 0) 0 := ⟨Nz.nil, .inr ⟨Nz.nil, rfl⟩⟩
section
variable {w : World} {s1 : Int} {a1 : Option Addr} {n1 c1 : Nat} {z1 : Int} {s2 : Int} {a2 : Option Addr} {n2 c2 : Nat} {z2 : Int} {k : Nat}
theorem gcdN_b (h1 : Nz w s1 (.slice a1 n1 c1) z1) (h2 : Nz w s2 (.slice a2 n2 c2) z2) (b1 : Bd k z1) (b2 : Bd k z2) (hk : k ≤ 300000) :
    Calls Tryz.prog 16 #[.agg #[.int .i64 s1, .slice a1 n1 c1], .agg #[.int .i64 s2, .slice a2 n2 c2]] w (RetN w ((Int.gcd z1 z2 : Nat) : Int)) := zgcdN_any _ _ _ _ _ _ _ _ _ _ _ h1 h2 k b1 b2 hk
end
/-- the parts of a ratio in lowest terms -/
theorem divInt_parts {x y : Int} (hy : 0 < y) : (Rat.divInt x y).num = x / ((Int.gcd x y : Nat) : Int) ∧ ((Rat.divInt x y).den : Int) = y / ((Int.gcd x y : Nat) : Int) := by
  constructor
  · rw [Rat.num_divInt, Int.sign_eq_one_of_pos hy, Int.one_mul, Int.gcd_comm]
  · rw [Rat.den_divInt, if_neg (by omega), Int.gcd_comm]
    obtain ⟨m, rfl⟩ := Int.eq_ofNat_of_zero_le (Int.le_of_lt hy)
    rw [Int.natAbs_natCast]
    rfl
theorem divInt_flip {x y : Int} : Rat.divInt (-x) (-y) = Rat.divInt x y := by
  exact Rat.neg_divInt_neg _ _

set_option maxRecDepth 100000 in
set_option maxHeartbeats 1000000 in
theorem denN_some (s1 : Int) (a1 : Option Addr) (n1 c1 : Nat) (t1 : Int) (d1 : Option Addr) (e1 f1 : Nat) (q1 : Rat) (w : World) (_h1 : Nq w s1 (.slice a1 n1 c1) t1 (.slice d1 e1 f1) q1) (hd : Nz w t1 (.slice d1 e1 f1) (q1.den : Int)) :
    Calls Tryz.prog 59 #[.agg #[.int .i64 s1, .slice a1 n1 c1, .int .i64 t1, .slice d1 e1 f1]] w (RetN w (q1.den : Int)) := by
  have d0 : (t1 == 0) = false := by
    have := hd.s0.2
    have := q1.den_nz
    simp; omega
  have hC := Lib.hid ((((St.enter w).pn hd).al w.heap.size #[.int .i64 s1, .slice a1 n1 c1, .int .i64 t1, .slice d1 e1 f1] 54 rfl rfl).al (w.heap.size + 1) #[.int .i64 t1, .slice d1 e1 f1] 31 (by simp) rfl)
  clear _h1 hd
  go_enter Tryz.func59, Tryz.ntmps59
  go_wp2
  refine ret_st hC.out (v := .agg #[.int .i64 t1, .slice d1 e1 f1]) (fun hF => ?_) rfl (fun hF => ⟨_, _, _, _, rfl, hF.n 0 rfl, hF.be⟩)
  · have e0 := hF.cell 1 0 rfl rfl
    have e1 := hF.cell 1 1 rfl rfl
    simp [results, Tryz.results59, go_sem, e0, e1]

set_option maxRecDepth 100000 in
set_option maxHeartbeats 1000000 in
theorem denN_none (s1 : Int) (a1 : Option Addr) (n1 c1 : Nat) (t1 : Int) (d1 : Option Addr) (e1 f1 : Nat) (q1 : Rat) (w : World) (_h1 : Nq w s1 (.slice a1 n1 c1) t1 (.slice d1 e1 f1) q1) (hd : Nz w t1 (.slice d1 e1 f1) 0) (h1d : q1.den = 1) :
    Calls Tryz.prog 59 #[.agg #[.int .i64 s1, .slice a1 n1 c1, .int .i64 t1, .slice d1 e1 f1]] w (RetN w (q1.den : Int)) := by
  have d0 : (t1 == 0) = true := by
    have := hd.s0.2
    simp; omega
  have HD := Lib.hid h1d
  have hC := Lib.hid (((St.enter w).al w.heap.size #[.int .i64 s1, .slice a1 n1 c1, .int .i64 t1, .slice d1 e1 f1] 54 rfl rfl).al (w.heap.size + 1) #[.int .i64 0, .slice none 0 0] 31 (by simp) rfl)
  clear _h1 hd h1d
  go_enter Tryz.func59, Tryz.ntmps59
  go_wp2_with fail
  refine (zint_any 1 (by omega) _).mono ?_
  rintro e w3 ⟨s3, a3, n3, c3, rfl, hz, hb⟩
  have hC3 := Lib.hid ((hC.out.call hb).pn hz)
  clear hC hz hb
  have hC3_c10 := hC3.out.cell 1 0 rfl rfl
  have hC3_f10 := hC3.out.free 1 0 rfl
  have hC3_c11 := hC3.out.cell 1 1 rfl rfl
  have hC3_f11 := hC3.out.free 1 1 rfl
  go_wp2
  refine ret_st (hC3.out |>.set 1 rfl |>.set 1 rfl) (v := .agg #[.int .i64 s3, .slice a3 n3 c3]) (fun hF => ?_) rfl (fun hF => ⟨_, _, _, _, rfl, by rw [HD.out]; exact hF.n 0 rfl, hF.be⟩)
  · have e0 := hF.cell 1 0 rfl rfl
    have e1 := hF.cell 1 1 rfl rfl
    simp [results, Tryz.results59, go_sem, e0, e1]

section
variable {w : World} {s1 : Int} {a1 : Option Addr} {n1 c1 : Nat} {t1 : Int} {d1 : Option Addr} {e1 f1 : Nat} {q1 : Rat}
theorem denN_b (h1 : Nq w s1 (.slice a1 n1 c1) t1 (.slice d1 e1 f1) q1) : Calls Tryz.prog 59 #[.agg #[.int .i64 s1, .slice a1 n1 c1, .int .i64 t1, .slice d1 e1 f1]] w (RetN w (q1.den : Int)) := by
  rcases h1.d with h | h
  · exact denN_some _ _ _ _ _ _ _ _ _ _ h1 h
  · exact denN_none _ _ _ _ _ _ _ _ _ _ h1 h.1 h.2
end

set_option maxRecDepth 100000 in
set_option maxHeartbeats 8000000 in
theorem ofzN_any (s1 : Int) (a1 : Option Addr) (n1 c1 : Nat) (z1 : Int) (s2 : Int) (a2 : Option Addr) (n2 c2 : Nat) (z2 : Int) (w : World) (h1 : Nz w s1 (.slice a1 n1 c1) z1) (h2 : Nz w s2 (.slice a2 n2 c2) z2) (hz : z2 ≠ 0) (k : Nat) (b1 : Bd k z1) (b2 : Bd k z2) (hk : k ≤ 300000) :
    Calls Tryz.prog 55 #[.agg #[.int .i64 s1, .slice a1 n1 c1], .agg #[.int .i64 s2, .slice a2 n2 c2]] w (RetNQ w (Rat.divInt z1 z2)) := by
  have HS2 := Lib.hid h2.s0
  have B1 := Lib.hid b1
  have B2 := Lib.hid b2
  have HZ := Lib.hid hz
  clear b1 b2 hz
  have hC := Lib.hid ((((((St.enter w).pn h1).pn h2).al (w.heap.size) #[.int .i64 s1, .slice a1 n1 c1] 31 rfl rfl).al (w.heap.size + 1) #[.int .i64 s2, .slice a2 n2 c2] 31 (by simp) rfl).al (w.heap.size + 2) #[.int .i64 0, .slice none 0 0, .int .i64 0, .slice none 0 0] 54 (by simp) rfl)
  clear h1 h2
  go_enter Tryz.func55, Tryz.ntmps55
  have x10 := hC.out.cell 1 0 rfl rfl
  by_cases hn : z2 < 0
  · have d0 : decide (s2 < 0) = true := by simpa using HS2.out.1.2 hn
    have HP := Lib.hid (show 0 < -z2 from by omega)
    have HR := Lib.hid (show Rat.divInt z1 z2 = Rat.divInt (-z1) (-z2) from divInt_flip.symm)
    have BX := Lib.hid B1.out.neg
    have BY := Lib.hid B2.out.neg
    clear hn
    go_upto_region 2 with fail
    clear d0 x10
    refine wp_gen hC.out ?_
    intro W hc
    clear hC
    have hC := Lib.hid hc
    clear hc
    go_cut [] (fun wx => ∃ (s3 : Int) (a3 : Option Addr) (n3 c3 : Nat) (s4 : Int) (a4 : Option Addr) (n4 c4 : Nat), Hid (St w wx [(w.heap.size, #[.int .i64 s3, .slice a3 n3 c3], 31), (w.heap.size + 1, #[.int .i64 s4, .slice a4 n4 c4], 31), (w.heap.size + 2, #[.int .i64 0, .slice none 0 0, .int .i64 0, .slice none 0 0], 54)] [fun V => Nz V s3 (.slice a3 n3 c3) (-z1), fun V => Nz V s4 (.slice a4 n4 c4) (-z2)]))
    case first =>
      have x00 := hC.out.cell 0 0 rfl rfl
      have x01 := hC.out.cell 0 1 rfl rfl
      have x10 := hC.out.cell 1 0 rfl rfl
      have x11 := hC.out.cell 1 1 rfl rfl
      go_region_with (first
        | (have _t := hCa; go_at_call 44; refine (negN_b (hCa.out.n 1 rfl)).mono ?_; rintro e wb ⟨s4, a4, n4, c4, rfl, hz, hb⟩; have hCb := Lib.hid ((hCa.out.call hb).pn hz); clear hz hb; have y00 := hCb.out.cell 0 0 rfl rfl; have y01 := hCb.out.cell 0 1 rfl rfl; have y10 := hCb.out.cell 1 0 rfl rfl; have y11 := hCb.out.cell 1 1 rfl rfl; have f00 := hCb.out.free 0 0 rfl; have f01 := hCb.out.free 0 1 rfl; have f10 := hCb.out.free 1 0 rfl; have f11 := hCb.out.free 1 1 rfl; clear _t hCa)
        | (have _t := hC; go_at_call 44; refine (negN_b (hC.out.drew.n 0 rfl)).mono ?_; rintro e wa ⟨s3, a3, n3, c3, rfl, hz, hb⟩; have hCa := Lib.hid ((hC.out.drew.call hb).pn hz); clear hz hb; have z10 := hCa.out.cell 1 0 rfl rfl; have z11 := hCa.out.cell 1 1 rfl rfl; clear _t hC)
        | fail)
      all_goals (go_wp2_with fail; go_meet; exact ⟨s3, a3, n3, c3, s4, a4, n4, c4, Lib.hid ((hCb.out.set 0 rfl |>.set 0 rfl |>.set 1 rfl |>.set 1 rfl).pick [2, 3] rfl)⟩)
    case rest =>
      clear hC
      obtain ⟨s3, a3, n3, c3, s4, a4, n4, c4, hC⟩ := hcut
      go_upto_region 3 with fail
      refine wp_gen hC.out ?_
      intro W3 hc
      clear hC
      have hC := Lib.hid hc
      clear hc
      have HPT := Lib.hid (divInt_parts (x := -z1) HP.out)
      obtain ⟨G, hG⟩ : ∃ G : Nat, Int.gcd (-z1) (-z2) = G := ⟨_, rfl⟩
      have hG0 : 0 < G := by
        have := HP.out
        rw [← hG]
        exact Nat.pos_of_ne_zero (fun e => by have := (Int.gcd_eq_zero_iff.1 e).2; omega)
      have BG := Lib.hid (show Bd k (G : Int) from by
        rw [← hG]
        have h1 := HP.out
        have h2 := BY.out
        unfold Bd at *
        rw [Int.natAbs_natCast]
        exact Nat.lt_of_le_of_lt (Nat.gcd_le_right _ (by omega)) h2)
      rw [hG] at HPT
      have HG := Lib.hid hG
      clear hG
      have x00 := hC.out.cell 0 0 rfl rfl
      have x01 := hC.out.cell 0 1 rfl rfl
      have x10 := hC.out.cell 1 0 rfl rfl
      have x11 := hC.out.cell 1 1 rfl rfl
      go_wp2_with fail
      refine (gcdN_b (hC.out.n 0 rfl) (hC.out.n 1 rfl) BX.out BY.out hk).mono ?_
      rintro e w5 ⟨s5, a5, n5, c5, rfl, hz, hb⟩
      rw [HG.out] at hz
      have hC5 := Lib.hid (((hC.out.call hb).pn hz).al w5.heap.size #[.int .i64 s5, .slice a5 n5 c5] 31 rfl rfl)
      clear hz hb hC x00 x01 x10 x11
      go_upto_region 4 with fail
      refine wp_gen hC5.out ?_
      intro W5 hc
      clear hC5
      have hC := Lib.hid hc
      clear hc
      obtain ⟨v, hv⟩ : ∃ v : Int, sgnN ((G : Int) - 1) = v := ⟨_, rfl⟩
      have HV := Lib.hid hv
      by_cases hg1 : 1 < G
      · have dv : decide (0 < v) = true := by rw [← hv, sgnN_pos (by omega)]; rfl
        clear hv
        go_region_held3 (fun w' => w'.cell? ⟨w5.heap.size, 0, none⟩ = some (.int .i64 s5) ∧ w'.cell? ⟨w5.heap.size, 1, none⟩ = some (.slice a5 n5 c5) ∧ True)
          (first
            | (with_reducible refine And.intro (?_ : World.cell? wb _ = _) ?_; exact hCb.out.cell 3 0 rfl rfl; exact ⟨hCb.out.cell 3 1 rfl rfl, trivial⟩)
            | (with_reducible refine And.intro (?_ : World.cell? wa _ = _) ?_; exact hCa.out.cell 3 0 rfl rfl; exact ⟨hCa.out.cell 3 1 rfl rfl, trivial⟩)
            | (with_reducible refine And.intro (?_ : World.cell? (World.drew W5) _ = _) ?_; exact hC.out.drew.cell 3 0 rfl rfl; exact ⟨hC.out.drew.cell 3 1 rfl rfl, trivial⟩))
          (first
            | (have _t := hCa; go_at_call 47; refine (cmpN_b (hCa.out.n 2 rfl) (hCa.out.n 3 rfl) BG.out (Bd.i64 (k := 1) (by omega)) (by omega) (by omega)).mono ?_; rintro e wb ⟨rfl, hb⟩; have hCb := Lib.hid (hCa.out.call hb); clear hb; try rw [HV.out]; clear _t hCa)
            | (have _t := hC; go_at_call 36; refine (zint_any 1 (by omega) _).mono ?_; rintro e wa ⟨s6, a6, n6, c6, rfl, hz, hb⟩; have hCa := Lib.hid ((hC.out.drew.call hb).pn hz); clear hb hz; clear _t hC)
            | fail)
        have x00 := hCb.out.cell 0 0 rfl rfl
        have x01 := hCb.out.cell 0 1 rfl rfl
        have x30 := hCb.out.cell 3 0 rfl rfl
        have x31 := hCb.out.cell 3 1 rfl rfl
        go_wp2_with fail
        refine (zquotN_b (hCb.out.n 0 rfl) (hCb.out.n 2 rfl) (by omega) BX.out BG.out hk hk).mono ?_
        rintro e w8 ⟨s8, a8, n8, c8, s9, a9, n9, c9, rfl, hz, hz2, hb⟩
        have hC8 := Lib.hid ((hCb.out.call hb).pn hz)
        clear hz hz2 hb hCb x00 x01 x30 x31
        have x00 := hC8.out.cell 0 0 rfl rfl
        have x01 := hC8.out.cell 0 1 rfl rfl
        have f00 := hC8.out.free 0 0 rfl
        have f01 := hC8.out.free 0 1 rfl
        go_upto_region 6 with fail
        refine wp_gen (hC8.out.set 0 rfl |>.set 0 rfl) ?_
        intro W8 hc
        clear hC8 x00 x01 f00 f01
        have hC := Lib.hid hc
        clear hc
        have x10 := hC.out.cell 1 0 rfl rfl
        have x11 := hC.out.cell 1 1 rfl rfl
        have x30 := hC.out.cell 3 0 rfl rfl
        have x31 := hC.out.cell 3 1 rfl rfl
        go_wp2_with fail
        refine (zquotN_b (hC.out.n 1 rfl) (hC.out.n 2 rfl) (by omega) BY.out BG.out hk hk).mono ?_
        rintro e w9 ⟨s10, a10, n10, c10, s11, a11, n11, c11, rfl, hz, hz2, hb⟩
        have hC9 := Lib.hid ((hC.out.call hb).pn hz)
        clear hz hz2 hb hC x10 x11 x30 x31
        have x10 := hC9.out.cell 1 0 rfl rfl
        have x11 := hC9.out.cell 1 1 rfl rfl
        have f10 := hC9.out.free 1 0 rfl
        have f11 := hC9.out.free 1 1 rfl
        go_upto_region 7 with fail
        refine wp_gen (hC9.out.set 1 rfl |>.set 1 rfl) ?_
        intro W9 hc
        clear hC9 x10 x11 f10 f11
        have hC := Lib.hid hc
        clear hc
        have hC_c00 := hC.out.cell 0 0 rfl rfl
        have hC_f00 := hC.out.free 0 0 rfl
        have hC_c01 := hC.out.cell 0 1 rfl rfl
        have hC_f01 := hC.out.free 0 1 rfl
        have hC_c10 := hC.out.cell 1 0 rfl rfl
        have hC_f10 := hC.out.free 1 0 rfl
        have hC_c11 := hC.out.cell 1 1 rfl rfl
        have hC_f11 := hC.out.free 1 1 rfl
        have hC_c20 := hC.out.cell 2 0 rfl rfl
        have hC_f20 := hC.out.free 2 0 rfl
        have hC_c21 := hC.out.cell 2 1 rfl rfl
        have hC_f21 := hC.out.free 2 1 rfl
        have hC_c22 := hC.out.cell 2 2 rfl rfl
        have hC_f22 := hC.out.free 2 2 rfl
        have hC_c23 := hC.out.cell 2 3 rfl rfl
        have hC_f23 := hC.out.free 2 3 rfl
        go_wp2
        refine ret_st (hC.out |>.set 2 rfl |>.set 2 rfl |>.set 2 rfl |>.set 2 rfl) (v := .agg #[.int .i64 s8, .slice a8 n8 c8, .int .i64 s10, .slice a10 n10 c10]) (fun hF => ?_) rfl (fun hF => ⟨_, _, _, _, _, _, _, _, rfl, by rw [HR.out]; exact Nq.of (hF.n 4 rfl) (hF.n 5 rfl) HPT.out.1 HPT.out.2, hF.be⟩)
        · have e0 := hF.cell 2 0 rfl rfl
          have e1 := hF.cell 2 1 rfl rfl
          have e2 := hF.cell 2 2 rfl rfl
          have e3 := hF.cell 2 3 rfl rfl
          simp [results, Tryz.results55, go_sem, e0, e1, e2, e3]
      · have hg : G = 1 := by omega
        have dv : decide (0 < v) = false := by rw [← hv, hg]; rfl
        subst hg
        clear hv hg1
        go_region_held3 (fun w' => w'.cell? ⟨w5.heap.size, 0, none⟩ = some (.int .i64 s5) ∧ w'.cell? ⟨w5.heap.size, 1, none⟩ = some (.slice a5 n5 c5) ∧ True)
          (first
            | (with_reducible refine And.intro (?_ : World.cell? wb _ = _) ?_; exact hCb.out.cell 3 0 rfl rfl; exact ⟨hCb.out.cell 3 1 rfl rfl, trivial⟩)
            | (with_reducible refine And.intro (?_ : World.cell? wa _ = _) ?_; exact hCa.out.cell 3 0 rfl rfl; exact ⟨hCa.out.cell 3 1 rfl rfl, trivial⟩)
            | (with_reducible refine And.intro (?_ : World.cell? (World.drew W5) _ = _) ?_; exact hC.out.drew.cell 3 0 rfl rfl; exact ⟨hC.out.drew.cell 3 1 rfl rfl, trivial⟩))
          (first
            | (have _t := hCa; go_at_call 47; refine (cmpN_b (hCa.out.n 2 rfl) (hCa.out.n 3 rfl) BG.out (Bd.i64 (k := 1) (by omega)) (by omega) (by omega)).mono ?_; rintro e wb ⟨rfl, hb⟩; have hCb := Lib.hid (hCa.out.call hb); clear hb; try rw [HV.out]; clear _t hCa)
            | (have _t := hC; go_at_call 36; refine (zint_any 1 (by omega) _).mono ?_; rintro e wa ⟨s6, a6, n6, c6, rfl, hz, hb⟩; have hCa := Lib.hid ((hC.out.drew.call hb).pn hz); clear hb hz; clear _t hC)
            | fail)
        have hCb_c00 := hCb.out.cell 0 0 rfl rfl
        have hCb_f00 := hCb.out.free 0 0 rfl
        have hCb_c01 := hCb.out.cell 0 1 rfl rfl
        have hCb_f01 := hCb.out.free 0 1 rfl
        have hCb_c10 := hCb.out.cell 1 0 rfl rfl
        have hCb_f10 := hCb.out.free 1 0 rfl
        have hCb_c11 := hCb.out.cell 1 1 rfl rfl
        have hCb_f11 := hCb.out.free 1 1 rfl
        have hCb_c20 := hCb.out.cell 2 0 rfl rfl
        have hCb_f20 := hCb.out.free 2 0 rfl
        have hCb_c21 := hCb.out.cell 2 1 rfl rfl
        have hCb_f21 := hCb.out.free 2 1 rfl
        have hCb_c22 := hCb.out.cell 2 2 rfl rfl
        have hCb_f22 := hCb.out.free 2 2 rfl
        have hCb_c23 := hCb.out.cell 2 3 rfl rfl
        have hCb_f23 := hCb.out.free 2 3 rfl
        go_wp2
        refine ret_st (hCb.out |>.set 2 rfl |>.set 2 rfl |>.set 2 rfl |>.set 2 rfl) (v := .agg #[.int .i64 s3, .slice a3 n3 c3, .int .i64 s4, .slice a4 n4 c4]) (fun hF => ?_) rfl (fun hF => ⟨_, _, _, _, _, _, _, _, rfl, by rw [HR.out]; exact Nq.of (hF.n 0 rfl) (hF.n 1 rfl) (by have := HPT.out.1; rwa [Int.natCast_one, Int.ediv_one] at this) (by have := HPT.out.2; rwa [Int.natCast_one, Int.ediv_one] at this), hF.be⟩)
        · have e0 := hF.cell 2 0 rfl rfl
          have e1 := hF.cell 2 1 rfl rfl
          have e2 := hF.cell 2 2 rfl rfl
          have e3 := hF.cell 2 3 rfl rfl
          simp [results, Tryz.results55, go_sem, e0, e1, e2, e3]
  · have d0 : decide (s2 < 0) = false := by have := fun h => hn (HS2.out.1.1 h); simpa using this
    have HP := Lib.hid (show 0 < z2 from by have := HZ.out; omega)
    have BX := Lib.hid B1.out
    have BY := Lib.hid B2.out
    clear hn
    go_upto_region 3 with fail
    refine wp_gen hC.out ?_
    intro W3 hc
    clear hC x10 d0
    have hC := Lib.hid hc
    clear hc
    have HPT := Lib.hid (divInt_parts (x := z1) HP.out)
    obtain ⟨G, hG⟩ : ∃ G : Nat, Int.gcd (z1) (z2) = G := ⟨_, rfl⟩
    have hG0 : 0 < G := by
      have := HP.out
      rw [← hG]
      exact Nat.pos_of_ne_zero (fun e => by have := (Int.gcd_eq_zero_iff.1 e).2; omega)
    have BG := Lib.hid (show Bd k (G : Int) from by
      rw [← hG]
      have h1 := HP.out
      have h2 := BY.out
      unfold Bd at *
      rw [Int.natAbs_natCast]
      exact Nat.lt_of_le_of_lt (Nat.gcd_le_right _ (by omega)) h2)
    rw [hG] at HPT
    have HG := Lib.hid hG
    clear hG
    have x00 := hC.out.cell 0 0 rfl rfl
    have x01 := hC.out.cell 0 1 rfl rfl
    have x10 := hC.out.cell 1 0 rfl rfl
    have x11 := hC.out.cell 1 1 rfl rfl
    go_wp2_with fail
    refine (gcdN_b (hC.out.n 0 rfl) (hC.out.n 1 rfl) BX.out BY.out hk).mono ?_
    rintro e w5 ⟨s5, a5, n5, c5, rfl, hz, hb⟩
    rw [HG.out] at hz
    have hC5 := Lib.hid (((hC.out.call hb).pn hz).al w5.heap.size #[.int .i64 s5, .slice a5 n5 c5] 31 rfl rfl)
    clear hz hb hC x00 x01 x10 x11
    go_upto_region 4 with fail
    refine wp_gen hC5.out ?_
    intro W5 hc
    clear hC5
    have hC := Lib.hid hc
    clear hc
    obtain ⟨v, hv⟩ : ∃ v : Int, sgnN ((G : Int) - 1) = v := ⟨_, rfl⟩
    have HV := Lib.hid hv
    by_cases hg1 : 1 < G
    · have dv : decide (0 < v) = true := by rw [← hv, sgnN_pos (by omega)]; rfl
      clear hv
      go_region_held3 (fun w' => w'.cell? ⟨w5.heap.size, 0, none⟩ = some (.int .i64 s5) ∧ w'.cell? ⟨w5.heap.size, 1, none⟩ = some (.slice a5 n5 c5) ∧ True)
        (first
          | (with_reducible refine And.intro (?_ : World.cell? wb _ = _) ?_; exact hCb.out.cell 3 0 rfl rfl; exact ⟨hCb.out.cell 3 1 rfl rfl, trivial⟩)
          | (with_reducible refine And.intro (?_ : World.cell? wa _ = _) ?_; exact hCa.out.cell 3 0 rfl rfl; exact ⟨hCa.out.cell 3 1 rfl rfl, trivial⟩)
          | (with_reducible refine And.intro (?_ : World.cell? (World.drew W5) _ = _) ?_; exact hC.out.drew.cell 3 0 rfl rfl; exact ⟨hC.out.drew.cell 3 1 rfl rfl, trivial⟩))
        (first
          | (have _t := hCa; go_at_call 47; refine (cmpN_b (hCa.out.n 2 rfl) (hCa.out.n 3 rfl) BG.out (Bd.i64 (k := 1) (by omega)) (by omega) (by omega)).mono ?_; rintro e wb ⟨rfl, hb⟩; have hCb := Lib.hid (hCa.out.call hb); clear hb; try rw [HV.out]; clear _t hCa)
          | (have _t := hC; go_at_call 36; refine (zint_any 1 (by omega) _).mono ?_; rintro e wa ⟨s6, a6, n6, c6, rfl, hz, hb⟩; have hCa := Lib.hid ((hC.out.drew.call hb).pn hz); clear hb hz; clear _t hC)
          | fail)
      have x00 := hCb.out.cell 0 0 rfl rfl
      have x01 := hCb.out.cell 0 1 rfl rfl
      have x30 := hCb.out.cell 3 0 rfl rfl
      have x31 := hCb.out.cell 3 1 rfl rfl
      go_wp2_with fail
      refine (zquotN_b (hCb.out.n 0 rfl) (hCb.out.n 2 rfl) (by omega) BX.out BG.out hk hk).mono ?_
      rintro e w8 ⟨s8, a8, n8, c8, s9, a9, n9, c9, rfl, hz, hz2, hb⟩
      have hC8 := Lib.hid ((hCb.out.call hb).pn hz)
      clear hz hz2 hb hCb x00 x01 x30 x31
      have x00 := hC8.out.cell 0 0 rfl rfl
      have x01 := hC8.out.cell 0 1 rfl rfl
      have f00 := hC8.out.free 0 0 rfl
      have f01 := hC8.out.free 0 1 rfl
      go_upto_region 6 with fail
      refine wp_gen (hC8.out.set 0 rfl |>.set 0 rfl) ?_
      intro W8 hc
      clear hC8 x00 x01 f00 f01
      have hC := Lib.hid hc
      clear hc
      have x10 := hC.out.cell 1 0 rfl rfl
      have x11 := hC.out.cell 1 1 rfl rfl
      have x30 := hC.out.cell 3 0 rfl rfl
      have x31 := hC.out.cell 3 1 rfl rfl
      go_wp2_with fail
      refine (zquotN_b (hC.out.n 1 rfl) (hC.out.n 2 rfl) (by omega) BY.out BG.out hk hk).mono ?_
      rintro e w9 ⟨s10, a10, n10, c10, s11, a11, n11, c11, rfl, hz, hz2, hb⟩
      have hC9 := Lib.hid ((hC.out.call hb).pn hz)
      clear hz hz2 hb hC x10 x11 x30 x31
      have x10 := hC9.out.cell 1 0 rfl rfl
      have x11 := hC9.out.cell 1 1 rfl rfl
      have f10 := hC9.out.free 1 0 rfl
      have f11 := hC9.out.free 1 1 rfl
      go_upto_region 7 with fail
      refine wp_gen (hC9.out.set 1 rfl |>.set 1 rfl) ?_
      intro W9 hc
      clear hC9 x10 x11 f10 f11
      have hC := Lib.hid hc
      clear hc
      have hC_c00 := hC.out.cell 0 0 rfl rfl
      have hC_f00 := hC.out.free 0 0 rfl
      have hC_c01 := hC.out.cell 0 1 rfl rfl
      have hC_f01 := hC.out.free 0 1 rfl
      have hC_c10 := hC.out.cell 1 0 rfl rfl
      have hC_f10 := hC.out.free 1 0 rfl
      have hC_c11 := hC.out.cell 1 1 rfl rfl
      have hC_f11 := hC.out.free 1 1 rfl
      have hC_c20 := hC.out.cell 2 0 rfl rfl
      have hC_f20 := hC.out.free 2 0 rfl
      have hC_c21 := hC.out.cell 2 1 rfl rfl
      have hC_f21 := hC.out.free 2 1 rfl
      have hC_c22 := hC.out.cell 2 2 rfl rfl
      have hC_f22 := hC.out.free 2 2 rfl
      have hC_c23 := hC.out.cell 2 3 rfl rfl
      have hC_f23 := hC.out.free 2 3 rfl
      go_wp2
      refine ret_st (hC.out |>.set 2 rfl |>.set 2 rfl |>.set 2 rfl |>.set 2 rfl) (v := .agg #[.int .i64 s8, .slice a8 n8 c8, .int .i64 s10, .slice a10 n10 c10]) (fun hF => ?_) rfl (fun hF => ⟨_, _, _, _, _, _, _, _, rfl, by exact Nq.of (hF.n 4 rfl) (hF.n 5 rfl) HPT.out.1 HPT.out.2, hF.be⟩)
      · have e0 := hF.cell 2 0 rfl rfl
        have e1 := hF.cell 2 1 rfl rfl
        have e2 := hF.cell 2 2 rfl rfl
        have e3 := hF.cell 2 3 rfl rfl
        simp [results, Tryz.results55, go_sem, e0, e1, e2, e3]
    · have hg : G = 1 := by omega
      have dv : decide (0 < v) = false := by rw [← hv, hg]; rfl
      subst hg
      clear hv hg1
      go_region_held3 (fun w' => w'.cell? ⟨w5.heap.size, 0, none⟩ = some (.int .i64 s5) ∧ w'.cell? ⟨w5.heap.size, 1, none⟩ = some (.slice a5 n5 c5) ∧ True)
        (first
          | (with_reducible refine And.intro (?_ : World.cell? wb _ = _) ?_; exact hCb.out.cell 3 0 rfl rfl; exact ⟨hCb.out.cell 3 1 rfl rfl, trivial⟩)
          | (with_reducible refine And.intro (?_ : World.cell? wa _ = _) ?_; exact hCa.out.cell 3 0 rfl rfl; exact ⟨hCa.out.cell 3 1 rfl rfl, trivial⟩)
          | (with_reducible refine And.intro (?_ : World.cell? (World.drew W5) _ = _) ?_; exact hC.out.drew.cell 3 0 rfl rfl; exact ⟨hC.out.drew.cell 3 1 rfl rfl, trivial⟩))
        (first
          | (have _t := hCa; go_at_call 47; refine (cmpN_b (hCa.out.n 2 rfl) (hCa.out.n 3 rfl) BG.out (Bd.i64 (k := 1) (by omega)) (by omega) (by omega)).mono ?_; rintro e wb ⟨rfl, hb⟩; have hCb := Lib.hid (hCa.out.call hb); clear hb; try rw [HV.out]; clear _t hCa)
          | (have _t := hC; go_at_call 36; refine (zint_any 1 (by omega) _).mono ?_; rintro e wa ⟨s6, a6, n6, c6, rfl, hz, hb⟩; have hCa := Lib.hid ((hC.out.drew.call hb).pn hz); clear hb hz; clear _t hC)
          | fail)
      have hCb_c00 := hCb.out.cell 0 0 rfl rfl
      have hCb_f00 := hCb.out.free 0 0 rfl
      have hCb_c01 := hCb.out.cell 0 1 rfl rfl
      have hCb_f01 := hCb.out.free 0 1 rfl
      have hCb_c10 := hCb.out.cell 1 0 rfl rfl
      have hCb_f10 := hCb.out.free 1 0 rfl
      have hCb_c11 := hCb.out.cell 1 1 rfl rfl
      have hCb_f11 := hCb.out.free 1 1 rfl
      have hCb_c20 := hCb.out.cell 2 0 rfl rfl
      have hCb_f20 := hCb.out.free 2 0 rfl
      have hCb_c21 := hCb.out.cell 2 1 rfl rfl
      have hCb_f21 := hCb.out.free 2 1 rfl
      have hCb_c22 := hCb.out.cell 2 2 rfl rfl
      have hCb_f22 := hCb.out.free 2 2 rfl
      have hCb_c23 := hCb.out.cell 2 3 rfl rfl
      have hCb_f23 := hCb.out.free 2 3 rfl
      go_wp2
      refine ret_st (hCb.out |>.set 2 rfl |>.set 2 rfl |>.set 2 rfl |>.set 2 rfl) (v := .agg #[.int .i64 s1, .slice a1 n1 c1, .int .i64 s2, .slice a2 n2 c2]) (fun hF => ?_) rfl (fun hF => ⟨_, _, _, _, _, _, _, _, rfl, by exact Nq.of (hF.n 0 rfl) (hF.n 1 rfl) (by have := HPT.out.1; rwa [Int.natCast_one, Int.ediv_one] at this) (by have := HPT.out.2; rwa [Int.natCast_one, Int.ediv_one] at this), hF.be⟩)
      · have e0 := hF.cell 2 0 rfl rfl
        have e1 := hF.cell 2 1 rfl rfl
        have e2 := hF.cell 2 2 rfl rfl
        have e3 := hF.cell 2 3 rfl rfl
        simp [results, Tryz.results55, go_sem, e0, e1, e2, e3]

end Go.Proofs.YtmfplelodnoicaaGreatDoor
namespace Go.Proofs.YtmfplelodnoicaaGreatDoor
open Go.RowKit Dig

section
variable {w : World} {s1 : Int} {a1 : Option Addr} {n1 c1 : Nat} {z1 : Int} {s2 : Int} {a2 : Option Addr} {n2 c2 : Nat} {z2 : Int} {k1 k2 : Nat}
theorem ofzN_b (h1 : Nz w s1 (.slice a1 n1 c1) z1) (h2 : Nz w s2 (.slice a2 n2 c2) z2) (b1 : Bd k1 z1) (b2 : Bd k2 z2) (hk1 : k1 ≤ 180000) (hk2 : k2 ≤ 120000) (hz : z2 ≠ 0) :
    Calls Tryz.prog 55 #[.agg #[.int .i64 s1, .slice a1 n1 c1], .agg #[.int .i64 s2, .slice a2 n2 c2]] w (RetNQ w (Rat.divInt z1 z2)) :=
  ofzN_any _ _ _ _ _ _ _ _ _ _ _ h1 h2 hz (k1 + k2) (b1.mono (by omega)) (b2.mono (by omega)) (by omega)
end

set_option maxRecDepth 100000 in
set_option maxHeartbeats 1000000 in
theorem numN_any (s1 : Int) (a1 : Option Addr) (n1 c1 : Nat) (t1 : Int) (d1 : Option Addr) (e1 f1 : Nat) (q1 : Rat) (w : World) (h1 : Nq w s1 (.slice a1 n1 c1) t1 (.slice d1 e1 f1) q1) :
    Calls Tryz.prog 57 #[.agg #[.int .i64 s1, .slice a1 n1 c1, .int .i64 t1, .slice d1 e1 f1]] w (RetN w q1.num) := by
  have hC := Lib.hid ((((St.enter w).pq h1).al (w.heap.size) #[.int .i64 s1, .slice a1 n1 c1, .int .i64 t1, .slice d1 e1 f1] 54 rfl rfl).al (w.heap.size + 1) #[.int .i64 s1, .slice a1 n1 c1] 31 (by simp) rfl)
  clear h1
  go_enter Tryz.func57, Tryz.ntmps57
  go_wp2
  refine ret_st hC.out (v := .agg #[.int .i64 s1, .slice a1 n1 c1]) (fun hF => ?_) rfl (fun hF => ⟨_, _, _, _, rfl, (hF.rq 0 rfl).n, hF.be⟩)
  · have e0 := hF.cell 1 0 rfl rfl
    have e1 := hF.cell 1 1 rfl rfl
    simp [results, Tryz.results57, go_sem, e0, e1]

set_option maxRecDepth 100000 in
set_option maxHeartbeats 1000000 in
theorem ofN_any (k : Int) (hk : -9223372036854775808 ≤ k ∧ k < 9223372036854775808) (w : World) : Calls Tryz.prog 49 #[.int .i64 k] w (RetNQ w (k : Rat)) := by
  have HK := Lib.hid hk
  clear hk
  have hC := Lib.hid ((St.enter w).al (w.heap.size) #[.int .i64 0, .slice none 0 0, .int .i64 0, .slice none 0 0] 54 rfl rfl)
  go_enter Tryz.func49, Tryz.ntmps49
  go_wp2_with fail
  refine (zint_any k HK.out _).mono ?_
  rintro e w3 ⟨s3, a3, n3, c3, rfl, hz, hb⟩
  have hC3 := Lib.hid ((hC.out.call hb).pn hz)
  clear hb hz
  clear hC
  go_wp2_with fail
  refine (zint_any 1 (by omega) _).mono ?_
  rintro e w4 ⟨s4, a4, n4, c4, rfl, hz, hb⟩
  have hC4 := Lib.hid ((hC3.out.call hb).pn hz)
  clear hb hz
  clear hC3
  have hC4_c00 := hC4.out.cell 0 0 rfl rfl
  have hC4_f00 := hC4.out.free 0 0 rfl
  have hC4_c01 := hC4.out.cell 0 1 rfl rfl
  have hC4_f01 := hC4.out.free 0 1 rfl
  have hC4_c02 := hC4.out.cell 0 2 rfl rfl
  have hC4_f02 := hC4.out.free 0 2 rfl
  have hC4_c03 := hC4.out.cell 0 3 rfl rfl
  have hC4_f03 := hC4.out.free 0 3 rfl
  go_wp2
  refine ret_st (hC4.out |>.set 0 rfl |>.set 0 rfl |>.set 0 rfl |>.set 0 rfl) (v := .agg #[.int .i64 s3, .slice a3 n3 c3, .int .i64 s4, .slice a4 n4 c4]) (fun hF => ?_) rfl (fun hF => ⟨_, _, _, _, _, _, _, _, rfl, Nq.of (hF.n 0 rfl) (hF.n 1 rfl) (Rat.num_intCast _) (by rw [Rat.den_intCast]; rfl), hF.be⟩)
  · have e0 := hF.cell 0 0 rfl rfl
    have e1 := hF.cell 0 1 rfl rfl
    have e2 := hF.cell 0 2 rfl rfl
    have e3 := hF.cell 0 3 rfl rfl
    simp [results, Tryz.results49, go_sem, e0, e1, e2, e3]

set_option maxRecDepth 100000 in
set_option maxHeartbeats 1000000 in
theorem ratioN_any (x y : Int) (hx : -9223372036854775808 ≤ x ∧ x < 9223372036854775808) (hy : -9223372036854775808 ≤ y ∧ y < 9223372036854775808) (h0 : y ≠ 0) (w : World) : Calls Tryz.prog 53 #[.int .i64 x, .int .i64 y] w (RetNQ w (Rat.divInt x y)) := by
  have HX := Lib.hid hx
  have HY := Lib.hid hy
  have H0 := Lib.hid h0
  clear hx hy h0
  have hC := Lib.hid ((St.enter w).al (w.heap.size) #[.int .i64 0, .slice none 0 0, .int .i64 0, .slice none 0 0] 54 rfl rfl)
  go_enter Tryz.func53, Tryz.ntmps53
  go_wp2_with fail
  refine (zint_any x HX.out _).mono ?_
  rintro e w3 ⟨s3, a3, n3, c3, rfl, hz, hb⟩
  have hC3 := Lib.hid ((hC.out.call hb).pn hz)
  clear hb hz
  clear hC
  go_wp2_with fail
  refine (zint_any y HY.out _).mono ?_
  rintro e w4 ⟨s4, a4, n4, c4, rfl, hz, hb⟩
  have hC4 := Lib.hid ((hC3.out.call hb).pn hz)
  clear hb hz
  clear hC3
  go_wp2_with fail
  refine (ofzN_b (hC4.out.n 0 rfl) (hC4.out.n 1 rfl) (Bd.i64 HX.out) (Bd.i64 HY.out) (by omega) (by omega) H0.out).mono ?_
  rintro e w5 ⟨s5, a5, n5, c5, t5, d5, e5, f5, rfl, hz, hb⟩
  have hC5 := Lib.hid ((hC4.out.call hb).pq hz)
  clear hb hz
  clear hC4
  have hC5_c00 := hC5.out.cell 0 0 rfl rfl
  have hC5_f00 := hC5.out.free 0 0 rfl
  have hC5_c01 := hC5.out.cell 0 1 rfl rfl
  have hC5_f01 := hC5.out.free 0 1 rfl
  have hC5_c02 := hC5.out.cell 0 2 rfl rfl
  have hC5_f02 := hC5.out.free 0 2 rfl
  have hC5_c03 := hC5.out.cell 0 3 rfl rfl
  have hC5_f03 := hC5.out.free 0 3 rfl
  go_wp2
  refine ret_st (hC5.out |>.set 0 rfl |>.set 0 rfl |>.set 0 rfl |>.set 0 rfl) (v := .agg #[.int .i64 s5, .slice a5 n5 c5, .int .i64 t5, .slice d5 e5 f5]) (fun hF => ?_) rfl (fun hF => ⟨_, _, _, _, _, _, _, _, rfl, hF.rq 2 rfl, hF.be⟩)
  · have e0 := hF.cell 0 0 rfl rfl
    have e1 := hF.cell 0 1 rfl rfl
    have e2 := hF.cell 0 2 rfl rfl
    have e3 := hF.cell 0 3 rfl rfl
    simp [results, Tryz.results53, go_sem, e0, e1, e2, e3]

set_option maxRecDepth 100000 in
set_option maxHeartbeats 2000000 in
theorem wholeN_any (s1 : Int) (a1 : Option Addr) (n1 c1 : Nat) (z1 : Int) (w : World) (h1 : Nz w s1 (.slice a1 n1 c1) z1) :
    Calls Tryz.prog 51 #[.agg #[.int .i64 s1, .slice a1 n1 c1]] w (RetNQ w ((z1 : Rat))) := by
  have hC := Lib.hid ((((St.enter w).pn h1).al (w.heap.size) #[.int .i64 s1, .slice a1 n1 c1] 31 rfl rfl).al (w.heap.size + 1) #[.int .i64 0, .slice none 0 0, .int .i64 0, .slice none 0 0] 54 (by simp) rfl)
  clear h1
  go_enter Tryz.func51, Tryz.ntmps51
  go_wp2
  go_region_held3 (fun w' => w'.cell? ⟨w.heap.size, 0, none⟩ = some (.int .i64 s1) ∧ w'.cell? ⟨w.heap.size, 1, none⟩ = some (.slice a1 n1 c1) ∧ True)
    (first
      | (with_reducible refine And.intro (?_ : World.cell? (World.setCell (World.setCell (World.setCell (World.setCell w3 _ _) _ _) _ _) _ _) _ = _) ?_; exact (hC3.out |>.set 1 rfl |>.set 1 rfl |>.set 1 rfl |>.set 1 rfl).cell 0 0 rfl rfl; exact ⟨(hC3.out |>.set 1 rfl |>.set 1 rfl |>.set 1 rfl |>.set 1 rfl).cell 0 1 rfl rfl, trivial⟩)
      | (with_reducible refine And.intro (?_ : World.cell? w3 _ = _) ?_; exact hC3.out.cell 0 0 rfl rfl; exact ⟨hC3.out.cell 0 1 rfl rfl, trivial⟩)
      | (with_reducible refine And.intro (?_ : World.cell? _ _ = _) ?_; exact hC.out.drew.cell 0 0 rfl rfl; exact ⟨hC.out.drew.cell 0 1 rfl rfl, trivial⟩))
    (first
      | (have _t := hC; go_at_call 36; refine (zint_any 1 (by omega) _).mono ?_; rintro e w3 ⟨s3, a3, n3, c3, rfl, hz, hb⟩; have hC3 := Lib.hid ((hC.out.drew.call hb).pn hz); clear hb hz; have hC3_c10 := hC3.out.cell 1 0 rfl rfl; have hC3_f10 := hC3.out.free 1 0 rfl; have hC3_c11 := hC3.out.cell 1 1 rfl rfl; have hC3_f11 := hC3.out.free 1 1 rfl; have hC3_c12 := hC3.out.cell 1 2 rfl rfl; have hC3_f12 := hC3.out.free 1 2 rfl; have hC3_c13 := hC3.out.cell 1 3 rfl rfl; have hC3_f13 := hC3.out.free 1 3 rfl; clear _t hC)
      | fail)
  go_wp2
  refine ret_st (hC3.out |>.set 1 rfl |>.set 1 rfl |>.set 1 rfl |>.set 1 rfl) (v := .agg #[.int .i64 s1, .slice a1 n1 c1, .int .i64 s3, .slice a3 n3 c3]) (fun hF => ?_) rfl (fun hF => ⟨_, _, _, _, _, _, _, _, rfl, Nq.of (hF.n 0 rfl) (hF.n 1 rfl) (Rat.num_intCast _) (by rw [Rat.den_intCast]; rfl), hF.be⟩)
  · have e0 := hF.cell 1 0 rfl rfl
    have e1 := hF.cell 1 1 rfl rfl
    have e2 := hF.cell 1 2 rfl rfl
    have e3 := hF.cell 1 3 rfl rfl
    simp [results, Tryz.results51, go_sem, e0, e1, e2, e3]

set_option maxRecDepth 100000 in
set_option maxHeartbeats 2000000 in
theorem rnegN_any (s1 : Int) (a1 : Option Addr) (n1 c1 : Nat) (t1 : Int) (d1 : Option Addr) (e1 f1 : Nat) (q1 : Rat) (w : World) (h1 : Nq w s1 (.slice a1 n1 c1) t1 (.slice d1 e1 f1) q1) :
    Calls Tryz.prog 74 #[.agg #[.int .i64 s1, .slice a1 n1 c1, .int .i64 t1, .slice d1 e1 f1]] w (RetNQ w (-q1)) := by
  have hC := Lib.hid ((((St.enter w).pq h1).al (w.heap.size) #[.int .i64 s1, .slice a1 n1 c1, .int .i64 t1, .slice d1 e1 f1] 54 rfl rfl).al (w.heap.size + 1) #[.int .i64 0, .slice none 0 0, .int .i64 0, .slice none 0 0] 54 (by simp) rfl)
  clear h1
  go_enter Tryz.func74, Tryz.ntmps74
  go_wp2
  go_region_held3 (fun w' => w'.cell? ⟨w.heap.size, 0, none⟩ = some (.int .i64 s1) ∧ w'.cell? ⟨w.heap.size, 1, none⟩ = some (.slice a1 n1 c1) ∧ w'.cell? ⟨w.heap.size, 2, none⟩ = some (.int .i64 t1) ∧ w'.cell? ⟨w.heap.size, 3, none⟩ = some (.slice d1 e1 f1) ∧ True)
    (first
      | (with_reducible refine And.intro (?_ : World.cell? (World.setCell (World.setCell (World.setCell (World.setCell w4 _ _) _ _) _ _) _ _) _ = _) ?_; exact (hC4.out |>.set 1 rfl |>.set 1 rfl |>.set 1 rfl |>.set 1 rfl).cell 0 0 rfl rfl; exact ⟨(hC4.out |>.set 1 rfl |>.set 1 rfl |>.set 1 rfl |>.set 1 rfl).cell 0 1 rfl rfl, (hC4.out |>.set 1 rfl |>.set 1 rfl |>.set 1 rfl |>.set 1 rfl).cell 0 2 rfl rfl, (hC4.out |>.set 1 rfl |>.set 1 rfl |>.set 1 rfl |>.set 1 rfl).cell 0 3 rfl rfl, trivial⟩)
      | (with_reducible refine And.intro (?_ : World.cell? w4 _ = _) ?_; exact hC4.out.cell 0 0 rfl rfl; exact ⟨hC4.out.cell 0 1 rfl rfl, hC4.out.cell 0 2 rfl rfl, hC4.out.cell 0 3 rfl rfl, trivial⟩)
      | (with_reducible refine And.intro (?_ : World.cell? w3 _ = _) ?_; exact hC3.out.cell 0 0 rfl rfl; exact ⟨hC3.out.cell 0 1 rfl rfl, hC3.out.cell 0 2 rfl rfl, hC3.out.cell 0 3 rfl rfl, trivial⟩)
      | (with_reducible refine And.intro (?_ : World.cell? _ _ = _) ?_; exact hC.out.drew.cell 0 0 rfl rfl; exact ⟨hC.out.drew.cell 0 1 rfl rfl, hC.out.drew.cell 0 2 rfl rfl, hC.out.drew.cell 0 3 rfl rfl, trivial⟩))
    (first
      | (have _t := hC3; go_at_call 59; refine (denN_b (hC3.out.rq 0 rfl)).mono ?_; rintro e w4 ⟨s4, a4, n4, c4, rfl, hz, hb⟩; have hC4 := Lib.hid ((hC3.out.call hb).pn hz); clear hb hz; have hC4_c10 := hC4.out.cell 1 0 rfl rfl; have hC4_f10 := hC4.out.free 1 0 rfl; have hC4_c11 := hC4.out.cell 1 1 rfl rfl; have hC4_f11 := hC4.out.free 1 1 rfl; have hC4_c12 := hC4.out.cell 1 2 rfl rfl; have hC4_f12 := hC4.out.free 1 2 rfl; have hC4_c13 := hC4.out.cell 1 3 rfl rfl; have hC4_f13 := hC4.out.free 1 3 rfl; clear _t hC3)
      | (have _t := hC; go_at_call 44; refine (negN_b (hC.out.drew.rq 0 rfl).n).mono ?_; rintro e w3 ⟨s3, a3, n3, c3, rfl, hz, hb⟩; have hC3 := Lib.hid ((hC.out.drew.call hb).pn hz); clear hb hz; clear _t hC)
      | fail)
  go_wp2
  refine ret_st (hC4.out |>.set 1 rfl |>.set 1 rfl |>.set 1 rfl |>.set 1 rfl) (v := .agg #[.int .i64 s3, .slice a3 n3 c3, .int .i64 s4, .slice a4 n4 c4]) (fun hF => ?_) rfl (fun hF => ⟨_, _, _, _, _, _, _, _, rfl, Nq.of (hF.n 1 rfl) (hF.n 2 rfl) (Rat.neg_num _) (by rw [Rat.neg_den]), hF.be⟩)
  · have e0 := hF.cell 1 0 rfl rfl
    have e1 := hF.cell 1 1 rfl rfl
    have e2 := hF.cell 1 2 rfl rfl
    have e3 := hF.cell 1 3 rfl rfl
    simp [results, Tryz.results74, go_sem, e0, e1, e2, e3]

set_option maxRecDepth 100000 in
set_option maxHeartbeats 2000000 in
theorem rabsN_any (s1 : Int) (a1 : Option Addr) (n1 c1 : Nat) (t1 : Int) (d1 : Option Addr) (e1 f1 : Nat) (q1 : Rat) (w : World) (h1 : Nq w s1 (.slice a1 n1 c1) t1 (.slice d1 e1 f1) q1) :
    Calls Tryz.prog 76 #[.agg #[.int .i64 s1, .slice a1 n1 c1, .int .i64 t1, .slice d1 e1 f1]] w (RetNQ w (q1.abs)) := by
  have hC := Lib.hid ((((St.enter w).pq h1).al (w.heap.size) #[.int .i64 s1, .slice a1 n1 c1, .int .i64 t1, .slice d1 e1 f1] 54 rfl rfl).al (w.heap.size + 1) #[.int .i64 0, .slice none 0 0, .int .i64 0, .slice none 0 0] 54 (by simp) rfl)
  clear h1
  go_enter Tryz.func76, Tryz.ntmps76
  go_wp2
  go_region_held3 (fun w' => w'.cell? ⟨w.heap.size, 0, none⟩ = some (.int .i64 s1) ∧ w'.cell? ⟨w.heap.size, 1, none⟩ = some (.slice a1 n1 c1) ∧ w'.cell? ⟨w.heap.size, 2, none⟩ = some (.int .i64 t1) ∧ w'.cell? ⟨w.heap.size, 3, none⟩ = some (.slice d1 e1 f1) ∧ True)
    (first
      | (with_reducible refine And.intro (?_ : World.cell? (World.setCell (World.setCell (World.setCell (World.setCell w4 _ _) _ _) _ _) _ _) _ = _) ?_; exact (hC4.out |>.set 1 rfl |>.set 1 rfl |>.set 1 rfl |>.set 1 rfl).cell 0 0 rfl rfl; exact ⟨(hC4.out |>.set 1 rfl |>.set 1 rfl |>.set 1 rfl |>.set 1 rfl).cell 0 1 rfl rfl, (hC4.out |>.set 1 rfl |>.set 1 rfl |>.set 1 rfl |>.set 1 rfl).cell 0 2 rfl rfl, (hC4.out |>.set 1 rfl |>.set 1 rfl |>.set 1 rfl |>.set 1 rfl).cell 0 3 rfl rfl, trivial⟩)
      | (with_reducible refine And.intro (?_ : World.cell? w4 _ = _) ?_; exact hC4.out.cell 0 0 rfl rfl; exact ⟨hC4.out.cell 0 1 rfl rfl, hC4.out.cell 0 2 rfl rfl, hC4.out.cell 0 3 rfl rfl, trivial⟩)
      | (with_reducible refine And.intro (?_ : World.cell? w3 _ = _) ?_; exact hC3.out.cell 0 0 rfl rfl; exact ⟨hC3.out.cell 0 1 rfl rfl, hC3.out.cell 0 2 rfl rfl, hC3.out.cell 0 3 rfl rfl, trivial⟩)
      | (with_reducible refine And.intro (?_ : World.cell? _ _ = _) ?_; exact hC.out.drew.cell 0 0 rfl rfl; exact ⟨hC.out.drew.cell 0 1 rfl rfl, hC.out.drew.cell 0 2 rfl rfl, hC.out.drew.cell 0 3 rfl rfl, trivial⟩))
    (first
      | (have _t := hC3; go_at_call 59; refine (denN_b (hC3.out.rq 0 rfl)).mono ?_; rintro e w4 ⟨s4, a4, n4, c4, rfl, hz, hb⟩; have hC4 := Lib.hid ((hC3.out.call hb).pn hz); clear hb hz; have hC4_c10 := hC4.out.cell 1 0 rfl rfl; have hC4_f10 := hC4.out.free 1 0 rfl; have hC4_c11 := hC4.out.cell 1 1 rfl rfl; have hC4_f11 := hC4.out.free 1 1 rfl; have hC4_c12 := hC4.out.cell 1 2 rfl rfl; have hC4_f12 := hC4.out.free 1 2 rfl; have hC4_c13 := hC4.out.cell 1 3 rfl rfl; have hC4_f13 := hC4.out.free 1 3 rfl; clear _t hC3)
      | (have _t := hC; go_at_call 46; refine (absN_b (hC.out.drew.rq 0 rfl).n).mono ?_; rintro e w3 ⟨s3, a3, n3, c3, rfl, hz, hb⟩; have hC3 := Lib.hid ((hC.out.drew.call hb).pn hz); clear hb hz; clear _t hC)
      | fail)
  go_wp2
  refine ret_st (hC4.out |>.set 1 rfl |>.set 1 rfl |>.set 1 rfl |>.set 1 rfl) (v := .agg #[.int .i64 s3, .slice a3 n3 c3, .int .i64 s4, .slice a4 n4 c4]) (fun hF => ?_) rfl (fun hF => ⟨_, _, _, _, _, _, _, _, rfl, Nq.of (hF.n 1 rfl) (hF.n 2 rfl) (by have := abs_num q1; unfold Rat.abs; rw [this]) (by have := abs_den q1; unfold Rat.abs; rw [this]), hF.be⟩)
  · have e0 := hF.cell 1 0 rfl rfl
    have e1 := hF.cell 1 1 rfl rfl
    have e2 := hF.cell 1 2 rfl rfl
    have e3 := hF.cell 1 3 rfl rfl
    simp [results, Tryz.results76, go_sem, e0, e1, e2, e3]

set_option maxRecDepth 100000 in
set_option maxHeartbeats 1000000 in
theorem rsignN_any (s1 : Int) (a1 : Option Addr) (n1 c1 : Nat) (t1 : Int) (d1 : Option Addr) (e1 f1 : Nat) (q1 : Rat) (w : World) (h1 : Nq w s1 (.slice a1 n1 c1) t1 (.slice d1 e1 f1) q1) :
    Calls Tryz.prog 65 #[.agg #[.int .i64 s1, .slice a1 n1 c1, .int .i64 t1, .slice d1 e1 f1]] w (fun e w' => e = .returned (.int .i64 (sgnN q1.num)) ∧ Below w.heap.size w w') := by
  have HS := Lib.hid h1.n.s
  have hC := Lib.hid (((St.enter w).pq h1).al (w.heap.size) #[.int .i64 s1, .slice a1 n1 c1, .int .i64 t1, .slice d1 e1 f1] 54 rfl rfl)
  clear h1
  go_enter Tryz.func65, Tryz.ntmps65
  go_wp2
  go_ret
  exact ⟨ret_int HS.out, hC.out.be⟩

set_option maxRecDepth 100000 in
set_option maxHeartbeats 2000000 in
theorem rcmpN_any (s1 : Int) (a1 : Option Addr) (n1 c1 : Nat) (t1 : Int) (d1 : Option Addr) (e1 f1 : Nat) (q1 : Rat) (s2 : Int) (a2 : Option Addr) (n2 c2 : Nat) (t2 : Int) (d2 : Option Addr) (e2 f2 : Nat) (q2 : Rat) (w : World) (h1 : Nq w s1 (.slice a1 n1 c1) t1 (.slice d1 e1 f1) q1) (h2 : Nq w s2 (.slice a2 n2 c2) t2 (.slice d2 e2 f2) q2) (k1 k2 : Nat) (b1 : Bq k1 q1) (b2 : Bq k2 q2) (hk1 : k1 ≤ 40000) (hk2 : k2 ≤ 40000) :
    Calls Tryz.prog 77 #[.agg #[.int .i64 s1, .slice a1 n1 c1, .int .i64 t1, .slice d1 e1 f1], .agg #[.int .i64 s2, .slice a2 n2 c2, .int .i64 t2, .slice d2 e2 f2]] w (fun e w' => e = .returned (.int .i64 (sgnN (q1.num * q2.den - q2.num * q1.den))) ∧ Below w.heap.size w w') := by
  have B1 := Lib.hid b1
  have B2 := Lib.hid b2
  clear b1 b2
  have hC := Lib.hid (((((St.enter w).pq h1).pq h2).al (w.heap.size) #[.int .i64 s1, .slice a1 n1 c1, .int .i64 t1, .slice d1 e1 f1] 54 rfl rfl).al (w.heap.size + 1) #[.int .i64 s2, .slice a2 n2 c2, .int .i64 t2, .slice d2 e2 f2] 54 (by simp) rfl)
  clear h1 h2
  go_enter Tryz.func77, Tryz.ntmps77
  go_wp2
  go_region_held3 (fun w' => w'.cell? ⟨w.heap.size, 0, none⟩ = some (.int .i64 s1) ∧ w'.cell? ⟨w.heap.size, 1, none⟩ = some (.slice a1 n1 c1) ∧ w'.cell? ⟨w.heap.size, 2, none⟩ = some (.int .i64 t1) ∧ w'.cell? ⟨w.heap.size, 3, none⟩ = some (.slice d1 e1 f1) ∧ w'.cell? ⟨w.heap.size + 1, 0, none⟩ = some (.int .i64 s2) ∧ w'.cell? ⟨w.heap.size + 1, 1, none⟩ = some (.slice a2 n2 c2) ∧ w'.cell? ⟨w.heap.size + 1, 2, none⟩ = some (.int .i64 t2) ∧ w'.cell? ⟨w.heap.size + 1, 3, none⟩ = some (.slice d2 e2 f2) ∧ True)
    (first
      | (with_reducible refine And.intro (?_ : World.cell? w7 _ = _) ?_; exact hC7.out.cell 0 0 rfl rfl; exact ⟨hC7.out.cell 0 1 rfl rfl, hC7.out.cell 0 2 rfl rfl, hC7.out.cell 0 3 rfl rfl, hC7.out.cell 1 0 rfl rfl, hC7.out.cell 1 1 rfl rfl, hC7.out.cell 1 2 rfl rfl, hC7.out.cell 1 3 rfl rfl, trivial⟩)
      | (with_reducible refine And.intro (?_ : World.cell? w6 _ = _) ?_; exact hC6.out.cell 0 0 rfl rfl; exact ⟨hC6.out.cell 0 1 rfl rfl, hC6.out.cell 0 2 rfl rfl, hC6.out.cell 0 3 rfl rfl, hC6.out.cell 1 0 rfl rfl, hC6.out.cell 1 1 rfl rfl, hC6.out.cell 1 2 rfl rfl, hC6.out.cell 1 3 rfl rfl, trivial⟩)
      | (with_reducible refine And.intro (?_ : World.cell? w5 _ = _) ?_; exact hC5.out.cell 0 0 rfl rfl; exact ⟨hC5.out.cell 0 1 rfl rfl, hC5.out.cell 0 2 rfl rfl, hC5.out.cell 0 3 rfl rfl, hC5.out.cell 1 0 rfl rfl, hC5.out.cell 1 1 rfl rfl, hC5.out.cell 1 2 rfl rfl, hC5.out.cell 1 3 rfl rfl, trivial⟩)
      | (with_reducible refine And.intro (?_ : World.cell? w4 _ = _) ?_; exact hC4.out.cell 0 0 rfl rfl; exact ⟨hC4.out.cell 0 1 rfl rfl, hC4.out.cell 0 2 rfl rfl, hC4.out.cell 0 3 rfl rfl, hC4.out.cell 1 0 rfl rfl, hC4.out.cell 1 1 rfl rfl, hC4.out.cell 1 2 rfl rfl, hC4.out.cell 1 3 rfl rfl, trivial⟩)
      | (with_reducible refine And.intro (?_ : World.cell? w3 _ = _) ?_; exact hC3.out.cell 0 0 rfl rfl; exact ⟨hC3.out.cell 0 1 rfl rfl, hC3.out.cell 0 2 rfl rfl, hC3.out.cell 0 3 rfl rfl, hC3.out.cell 1 0 rfl rfl, hC3.out.cell 1 1 rfl rfl, hC3.out.cell 1 2 rfl rfl, hC3.out.cell 1 3 rfl rfl, trivial⟩)
      | (with_reducible refine And.intro (?_ : World.cell? _ _ = _) ?_; exact hC.out.drew.cell 0 0 rfl rfl; exact ⟨hC.out.drew.cell 0 1 rfl rfl, hC.out.drew.cell 0 2 rfl rfl, hC.out.drew.cell 0 3 rfl rfl, hC.out.drew.cell 1 0 rfl rfl, hC.out.drew.cell 1 1 rfl rfl, hC.out.drew.cell 1 2 rfl rfl, hC.out.drew.cell 1 3 rfl rfl, trivial⟩))
    (first
      | (have _t := hC6; go_at_call 47; refine (cmpN_b (hC6.out.n 3 rfl) (hC6.out.n 5 rfl) (B1.out.num.mul B2.out.den) (B2.out.num.mul B1.out.den) (by omega) (by omega)).mono ?_; rintro e w7 ⟨rfl, hb⟩; have hC7 := Lib.hid ((hC6.out.call hb)); clear hb; clear _t hC6)
      | (have _t := hC5; go_at_call 42; refine (mulN_b (hC5.out.rq 1 rfl).n (hC5.out.n 4 rfl) B2.out.num B1.out.den (by omega) (by omega)).mono ?_; rintro e w6 ⟨s6, a6, n6, c6, rfl, hz, hb⟩; have hC6 := Lib.hid ((hC5.out.call hb).pn hz); clear hb hz; clear _t hC5)
      | (have _t := hC4; go_at_call 59; refine (denN_b (hC4.out.rq 0 rfl)).mono ?_; rintro e w5 ⟨s5, a5, n5, c5, rfl, hz, hb⟩; have hC5 := Lib.hid ((hC4.out.call hb).pn hz); clear hb hz; clear _t hC4)
      | (have _t := hC3; go_at_call 42; refine (mulN_b (hC3.out.rq 0 rfl).n (hC3.out.n 2 rfl) B1.out.num B2.out.den (by omega) (by omega)).mono ?_; rintro e w4 ⟨s4, a4, n4, c4, rfl, hz, hb⟩; have hC4 := Lib.hid ((hC3.out.call hb).pn hz); clear hb hz; clear _t hC3)
      | (have _t := hC; go_at_call 59; refine (denN_b (hC.out.drew.rq 1 rfl)).mono ?_; rintro e w3 ⟨s3, a3, n3, c3, rfl, hz, hb⟩; have hC3 := Lib.hid ((hC.out.drew.call hb).pn hz); clear hb hz; clear _t hC)
      | fail)
  go_wp2
  go_ret
  exact ⟨rfl, hC7.out.be⟩

set_option maxRecDepth 100000 in
set_option maxHeartbeats 2000000 in
theorem rmulN_any (s1 : Int) (a1 : Option Addr) (n1 c1 : Nat) (t1 : Int) (d1 : Option Addr) (e1 f1 : Nat) (q1 : Rat) (s2 : Int) (a2 : Option Addr) (n2 c2 : Nat) (t2 : Int) (d2 : Option Addr) (e2 f2 : Nat) (q2 : Rat) (w : World) (h1 : Nq w s1 (.slice a1 n1 c1) t1 (.slice d1 e1 f1) q1) (h2 : Nq w s2 (.slice a2 n2 c2) t2 (.slice d2 e2 f2) q2) (k1 k2 : Nat) (b1 : Bq k1 q1) (b2 : Bq k2 q2) (hk1 : k1 ≤ 40000) (hk2 : k2 ≤ 40000) :
    Calls Tryz.prog 72 #[.agg #[.int .i64 s1, .slice a1 n1 c1, .int .i64 t1, .slice d1 e1 f1], .agg #[.int .i64 s2, .slice a2 n2 c2, .int .i64 t2, .slice d2 e2 f2]] w (RetNQ w (Rat.divInt (q1.num * q2.num) (q1.den * q2.den))) := by
  have B1 := Lib.hid b1
  have B2 := Lib.hid b2
  clear b1 b2
  have hC := Lib.hid ((((((St.enter w).pq h1).pq h2).al (w.heap.size) #[.int .i64 s1, .slice a1 n1 c1, .int .i64 t1, .slice d1 e1 f1] 54 rfl rfl).al (w.heap.size + 1) #[.int .i64 s2, .slice a2 n2 c2, .int .i64 t2, .slice d2 e2 f2] 54 (by simp) rfl).al (w.heap.size + 2) #[.int .i64 0, .slice none 0 0, .int .i64 0, .slice none 0 0] 54 (by simp) rfl)
  clear h1 h2
  go_enter Tryz.func72, Tryz.ntmps72
  go_wp2
  go_region_held3 (fun w' => w'.cell? ⟨w.heap.size, 0, none⟩ = some (.int .i64 s1) ∧ w'.cell? ⟨w.heap.size, 1, none⟩ = some (.slice a1 n1 c1) ∧ w'.cell? ⟨w.heap.size, 2, none⟩ = some (.int .i64 t1) ∧ w'.cell? ⟨w.heap.size, 3, none⟩ = some (.slice d1 e1 f1) ∧ w'.cell? ⟨w.heap.size + 1, 0, none⟩ = some (.int .i64 s2) ∧ w'.cell? ⟨w.heap.size + 1, 1, none⟩ = some (.slice a2 n2 c2) ∧ w'.cell? ⟨w.heap.size + 1, 2, none⟩ = some (.int .i64 t2) ∧ w'.cell? ⟨w.heap.size + 1, 3, none⟩ = some (.slice d2 e2 f2) ∧ True)
    (first
      | (with_reducible refine And.intro (?_ : World.cell? (World.setCell (World.setCell (World.setCell (World.setCell w7 _ _) _ _) _ _) _ _) _ = _) ?_; exact (hC7.out |>.set 2 rfl |>.set 2 rfl |>.set 2 rfl |>.set 2 rfl).cell 0 0 rfl rfl; exact ⟨(hC7.out |>.set 2 rfl |>.set 2 rfl |>.set 2 rfl |>.set 2 rfl).cell 0 1 rfl rfl, (hC7.out |>.set 2 rfl |>.set 2 rfl |>.set 2 rfl |>.set 2 rfl).cell 0 2 rfl rfl, (hC7.out |>.set 2 rfl |>.set 2 rfl |>.set 2 rfl |>.set 2 rfl).cell 0 3 rfl rfl, (hC7.out |>.set 2 rfl |>.set 2 rfl |>.set 2 rfl |>.set 2 rfl).cell 1 0 rfl rfl, (hC7.out |>.set 2 rfl |>.set 2 rfl |>.set 2 rfl |>.set 2 rfl).cell 1 1 rfl rfl, (hC7.out |>.set 2 rfl |>.set 2 rfl |>.set 2 rfl |>.set 2 rfl).cell 1 2 rfl rfl, (hC7.out |>.set 2 rfl |>.set 2 rfl |>.set 2 rfl |>.set 2 rfl).cell 1 3 rfl rfl, trivial⟩)
      | (with_reducible refine And.intro (?_ : World.cell? w7 _ = _) ?_; exact hC7.out.cell 0 0 rfl rfl; exact ⟨hC7.out.cell 0 1 rfl rfl, hC7.out.cell 0 2 rfl rfl, hC7.out.cell 0 3 rfl rfl, hC7.out.cell 1 0 rfl rfl, hC7.out.cell 1 1 rfl rfl, hC7.out.cell 1 2 rfl rfl, hC7.out.cell 1 3 rfl rfl, trivial⟩)
      | (with_reducible refine And.intro (?_ : World.cell? w6 _ = _) ?_; exact hC6.out.cell 0 0 rfl rfl; exact ⟨hC6.out.cell 0 1 rfl rfl, hC6.out.cell 0 2 rfl rfl, hC6.out.cell 0 3 rfl rfl, hC6.out.cell 1 0 rfl rfl, hC6.out.cell 1 1 rfl rfl, hC6.out.cell 1 2 rfl rfl, hC6.out.cell 1 3 rfl rfl, trivial⟩)
      | (with_reducible refine And.intro (?_ : World.cell? w5 _ = _) ?_; exact hC5.out.cell 0 0 rfl rfl; exact ⟨hC5.out.cell 0 1 rfl rfl, hC5.out.cell 0 2 rfl rfl, hC5.out.cell 0 3 rfl rfl, hC5.out.cell 1 0 rfl rfl, hC5.out.cell 1 1 rfl rfl, hC5.out.cell 1 2 rfl rfl, hC5.out.cell 1 3 rfl rfl, trivial⟩)
      | (with_reducible refine And.intro (?_ : World.cell? w4 _ = _) ?_; exact hC4.out.cell 0 0 rfl rfl; exact ⟨hC4.out.cell 0 1 rfl rfl, hC4.out.cell 0 2 rfl rfl, hC4.out.cell 0 3 rfl rfl, hC4.out.cell 1 0 rfl rfl, hC4.out.cell 1 1 rfl rfl, hC4.out.cell 1 2 rfl rfl, hC4.out.cell 1 3 rfl rfl, trivial⟩)
      | (with_reducible refine And.intro (?_ : World.cell? w3 _ = _) ?_; exact hC3.out.cell 0 0 rfl rfl; exact ⟨hC3.out.cell 0 1 rfl rfl, hC3.out.cell 0 2 rfl rfl, hC3.out.cell 0 3 rfl rfl, hC3.out.cell 1 0 rfl rfl, hC3.out.cell 1 1 rfl rfl, hC3.out.cell 1 2 rfl rfl, hC3.out.cell 1 3 rfl rfl, trivial⟩)
      | (with_reducible refine And.intro (?_ : World.cell? _ _ = _) ?_; exact hC.out.drew.cell 0 0 rfl rfl; exact ⟨hC.out.drew.cell 0 1 rfl rfl, hC.out.drew.cell 0 2 rfl rfl, hC.out.drew.cell 0 3 rfl rfl, hC.out.drew.cell 1 0 rfl rfl, hC.out.drew.cell 1 1 rfl rfl, hC.out.drew.cell 1 2 rfl rfl, hC.out.drew.cell 1 3 rfl rfl, trivial⟩))
    (first
      | (have _t := hC6; go_at_call 55; refine (ofzN_b (hC6.out.n 2 rfl) (hC6.out.n 5 rfl) (B1.out.num.mul B2.out.num) (B1.out.den.mul B2.out.den) (by omega) (by omega) (Int.mul_ne_zero (den_ne q1) (den_ne q2))).mono ?_; rintro e w7 ⟨s7, a7, n7, c7, t7, d7, e7, f7, rfl, hz, hb⟩; have hC7 := Lib.hid ((hC6.out.call hb).pq hz); clear hb hz; have hC7_c20 := hC7.out.cell 2 0 rfl rfl; have hC7_f20 := hC7.out.free 2 0 rfl; have hC7_c21 := hC7.out.cell 2 1 rfl rfl; have hC7_f21 := hC7.out.free 2 1 rfl; have hC7_c22 := hC7.out.cell 2 2 rfl rfl; have hC7_f22 := hC7.out.free 2 2 rfl; have hC7_c23 := hC7.out.cell 2 3 rfl rfl; have hC7_f23 := hC7.out.free 2 3 rfl; clear _t hC6)
      | (have _t := hC5; go_at_call 42; refine (mulN_b (hC5.out.n 3 rfl) (hC5.out.n 4 rfl) B1.out.den B2.out.den (by omega) (by omega)).mono ?_; rintro e w6 ⟨s6, a6, n6, c6, rfl, hz, hb⟩; have hC6 := Lib.hid ((hC5.out.call hb).pn hz); clear hb hz; clear _t hC5)
      | (have _t := hC4; go_at_call 59; refine (denN_b (hC4.out.rq 1 rfl)).mono ?_; rintro e w5 ⟨s5, a5, n5, c5, rfl, hz, hb⟩; have hC5 := Lib.hid ((hC4.out.call hb).pn hz); clear hb hz; clear _t hC4)
      | (have _t := hC3; go_at_call 59; refine (denN_b (hC3.out.rq 0 rfl)).mono ?_; rintro e w4 ⟨s4, a4, n4, c4, rfl, hz, hb⟩; have hC4 := Lib.hid ((hC3.out.call hb).pn hz); clear hb hz; clear _t hC3)
      | (have _t := hC; go_at_call 42; refine (mulN_b (hC.out.drew.rq 0 rfl).n (hC.out.drew.rq 1 rfl).n B1.out.num B2.out.num (by omega) (by omega)).mono ?_; rintro e w3 ⟨s3, a3, n3, c3, rfl, hz, hb⟩; have hC3 := Lib.hid ((hC.out.drew.call hb).pn hz); clear hb hz; clear _t hC)
      | fail)
  go_wp2
  refine ret_st (hC7.out |>.set 2 rfl |>.set 2 rfl |>.set 2 rfl |>.set 2 rfl) (v := .agg #[.int .i64 s7, .slice a7 n7 c7, .int .i64 t7, .slice d7 e7 f7]) (fun hF => ?_) rfl (fun hF => ⟨_, _, _, _, _, _, _, _, rfl, hF.rq 6 rfl, hF.be⟩)
  · have e0 := hF.cell 2 0 rfl rfl
    have e1 := hF.cell 2 1 rfl rfl
    have e2 := hF.cell 2 2 rfl rfl
    have e3 := hF.cell 2 3 rfl rfl
    simp [results, Tryz.results72, go_sem, e0, e1, e2, e3]

set_option maxRecDepth 100000 in
set_option maxHeartbeats 2000000 in
theorem rdivN_any (s1 : Int) (a1 : Option Addr) (n1 c1 : Nat) (t1 : Int) (d1 : Option Addr) (e1 f1 : Nat) (q1 : Rat) (s2 : Int) (a2 : Option Addr) (n2 c2 : Nat) (t2 : Int) (d2 : Option Addr) (e2 f2 : Nat) (q2 : Rat) (w : World) (h1 : Nq w s1 (.slice a1 n1 c1) t1 (.slice d1 e1 f1) q1) (h2 : Nq w s2 (.slice a2 n2 c2) t2 (.slice d2 e2 f2) q2) (k1 k2 : Nat) (b1 : Bq k1 q1) (b2 : Bq k2 q2) (hk1 : k1 ≤ 40000) (hk2 : k2 ≤ 40000) (hq : q2 ≠ 0) :
    Calls Tryz.prog 66 #[.agg #[.int .i64 s1, .slice a1 n1 c1, .int .i64 t1, .slice d1 e1 f1], .agg #[.int .i64 s2, .slice a2 n2 c2, .int .i64 t2, .slice d2 e2 f2]] w (RetNQ w (Rat.divInt (q1.num * q2.den) (q1.den * q2.num))) := by
  have B1 := Lib.hid b1
  have B2 := Lib.hid b2
  clear b1 b2
  have HQ := Lib.hid hq
  clear hq
  have hC := Lib.hid ((((((St.enter w).pq h1).pq h2).al (w.heap.size) #[.int .i64 s1, .slice a1 n1 c1, .int .i64 t1, .slice d1 e1 f1] 54 rfl rfl).al (w.heap.size + 1) #[.int .i64 s2, .slice a2 n2 c2, .int .i64 t2, .slice d2 e2 f2] 54 (by simp) rfl).al (w.heap.size + 2) #[.int .i64 0, .slice none 0 0, .int .i64 0, .slice none 0 0] 54 (by simp) rfl)
  clear h1 h2
  go_enter Tryz.func66, Tryz.ntmps66
  go_wp2
  go_region_held3 (fun w' => w'.cell? ⟨w.heap.size, 0, none⟩ = some (.int .i64 s1) ∧ w'.cell? ⟨w.heap.size, 1, none⟩ = some (.slice a1 n1 c1) ∧ w'.cell? ⟨w.heap.size, 2, none⟩ = some (.int .i64 t1) ∧ w'.cell? ⟨w.heap.size, 3, none⟩ = some (.slice d1 e1 f1) ∧ w'.cell? ⟨w.heap.size + 1, 0, none⟩ = some (.int .i64 s2) ∧ w'.cell? ⟨w.heap.size + 1, 1, none⟩ = some (.slice a2 n2 c2) ∧ w'.cell? ⟨w.heap.size + 1, 2, none⟩ = some (.int .i64 t2) ∧ w'.cell? ⟨w.heap.size + 1, 3, none⟩ = some (.slice d2 e2 f2) ∧ True)
    (first
      | (with_reducible refine And.intro (?_ : World.cell? (World.setCell (World.setCell (World.setCell (World.setCell w7 _ _) _ _) _ _) _ _) _ = _) ?_; exact (hC7.out |>.set 2 rfl |>.set 2 rfl |>.set 2 rfl |>.set 2 rfl).cell 0 0 rfl rfl; exact ⟨(hC7.out |>.set 2 rfl |>.set 2 rfl |>.set 2 rfl |>.set 2 rfl).cell 0 1 rfl rfl, (hC7.out |>.set 2 rfl |>.set 2 rfl |>.set 2 rfl |>.set 2 rfl).cell 0 2 rfl rfl, (hC7.out |>.set 2 rfl |>.set 2 rfl |>.set 2 rfl |>.set 2 rfl).cell 0 3 rfl rfl, (hC7.out |>.set 2 rfl |>.set 2 rfl |>.set 2 rfl |>.set 2 rfl).cell 1 0 rfl rfl, (hC7.out |>.set 2 rfl |>.set 2 rfl |>.set 2 rfl |>.set 2 rfl).cell 1 1 rfl rfl, (hC7.out |>.set 2 rfl |>.set 2 rfl |>.set 2 rfl |>.set 2 rfl).cell 1 2 rfl rfl, (hC7.out |>.set 2 rfl |>.set 2 rfl |>.set 2 rfl |>.set 2 rfl).cell 1 3 rfl rfl, trivial⟩)
      | (with_reducible refine And.intro (?_ : World.cell? w7 _ = _) ?_; exact hC7.out.cell 0 0 rfl rfl; exact ⟨hC7.out.cell 0 1 rfl rfl, hC7.out.cell 0 2 rfl rfl, hC7.out.cell 0 3 rfl rfl, hC7.out.cell 1 0 rfl rfl, hC7.out.cell 1 1 rfl rfl, hC7.out.cell 1 2 rfl rfl, hC7.out.cell 1 3 rfl rfl, trivial⟩)
      | (with_reducible refine And.intro (?_ : World.cell? w6 _ = _) ?_; exact hC6.out.cell 0 0 rfl rfl; exact ⟨hC6.out.cell 0 1 rfl rfl, hC6.out.cell 0 2 rfl rfl, hC6.out.cell 0 3 rfl rfl, hC6.out.cell 1 0 rfl rfl, hC6.out.cell 1 1 rfl rfl, hC6.out.cell 1 2 rfl rfl, hC6.out.cell 1 3 rfl rfl, trivial⟩)
      | (with_reducible refine And.intro (?_ : World.cell? w5 _ = _) ?_; exact hC5.out.cell 0 0 rfl rfl; exact ⟨hC5.out.cell 0 1 rfl rfl, hC5.out.cell 0 2 rfl rfl, hC5.out.cell 0 3 rfl rfl, hC5.out.cell 1 0 rfl rfl, hC5.out.cell 1 1 rfl rfl, hC5.out.cell 1 2 rfl rfl, hC5.out.cell 1 3 rfl rfl, trivial⟩)
      | (with_reducible refine And.intro (?_ : World.cell? w4 _ = _) ?_; exact hC4.out.cell 0 0 rfl rfl; exact ⟨hC4.out.cell 0 1 rfl rfl, hC4.out.cell 0 2 rfl rfl, hC4.out.cell 0 3 rfl rfl, hC4.out.cell 1 0 rfl rfl, hC4.out.cell 1 1 rfl rfl, hC4.out.cell 1 2 rfl rfl, hC4.out.cell 1 3 rfl rfl, trivial⟩)
      | (with_reducible refine And.intro (?_ : World.cell? w3 _ = _) ?_; exact hC3.out.cell 0 0 rfl rfl; exact ⟨hC3.out.cell 0 1 rfl rfl, hC3.out.cell 0 2 rfl rfl, hC3.out.cell 0 3 rfl rfl, hC3.out.cell 1 0 rfl rfl, hC3.out.cell 1 1 rfl rfl, hC3.out.cell 1 2 rfl rfl, hC3.out.cell 1 3 rfl rfl, trivial⟩)
      | (with_reducible refine And.intro (?_ : World.cell? _ _ = _) ?_; exact hC.out.drew.cell 0 0 rfl rfl; exact ⟨hC.out.drew.cell 0 1 rfl rfl, hC.out.drew.cell 0 2 rfl rfl, hC.out.drew.cell 0 3 rfl rfl, hC.out.drew.cell 1 0 rfl rfl, hC.out.drew.cell 1 1 rfl rfl, hC.out.drew.cell 1 2 rfl rfl, hC.out.drew.cell 1 3 rfl rfl, trivial⟩))
    (first
      | (have _t := hC6; go_at_call 55; refine (ofzN_b (hC6.out.n 3 rfl) (hC6.out.n 5 rfl) (B1.out.num.mul B2.out.den) (B1.out.den.mul B2.out.num) (by omega) (by omega) (Int.mul_ne_zero (den_ne q1) (fun e => HQ.out (Rat.num_eq_zero.1 e)))).mono ?_; rintro e w7 ⟨s7, a7, n7, c7, t7, d7, e7, f7, rfl, hz, hb⟩; have hC7 := Lib.hid ((hC6.out.call hb).pq hz); clear hb hz; have hC7_c20 := hC7.out.cell 2 0 rfl rfl; have hC7_f20 := hC7.out.free 2 0 rfl; have hC7_c21 := hC7.out.cell 2 1 rfl rfl; have hC7_f21 := hC7.out.free 2 1 rfl; have hC7_c22 := hC7.out.cell 2 2 rfl rfl; have hC7_f22 := hC7.out.free 2 2 rfl; have hC7_c23 := hC7.out.cell 2 3 rfl rfl; have hC7_f23 := hC7.out.free 2 3 rfl; clear _t hC6)
      | (have _t := hC5; go_at_call 42; refine (mulN_b (hC5.out.n 4 rfl) (hC5.out.rq 1 rfl).n B1.out.den B2.out.num (by omega) (by omega)).mono ?_; rintro e w6 ⟨s6, a6, n6, c6, rfl, hz, hb⟩; have hC6 := Lib.hid ((hC5.out.call hb).pn hz); clear hb hz; clear _t hC5)
      | (have _t := hC4; go_at_call 59; refine (denN_b (hC4.out.rq 0 rfl)).mono ?_; rintro e w5 ⟨s5, a5, n5, c5, rfl, hz, hb⟩; have hC5 := Lib.hid ((hC4.out.call hb).pn hz); clear hb hz; clear _t hC4)
      | (have _t := hC3; go_at_call 42; refine (mulN_b (hC3.out.rq 0 rfl).n (hC3.out.n 2 rfl) B1.out.num B2.out.den (by omega) (by omega)).mono ?_; rintro e w4 ⟨s4, a4, n4, c4, rfl, hz, hb⟩; have hC4 := Lib.hid ((hC3.out.call hb).pn hz); clear hb hz; clear _t hC3)
      | (have _t := hC; go_at_call 59; refine (denN_b (hC.out.drew.rq 1 rfl)).mono ?_; rintro e w3 ⟨s3, a3, n3, c3, rfl, hz, hb⟩; have hC3 := Lib.hid ((hC.out.drew.call hb).pn hz); clear hb hz; clear _t hC)
      | fail)
  go_wp2
  refine ret_st (hC7.out |>.set 2 rfl |>.set 2 rfl |>.set 2 rfl |>.set 2 rfl) (v := .agg #[.int .i64 s7, .slice a7 n7 c7, .int .i64 t7, .slice d7 e7 f7]) (fun hF => ?_) rfl (fun hF => ⟨_, _, _, _, _, _, _, _, rfl, hF.rq 6 rfl, hF.be⟩)
  · have e0 := hF.cell 2 0 rfl rfl
    have e1 := hF.cell 2 1 rfl rfl
    have e2 := hF.cell 2 2 rfl rfl
    have e3 := hF.cell 2 3 rfl rfl
    simp [results, Tryz.results66, go_sem, e0, e1, e2, e3]

set_option maxRecDepth 100000 in
set_option maxHeartbeats 2000000 in
theorem raddN_any (s1 : Int) (a1 : Option Addr) (n1 c1 : Nat) (t1 : Int) (d1 : Option Addr) (e1 f1 : Nat) (q1 : Rat) (s2 : Int) (a2 : Option Addr) (n2 c2 : Nat) (t2 : Int) (d2 : Option Addr) (e2 f2 : Nat) (q2 : Rat) (w : World) (h1 : Nq w s1 (.slice a1 n1 c1) t1 (.slice d1 e1 f1) q1) (h2 : Nq w s2 (.slice a2 n2 c2) t2 (.slice d2 e2 f2) q2) (k1 k2 : Nat) (b1 : Bq k1 q1) (b2 : Bq k2 q2) (hk1 : k1 ≤ 40000) (hk2 : k2 ≤ 40000) :
    Calls Tryz.prog 68 #[.agg #[.int .i64 s1, .slice a1 n1 c1, .int .i64 t1, .slice d1 e1 f1], .agg #[.int .i64 s2, .slice a2 n2 c2, .int .i64 t2, .slice d2 e2 f2]] w (RetNQ w (Rat.divInt (q1.num * q2.den + q2.num * q1.den) (q1.den * q2.den))) := by
  have B1 := Lib.hid b1
  have B2 := Lib.hid b2
  clear b1 b2
  have hC := Lib.hid ((((((St.enter w).pq h1).pq h2).al (w.heap.size) #[.int .i64 s1, .slice a1 n1 c1, .int .i64 t1, .slice d1 e1 f1] 54 rfl rfl).al (w.heap.size + 1) #[.int .i64 s2, .slice a2 n2 c2, .int .i64 t2, .slice d2 e2 f2] 54 (by simp) rfl).al (w.heap.size + 2) #[.int .i64 0, .slice none 0 0, .int .i64 0, .slice none 0 0] 54 (by simp) rfl)
  clear h1 h2
  go_enter Tryz.func68, Tryz.ntmps68
  go_wp2
  go_region_held3 (fun w' => w'.cell? ⟨w.heap.size, 0, none⟩ = some (.int .i64 s1) ∧ w'.cell? ⟨w.heap.size, 1, none⟩ = some (.slice a1 n1 c1) ∧ w'.cell? ⟨w.heap.size, 2, none⟩ = some (.int .i64 t1) ∧ w'.cell? ⟨w.heap.size, 3, none⟩ = some (.slice d1 e1 f1) ∧ w'.cell? ⟨w.heap.size + 1, 0, none⟩ = some (.int .i64 s2) ∧ w'.cell? ⟨w.heap.size + 1, 1, none⟩ = some (.slice a2 n2 c2) ∧ w'.cell? ⟨w.heap.size + 1, 2, none⟩ = some (.int .i64 t2) ∧ w'.cell? ⟨w.heap.size + 1, 3, none⟩ = some (.slice d2 e2 f2) ∧ True)
    (first
      | (with_reducible refine And.intro (?_ : World.cell? (World.setCell (World.setCell (World.setCell (World.setCell w11 _ _) _ _) _ _) _ _) _ = _) ?_; exact (hC11.out |>.set 2 rfl |>.set 2 rfl |>.set 2 rfl |>.set 2 rfl).cell 0 0 rfl rfl; exact ⟨(hC11.out |>.set 2 rfl |>.set 2 rfl |>.set 2 rfl |>.set 2 rfl).cell 0 1 rfl rfl, (hC11.out |>.set 2 rfl |>.set 2 rfl |>.set 2 rfl |>.set 2 rfl).cell 0 2 rfl rfl, (hC11.out |>.set 2 rfl |>.set 2 rfl |>.set 2 rfl |>.set 2 rfl).cell 0 3 rfl rfl, (hC11.out |>.set 2 rfl |>.set 2 rfl |>.set 2 rfl |>.set 2 rfl).cell 1 0 rfl rfl, (hC11.out |>.set 2 rfl |>.set 2 rfl |>.set 2 rfl |>.set 2 rfl).cell 1 1 rfl rfl, (hC11.out |>.set 2 rfl |>.set 2 rfl |>.set 2 rfl |>.set 2 rfl).cell 1 2 rfl rfl, (hC11.out |>.set 2 rfl |>.set 2 rfl |>.set 2 rfl |>.set 2 rfl).cell 1 3 rfl rfl, trivial⟩)
      | (with_reducible refine And.intro (?_ : World.cell? w11 _ = _) ?_; exact hC11.out.cell 0 0 rfl rfl; exact ⟨hC11.out.cell 0 1 rfl rfl, hC11.out.cell 0 2 rfl rfl, hC11.out.cell 0 3 rfl rfl, hC11.out.cell 1 0 rfl rfl, hC11.out.cell 1 1 rfl rfl, hC11.out.cell 1 2 rfl rfl, hC11.out.cell 1 3 rfl rfl, trivial⟩)
      | (with_reducible refine And.intro (?_ : World.cell? w10 _ = _) ?_; exact hC10.out.cell 0 0 rfl rfl; exact ⟨hC10.out.cell 0 1 rfl rfl, hC10.out.cell 0 2 rfl rfl, hC10.out.cell 0 3 rfl rfl, hC10.out.cell 1 0 rfl rfl, hC10.out.cell 1 1 rfl rfl, hC10.out.cell 1 2 rfl rfl, hC10.out.cell 1 3 rfl rfl, trivial⟩)
      | (with_reducible refine And.intro (?_ : World.cell? w9 _ = _) ?_; exact hC9.out.cell 0 0 rfl rfl; exact ⟨hC9.out.cell 0 1 rfl rfl, hC9.out.cell 0 2 rfl rfl, hC9.out.cell 0 3 rfl rfl, hC9.out.cell 1 0 rfl rfl, hC9.out.cell 1 1 rfl rfl, hC9.out.cell 1 2 rfl rfl, hC9.out.cell 1 3 rfl rfl, trivial⟩)
      | (with_reducible refine And.intro (?_ : World.cell? w8 _ = _) ?_; exact hC8.out.cell 0 0 rfl rfl; exact ⟨hC8.out.cell 0 1 rfl rfl, hC8.out.cell 0 2 rfl rfl, hC8.out.cell 0 3 rfl rfl, hC8.out.cell 1 0 rfl rfl, hC8.out.cell 1 1 rfl rfl, hC8.out.cell 1 2 rfl rfl, hC8.out.cell 1 3 rfl rfl, trivial⟩)
      | (with_reducible refine And.intro (?_ : World.cell? w7 _ = _) ?_; exact hC7.out.cell 0 0 rfl rfl; exact ⟨hC7.out.cell 0 1 rfl rfl, hC7.out.cell 0 2 rfl rfl, hC7.out.cell 0 3 rfl rfl, hC7.out.cell 1 0 rfl rfl, hC7.out.cell 1 1 rfl rfl, hC7.out.cell 1 2 rfl rfl, hC7.out.cell 1 3 rfl rfl, trivial⟩)
      | (with_reducible refine And.intro (?_ : World.cell? w6 _ = _) ?_; exact hC6.out.cell 0 0 rfl rfl; exact ⟨hC6.out.cell 0 1 rfl rfl, hC6.out.cell 0 2 rfl rfl, hC6.out.cell 0 3 rfl rfl, hC6.out.cell 1 0 rfl rfl, hC6.out.cell 1 1 rfl rfl, hC6.out.cell 1 2 rfl rfl, hC6.out.cell 1 3 rfl rfl, trivial⟩)
      | (with_reducible refine And.intro (?_ : World.cell? w5 _ = _) ?_; exact hC5.out.cell 0 0 rfl rfl; exact ⟨hC5.out.cell 0 1 rfl rfl, hC5.out.cell 0 2 rfl rfl, hC5.out.cell 0 3 rfl rfl, hC5.out.cell 1 0 rfl rfl, hC5.out.cell 1 1 rfl rfl, hC5.out.cell 1 2 rfl rfl, hC5.out.cell 1 3 rfl rfl, trivial⟩)
      | (with_reducible refine And.intro (?_ : World.cell? w4 _ = _) ?_; exact hC4.out.cell 0 0 rfl rfl; exact ⟨hC4.out.cell 0 1 rfl rfl, hC4.out.cell 0 2 rfl rfl, hC4.out.cell 0 3 rfl rfl, hC4.out.cell 1 0 rfl rfl, hC4.out.cell 1 1 rfl rfl, hC4.out.cell 1 2 rfl rfl, hC4.out.cell 1 3 rfl rfl, trivial⟩)
      | (with_reducible refine And.intro (?_ : World.cell? w3 _ = _) ?_; exact hC3.out.cell 0 0 rfl rfl; exact ⟨hC3.out.cell 0 1 rfl rfl, hC3.out.cell 0 2 rfl rfl, hC3.out.cell 0 3 rfl rfl, hC3.out.cell 1 0 rfl rfl, hC3.out.cell 1 1 rfl rfl, hC3.out.cell 1 2 rfl rfl, hC3.out.cell 1 3 rfl rfl, trivial⟩)
      | (with_reducible refine And.intro (?_ : World.cell? _ _ = _) ?_; exact hC.out.drew.cell 0 0 rfl rfl; exact ⟨hC.out.drew.cell 0 1 rfl rfl, hC.out.drew.cell 0 2 rfl rfl, hC.out.drew.cell 0 3 rfl rfl, hC.out.drew.cell 1 0 rfl rfl, hC.out.drew.cell 1 1 rfl rfl, hC.out.drew.cell 1 2 rfl rfl, hC.out.drew.cell 1 3 rfl rfl, trivial⟩))
    (first
      | (have _t := hC10; go_at_call 55; refine (ofzN_b (hC10.out.n 6 rfl) (hC10.out.n 9 rfl) ((B1.out.num.mul B2.out.den).add (B2.out.num.mul B1.out.den)) (B1.out.den.mul B2.out.den) (by omega) (by omega) (Int.mul_ne_zero (den_ne q1) (den_ne q2))).mono ?_; rintro e w11 ⟨s11, a11, n11, c11, t11, d11, e11, f11, rfl, hz, hb⟩; have hC11 := Lib.hid ((hC10.out.call hb).pq hz); clear hb hz; have hC11_c20 := hC11.out.cell 2 0 rfl rfl; have hC11_f20 := hC11.out.free 2 0 rfl; have hC11_c21 := hC11.out.cell 2 1 rfl rfl; have hC11_f21 := hC11.out.free 2 1 rfl; have hC11_c22 := hC11.out.cell 2 2 rfl rfl; have hC11_f22 := hC11.out.free 2 2 rfl; have hC11_c23 := hC11.out.cell 2 3 rfl rfl; have hC11_f23 := hC11.out.free 2 3 rfl; clear _t hC10)
      | (have _t := hC9; go_at_call 42; refine (mulN_b (hC9.out.n 7 rfl) (hC9.out.n 8 rfl) B1.out.den B2.out.den (by omega) (by omega)).mono ?_; rintro e w10 ⟨s10, a10, n10, c10, rfl, hz, hb⟩; have hC10 := Lib.hid ((hC9.out.call hb).pn hz); clear hb hz; clear _t hC9)
      | (have _t := hC8; go_at_call 59; refine (denN_b (hC8.out.rq 1 rfl)).mono ?_; rintro e w9 ⟨s9, a9, n9, c9, rfl, hz, hb⟩; have hC9 := Lib.hid ((hC8.out.call hb).pn hz); clear hb hz; clear _t hC8)
      | (have _t := hC7; go_at_call 59; refine (denN_b (hC7.out.rq 0 rfl)).mono ?_; rintro e w8 ⟨s8, a8, n8, c8, rfl, hz, hb⟩; have hC8 := Lib.hid ((hC7.out.call hb).pn hz); clear hb hz; clear _t hC7)
      | (have _t := hC6; go_at_call 38; refine (addN_b (hC6.out.n 3 rfl) (hC6.out.n 5 rfl) (B1.out.num.mul B2.out.den) (B2.out.num.mul B1.out.den) (by omega) (by omega)).mono ?_; rintro e w7 ⟨s7, a7, n7, c7, rfl, hz, hb⟩; have hC7 := Lib.hid ((hC6.out.call hb).pn hz); clear hb hz; clear _t hC6)
      | (have _t := hC5; go_at_call 42; refine (mulN_b (hC5.out.rq 1 rfl).n (hC5.out.n 4 rfl) B2.out.num B1.out.den (by omega) (by omega)).mono ?_; rintro e w6 ⟨s6, a6, n6, c6, rfl, hz, hb⟩; have hC6 := Lib.hid ((hC5.out.call hb).pn hz); clear hb hz; clear _t hC5)
      | (have _t := hC4; go_at_call 59; refine (denN_b (hC4.out.rq 0 rfl)).mono ?_; rintro e w5 ⟨s5, a5, n5, c5, rfl, hz, hb⟩; have hC5 := Lib.hid ((hC4.out.call hb).pn hz); clear hb hz; clear _t hC4)
      | (have _t := hC3; go_at_call 42; refine (mulN_b (hC3.out.rq 0 rfl).n (hC3.out.n 2 rfl) B1.out.num B2.out.den (by omega) (by omega)).mono ?_; rintro e w4 ⟨s4, a4, n4, c4, rfl, hz, hb⟩; have hC4 := Lib.hid ((hC3.out.call hb).pn hz); clear hb hz; clear _t hC3)
      | (have _t := hC; go_at_call 59; refine (denN_b (hC.out.drew.rq 1 rfl)).mono ?_; rintro e w3 ⟨s3, a3, n3, c3, rfl, hz, hb⟩; have hC3 := Lib.hid ((hC.out.drew.call hb).pn hz); clear hb hz; clear _t hC)
      | fail)
  go_wp2
  refine ret_st (hC11.out |>.set 2 rfl |>.set 2 rfl |>.set 2 rfl |>.set 2 rfl) (v := .agg #[.int .i64 s11, .slice a11 n11 c11, .int .i64 t11, .slice d11 e11 f11]) (fun hF => ?_) rfl (fun hF => ⟨_, _, _, _, _, _, _, _, rfl, hF.rq 10 rfl, hF.be⟩)
  · have e0 := hF.cell 2 0 rfl rfl
    have e1 := hF.cell 2 1 rfl rfl
    have e2 := hF.cell 2 2 rfl rfl
    have e3 := hF.cell 2 3 rfl rfl
    simp [results, Tryz.results68, go_sem, e0, e1, e2, e3]

section
variable {w : World} {s1 : Int} {a1 : Option Addr} {n1 c1 : Nat} {t1 : Int} {d1 : Option Addr} {e1 f1 : Nat} {q1 : Rat} {s2 : Int} {a2 : Option Addr} {n2 c2 : Nat} {t2 : Int} {d2 : Option Addr} {e2 f2 : Nat} {q2 : Rat} {k1 k2 : Nat}
theorem raddN_b (h1 : Nq w s1 (.slice a1 n1 c1) t1 (.slice d1 e1 f1) q1) (h2 : Nq w s2 (.slice a2 n2 c2) t2 (.slice d2 e2 f2) q2) (b1 : Bq k1 q1) (b2 : Bq k2 q2) (hk1 : k1 ≤ 40000) (hk2 : k2 ≤ 40000) :
    Calls Tryz.prog 68 #[.agg #[.int .i64 s1, .slice a1 n1 c1, .int .i64 t1, .slice d1 e1 f1], .agg #[.int .i64 s2, .slice a2 n2 c2, .int .i64 t2, .slice d2 e2 f2]] w (RetNQ w (q1 + q2)) := by
  rw [add_eq]; exact raddN_any _ _ _ _ _ _ _ _ _ _ _ _ _ _ _ _ _ _ _ h1 h2 k1 k2 b1 b2 hk1 hk2
theorem rmulN_b (h1 : Nq w s1 (.slice a1 n1 c1) t1 (.slice d1 e1 f1) q1) (h2 : Nq w s2 (.slice a2 n2 c2) t2 (.slice d2 e2 f2) q2) (b1 : Bq k1 q1) (b2 : Bq k2 q2) (hk1 : k1 ≤ 40000) (hk2 : k2 ≤ 40000) :
    Calls Tryz.prog 72 #[.agg #[.int .i64 s1, .slice a1 n1 c1, .int .i64 t1, .slice d1 e1 f1], .agg #[.int .i64 s2, .slice a2 n2 c2, .int .i64 t2, .slice d2 e2 f2]] w (RetNQ w (q1 * q2)) := by
  rw [mul_eq]; exact rmulN_any _ _ _ _ _ _ _ _ _ _ _ _ _ _ _ _ _ _ _ h1 h2 k1 k2 b1 b2 hk1 hk2
theorem rdivN_b (h1 : Nq w s1 (.slice a1 n1 c1) t1 (.slice d1 e1 f1) q1) (h2 : Nq w s2 (.slice a2 n2 c2) t2 (.slice d2 e2 f2) q2) (b1 : Bq k1 q1) (b2 : Bq k2 q2) (hk1 : k1 ≤ 40000) (hk2 : k2 ≤ 40000) (hq : q2 ≠ 0) :
    Calls Tryz.prog 66 #[.agg #[.int .i64 s1, .slice a1 n1 c1, .int .i64 t1, .slice d1 e1 f1], .agg #[.int .i64 s2, .slice a2 n2 c2, .int .i64 t2, .slice d2 e2 f2]] w (RetNQ w (q1 / q2)) := by
  rw [div_eq]; exact rdivN_any _ _ _ _ _ _ _ _ _ _ _ _ _ _ _ _ _ _ _ h1 h2 k1 k2 b1 b2 hk1 hk2 hq
theorem rnegN_b (h1 : Nq w s1 (.slice a1 n1 c1) t1 (.slice d1 e1 f1) q1) : Calls Tryz.prog 74 #[.agg #[.int .i64 s1, .slice a1 n1 c1, .int .i64 t1, .slice d1 e1 f1]] w (RetNQ w (-q1)) := rnegN_any _ _ _ _ _ _ _ _ _ _ h1
end

set_option maxRecDepth 100000 in
set_option maxHeartbeats 2000000 in
theorem rsubN_any (s1 : Int) (a1 : Option Addr) (n1 c1 : Nat) (t1 : Int) (d1 : Option Addr) (e1 f1 : Nat) (q1 : Rat) (s2 : Int) (a2 : Option Addr) (n2 c2 : Nat) (t2 : Int) (d2 : Option Addr) (e2 f2 : Nat) (q2 : Rat) (w : World) (h1 : Nq w s1 (.slice a1 n1 c1) t1 (.slice d1 e1 f1) q1) (h2 : Nq w s2 (.slice a2 n2 c2) t2 (.slice d2 e2 f2) q2) (k1 k2 : Nat) (b1 : Bq k1 q1) (b2 : Bq k2 q2) (hk1 : k1 ≤ 40000) (hk2 : k2 ≤ 40000) :
    Calls Tryz.prog 70 #[.agg #[.int .i64 s1, .slice a1 n1 c1, .int .i64 t1, .slice d1 e1 f1], .agg #[.int .i64 s2, .slice a2 n2 c2, .int .i64 t2, .slice d2 e2 f2]] w (RetNQ w (q1 + -q2)) := by
  have B1 := Lib.hid b1
  have B2 := Lib.hid b2
  clear b1 b2
  have hC := Lib.hid ((((((St.enter w).pq h1).pq h2).al (w.heap.size) #[.int .i64 s1, .slice a1 n1 c1, .int .i64 t1, .slice d1 e1 f1] 54 rfl rfl).al (w.heap.size + 1) #[.int .i64 s2, .slice a2 n2 c2, .int .i64 t2, .slice d2 e2 f2] 54 (by simp) rfl).al (w.heap.size + 2) #[.int .i64 0, .slice none 0 0, .int .i64 0, .slice none 0 0] 54 (by simp) rfl)
  clear h1 h2
  go_enter Tryz.func70, Tryz.ntmps70
  go_wp2
  go_region_held3 (fun w' => w'.cell? ⟨w.heap.size, 0, none⟩ = some (.int .i64 s1) ∧ w'.cell? ⟨w.heap.size, 1, none⟩ = some (.slice a1 n1 c1) ∧ w'.cell? ⟨w.heap.size, 2, none⟩ = some (.int .i64 t1) ∧ w'.cell? ⟨w.heap.size, 3, none⟩ = some (.slice d1 e1 f1) ∧ w'.cell? ⟨w.heap.size + 1, 0, none⟩ = some (.int .i64 s2) ∧ w'.cell? ⟨w.heap.size + 1, 1, none⟩ = some (.slice a2 n2 c2) ∧ w'.cell? ⟨w.heap.size + 1, 2, none⟩ = some (.int .i64 t2) ∧ w'.cell? ⟨w.heap.size + 1, 3, none⟩ = some (.slice d2 e2 f2) ∧ True)
    (first
      | (with_reducible refine And.intro (?_ : World.cell? (World.setCell (World.setCell (World.setCell (World.setCell w4 _ _) _ _) _ _) _ _) _ = _) ?_; exact (hC4.out |>.set 2 rfl |>.set 2 rfl |>.set 2 rfl |>.set 2 rfl).cell 0 0 rfl rfl; exact ⟨(hC4.out |>.set 2 rfl |>.set 2 rfl |>.set 2 rfl |>.set 2 rfl).cell 0 1 rfl rfl, (hC4.out |>.set 2 rfl |>.set 2 rfl |>.set 2 rfl |>.set 2 rfl).cell 0 2 rfl rfl, (hC4.out |>.set 2 rfl |>.set 2 rfl |>.set 2 rfl |>.set 2 rfl).cell 0 3 rfl rfl, (hC4.out |>.set 2 rfl |>.set 2 rfl |>.set 2 rfl |>.set 2 rfl).cell 1 0 rfl rfl, (hC4.out |>.set 2 rfl |>.set 2 rfl |>.set 2 rfl |>.set 2 rfl).cell 1 1 rfl rfl, (hC4.out |>.set 2 rfl |>.set 2 rfl |>.set 2 rfl |>.set 2 rfl).cell 1 2 rfl rfl, (hC4.out |>.set 2 rfl |>.set 2 rfl |>.set 2 rfl |>.set 2 rfl).cell 1 3 rfl rfl, trivial⟩)
      | (with_reducible refine And.intro (?_ : World.cell? w4 _ = _) ?_; exact hC4.out.cell 0 0 rfl rfl; exact ⟨hC4.out.cell 0 1 rfl rfl, hC4.out.cell 0 2 rfl rfl, hC4.out.cell 0 3 rfl rfl, hC4.out.cell 1 0 rfl rfl, hC4.out.cell 1 1 rfl rfl, hC4.out.cell 1 2 rfl rfl, hC4.out.cell 1 3 rfl rfl, trivial⟩)
      | (with_reducible refine And.intro (?_ : World.cell? w3 _ = _) ?_; exact hC3.out.cell 0 0 rfl rfl; exact ⟨hC3.out.cell 0 1 rfl rfl, hC3.out.cell 0 2 rfl rfl, hC3.out.cell 0 3 rfl rfl, hC3.out.cell 1 0 rfl rfl, hC3.out.cell 1 1 rfl rfl, hC3.out.cell 1 2 rfl rfl, hC3.out.cell 1 3 rfl rfl, trivial⟩)
      | (with_reducible refine And.intro (?_ : World.cell? _ _ = _) ?_; exact hC.out.drew.cell 0 0 rfl rfl; exact ⟨hC.out.drew.cell 0 1 rfl rfl, hC.out.drew.cell 0 2 rfl rfl, hC.out.drew.cell 0 3 rfl rfl, hC.out.drew.cell 1 0 rfl rfl, hC.out.drew.cell 1 1 rfl rfl, hC.out.drew.cell 1 2 rfl rfl, hC.out.drew.cell 1 3 rfl rfl, trivial⟩))
    (first
      | (have _t := hC3; go_at_call 68; refine (raddN_b (hC3.out.rq 0 rfl) (hC3.out.rq 2 rfl) B1.out B2.out.neg (by omega) (by omega)).mono ?_; rintro e w4 ⟨s4, a4, n4, c4, t4, d4, e4, f4, rfl, hz, hb⟩; have hC4 := Lib.hid ((hC3.out.call hb).pq hz); clear hb hz; have hC4_c20 := hC4.out.cell 2 0 rfl rfl; have hC4_f20 := hC4.out.free 2 0 rfl; have hC4_c21 := hC4.out.cell 2 1 rfl rfl; have hC4_f21 := hC4.out.free 2 1 rfl; have hC4_c22 := hC4.out.cell 2 2 rfl rfl; have hC4_f22 := hC4.out.free 2 2 rfl; have hC4_c23 := hC4.out.cell 2 3 rfl rfl; have hC4_f23 := hC4.out.free 2 3 rfl; clear _t hC3)
      | (have _t := hC; go_at_call 74; refine (rnegN_b (hC.out.drew.rq 1 rfl)).mono ?_; rintro e w3 ⟨s3, a3, n3, c3, t3, d3, e3, f3, rfl, hz, hb⟩; have hC3 := Lib.hid ((hC.out.drew.call hb).pq hz); clear hb hz; clear _t hC)
      | fail)
  go_wp2
  refine ret_st (hC4.out |>.set 2 rfl |>.set 2 rfl |>.set 2 rfl |>.set 2 rfl) (v := .agg #[.int .i64 s4, .slice a4 n4 c4, .int .i64 t4, .slice d4 e4 f4]) (fun hF => ?_) rfl (fun hF => ⟨_, _, _, _, _, _, _, _, rfl, hF.rq 3 rfl, hF.be⟩)
  · have e0 := hF.cell 2 0 rfl rfl
    have e1 := hF.cell 2 1 rfl rfl
    have e2 := hF.cell 2 2 rfl rfl
    have e3 := hF.cell 2 3 rfl rfl
    simp [results, Tryz.results70, go_sem, e0, e1, e2, e3]


end Go.Proofs.YtmfplelodnoicaaGreatDoor
namespace Go.Proofs.YtmfplelodnoicaaGreatDoor
open Go.RowKit Dig

theorem Bq.abs {n : Nat} {a : Rat} (h : Bq n a) : Bq n a.abs := by
  unfold Rat.abs
  split
  · exact h
  · exact h.neg
theorem Bd.floor {n : Nat} {q : Rat} (h : Bq n q) : Bd n q.floor := by rw [Rat.floor_def]; exact h.num.div _
theorem sgnQ_0 {q : Rat} (h : q = 0) : sgnQ q = 0 := by rw [h]; rfl
theorem cmpQ_le {a b : Rat} (h : a ≤ b) : cmpQ a b ≤ 0 := by
  unfold cmpQ
  split
  · omega
  · split
    · omega
    · exact absurd h (by grind)
theorem cmpQ_lt {a b : Rat} (h : a < b) : cmpQ a b = -1 := by
  unfold cmpQ
  rw [if_neg (by grind), if_pos h]
theorem cmpQ_gt {a b : Rat} (h : b < a) : cmpQ a b = 1 := by
  unfold cmpQ
  rw [if_neg (by grind), if_neg (by grind)]

set_option maxRecDepth 100000 in
set_option maxHeartbeats 4000000 in
theorem rfloorN_any (s1 : Int) (a1 : Option Addr) (n1 c1 : Nat) (t1 : Int) (d1 : Option Addr) (e1 f1 : Nat) (q1 : Rat) (w : World) (h1 : Nq w s1 (.slice a1 n1 c1) t1 (.slice d1 e1 f1) q1) (k1 : Nat) (b1 : Bq k1 q1) (hk1 : k1 ≤ 40000) :
    Calls Tryz.prog 61 #[.agg #[.int .i64 s1, .slice a1 n1 c1, .int .i64 t1, .slice d1 e1 f1]] w (RetN w (q1.num / (q1.den : Int))) := by
  have B1 := Lib.hid b1
  clear b1
  have hC := Lib.hid ((((St.enter w).pq h1).al (w.heap.size) #[.int .i64 s1, .slice a1 n1 c1, .int .i64 t1, .slice d1 e1 f1] 54 rfl rfl).al (w.heap.size + 1) #[.int .i64 0, .slice none 0 0] 31 (by simp) rfl)
  clear h1
  go_enter Tryz.func61, Tryz.ntmps61
  go_upto_region 1 with fail
  go_cut [3] (fun s3 wx => ∃ bx s4 a4 n4 c4, s3 = .pointer (some ⟨bx, 0, none⟩) ∧ Hid (St w wx [(w.heap.size, #[.int .i64 s1, .slice a1 n1 c1, .int .i64 t1, .slice d1 e1 f1], 54), (w.heap.size + 1, #[.int .i64 0, .slice none 0 0], 31), (bx, #[.int .i64 s4, .slice a4 n4 c4], 31)] [fun V => Nz V s4 (.slice a4 n4 c4) (q1.num / (q1.den : Int))]))
  case first =>
    refine wp_gen hC.out ?_
    intro W1 hc
    clear hC
    have hC := Lib.hid hc
    have HK1 := Lib.hid (show k1 ≤ 300000 by omega)
    have HD := Lib.hid (den_ne q1)
    clear hc
    go_region_held3 (fun w' => w'.cell? ⟨w.heap.size, 0, none⟩ = some (.int .i64 s1) ∧ w'.cell? ⟨w.heap.size, 1, none⟩ = some (.slice a1 n1 c1) ∧ w'.cell? ⟨w.heap.size, 2, none⟩ = some (.int .i64 t1) ∧ w'.cell? ⟨w.heap.size, 3, none⟩ = some (.slice d1 e1 f1) ∧ True)
      (first
        | (with_reducible refine And.intro (?_ : World.cell? (World.setCell (World.setCell (World.setCell (World.setCell (World.alloc (World.alloc wb _) _) _ _) _ _) _ _) _ _) _ = _) ?_; exact ((((hCb.out.al (wb.heap.size) #[.int .i64 0, .slice none 0 0] 31 rfl rfl).al (wb.heap.size + 1) #[.int .i64 0, .slice none 0 0] 31 (by simp) rfl) |>.set 2 rfl |>.set 2 rfl) |>.set 3 rfl |>.set 3 rfl).cell 0 0 rfl rfl; exact ⟨((((hCb.out.al (wb.heap.size) #[.int .i64 0, .slice none 0 0] 31 rfl rfl).al (wb.heap.size + 1) #[.int .i64 0, .slice none 0 0] 31 (by simp) rfl) |>.set 2 rfl |>.set 2 rfl) |>.set 3 rfl |>.set 3 rfl).cell 0 1 rfl rfl, ((((hCb.out.al (wb.heap.size) #[.int .i64 0, .slice none 0 0] 31 rfl rfl).al (wb.heap.size + 1) #[.int .i64 0, .slice none 0 0] 31 (by simp) rfl) |>.set 2 rfl |>.set 2 rfl) |>.set 3 rfl |>.set 3 rfl).cell 0 2 rfl rfl, ((((hCb.out.al (wb.heap.size) #[.int .i64 0, .slice none 0 0] 31 rfl rfl).al (wb.heap.size + 1) #[.int .i64 0, .slice none 0 0] 31 (by simp) rfl) |>.set 2 rfl |>.set 2 rfl) |>.set 3 rfl |>.set 3 rfl).cell 0 3 rfl rfl, trivial⟩)
        | (with_reducible refine And.intro (?_ : World.cell? (World.setCell (World.setCell (World.setCell (World.setCell (World.alloc (World.alloc wb _) _) _ _) _ _) _ _) _ _) _ = _) ?_; exact ((((hCb.out.al (wb.heap.size) #[.int .i64 0, .slice none 0 0] 31 rfl rfl).al (wb.heap.size + 1) #[.int .i64 0, .slice none 0 0] 31 (by simp) rfl) |>.set 3 rfl |>.set 3 rfl) |>.set 2 rfl |>.set 2 rfl).cell 0 0 rfl rfl; exact ⟨((((hCb.out.al (wb.heap.size) #[.int .i64 0, .slice none 0 0] 31 rfl rfl).al (wb.heap.size + 1) #[.int .i64 0, .slice none 0 0] 31 (by simp) rfl) |>.set 3 rfl |>.set 3 rfl) |>.set 2 rfl |>.set 2 rfl).cell 0 1 rfl rfl, ((((hCb.out.al (wb.heap.size) #[.int .i64 0, .slice none 0 0] 31 rfl rfl).al (wb.heap.size + 1) #[.int .i64 0, .slice none 0 0] 31 (by simp) rfl) |>.set 3 rfl |>.set 3 rfl) |>.set 2 rfl |>.set 2 rfl).cell 0 2 rfl rfl, ((((hCb.out.al (wb.heap.size) #[.int .i64 0, .slice none 0 0] 31 rfl rfl).al (wb.heap.size + 1) #[.int .i64 0, .slice none 0 0] 31 (by simp) rfl) |>.set 3 rfl |>.set 3 rfl) |>.set 2 rfl |>.set 2 rfl).cell 0 3 rfl rfl, trivial⟩)
        | (with_reducible refine And.intro (?_ : World.cell? (World.setCell (World.setCell (World.setCell (World.setCell (World.alloc wb _) _ _) _ _) _ _) _ _) _ = _) ?_; exact (((hCb.out.al (wb.heap.size) #[.int .i64 0, .slice none 0 0] 31 rfl rfl) |>.set 2 rfl |>.set 2 rfl) |>.set 3 rfl |>.set 3 rfl).cell 0 0 rfl rfl; exact ⟨(((hCb.out.al (wb.heap.size) #[.int .i64 0, .slice none 0 0] 31 rfl rfl) |>.set 2 rfl |>.set 2 rfl) |>.set 3 rfl |>.set 3 rfl).cell 0 1 rfl rfl, (((hCb.out.al (wb.heap.size) #[.int .i64 0, .slice none 0 0] 31 rfl rfl) |>.set 2 rfl |>.set 2 rfl) |>.set 3 rfl |>.set 3 rfl).cell 0 2 rfl rfl, (((hCb.out.al (wb.heap.size) #[.int .i64 0, .slice none 0 0] 31 rfl rfl) |>.set 2 rfl |>.set 2 rfl) |>.set 3 rfl |>.set 3 rfl).cell 0 3 rfl rfl, trivial⟩)
        | (with_reducible refine And.intro (?_ : World.cell? (World.setCell (World.setCell (World.setCell (World.setCell (World.alloc wb _) _ _) _ _) _ _) _ _) _ = _) ?_; exact (((hCb.out.al (wb.heap.size) #[.int .i64 0, .slice none 0 0] 31 rfl rfl) |>.set 3 rfl |>.set 3 rfl) |>.set 2 rfl |>.set 2 rfl).cell 0 0 rfl rfl; exact ⟨(((hCb.out.al (wb.heap.size) #[.int .i64 0, .slice none 0 0] 31 rfl rfl) |>.set 3 rfl |>.set 3 rfl) |>.set 2 rfl |>.set 2 rfl).cell 0 1 rfl rfl, (((hCb.out.al (wb.heap.size) #[.int .i64 0, .slice none 0 0] 31 rfl rfl) |>.set 3 rfl |>.set 3 rfl) |>.set 2 rfl |>.set 2 rfl).cell 0 2 rfl rfl, (((hCb.out.al (wb.heap.size) #[.int .i64 0, .slice none 0 0] 31 rfl rfl) |>.set 3 rfl |>.set 3 rfl) |>.set 2 rfl |>.set 2 rfl).cell 0 3 rfl rfl, trivial⟩)
        | (with_reducible refine And.intro (?_ : World.cell? (World.alloc (World.setCell (World.setCell (World.alloc (World.alloc wb _) _) _ _) _ _) _) _ = _) ?_; exact (((hCb.out.al (wb.heap.size) #[.int .i64 0, .slice none 0 0] 31 rfl rfl).al (wb.heap.size + 1) #[.int .i64 0, .slice none 0 0] 31 (by simp) rfl) |>.set 2 rfl |>.set 2 rfl).row.cell 0 0 rfl rfl; exact ⟨(((hCb.out.al (wb.heap.size) #[.int .i64 0, .slice none 0 0] 31 rfl rfl).al (wb.heap.size + 1) #[.int .i64 0, .slice none 0 0] 31 (by simp) rfl) |>.set 2 rfl |>.set 2 rfl).row.cell 0 1 rfl rfl, (((hCb.out.al (wb.heap.size) #[.int .i64 0, .slice none 0 0] 31 rfl rfl).al (wb.heap.size + 1) #[.int .i64 0, .slice none 0 0] 31 (by simp) rfl) |>.set 2 rfl |>.set 2 rfl).row.cell 0 2 rfl rfl, (((hCb.out.al (wb.heap.size) #[.int .i64 0, .slice none 0 0] 31 rfl rfl).al (wb.heap.size + 1) #[.int .i64 0, .slice none 0 0] 31 (by simp) rfl) |>.set 2 rfl |>.set 2 rfl).row.cell 0 3 rfl rfl, trivial⟩)
        | (with_reducible refine And.intro (?_ : World.cell? (World.alloc (World.setCell (World.setCell (World.alloc (World.alloc wb _) _) _ _) _ _) _) _ = _) ?_; exact (((hCb.out.al (wb.heap.size) #[.int .i64 0, .slice none 0 0] 31 rfl rfl).al (wb.heap.size + 1) #[.int .i64 0, .slice none 0 0] 31 (by simp) rfl) |>.set 3 rfl |>.set 3 rfl).row.cell 0 0 rfl rfl; exact ⟨(((hCb.out.al (wb.heap.size) #[.int .i64 0, .slice none 0 0] 31 rfl rfl).al (wb.heap.size + 1) #[.int .i64 0, .slice none 0 0] 31 (by simp) rfl) |>.set 3 rfl |>.set 3 rfl).row.cell 0 1 rfl rfl, (((hCb.out.al (wb.heap.size) #[.int .i64 0, .slice none 0 0] 31 rfl rfl).al (wb.heap.size + 1) #[.int .i64 0, .slice none 0 0] 31 (by simp) rfl) |>.set 3 rfl |>.set 3 rfl).row.cell 0 2 rfl rfl, (((hCb.out.al (wb.heap.size) #[.int .i64 0, .slice none 0 0] 31 rfl rfl).al (wb.heap.size + 1) #[.int .i64 0, .slice none 0 0] 31 (by simp) rfl) |>.set 3 rfl |>.set 3 rfl).row.cell 0 3 rfl rfl, trivial⟩)
        | (with_reducible refine And.intro (?_ : World.cell? (World.setCell (World.setCell (World.setCell (World.setCell wb _ _) _ _) _ _) _ _) _ = _) ?_; exact ((hCb.out |>.set 2 rfl |>.set 2 rfl) |>.set 3 rfl |>.set 3 rfl).cell 0 0 rfl rfl; exact ⟨((hCb.out |>.set 2 rfl |>.set 2 rfl) |>.set 3 rfl |>.set 3 rfl).cell 0 1 rfl rfl, ((hCb.out |>.set 2 rfl |>.set 2 rfl) |>.set 3 rfl |>.set 3 rfl).cell 0 2 rfl rfl, ((hCb.out |>.set 2 rfl |>.set 2 rfl) |>.set 3 rfl |>.set 3 rfl).cell 0 3 rfl rfl, trivial⟩)
        | (with_reducible refine And.intro (?_ : World.cell? (World.setCell (World.setCell (World.setCell (World.setCell wb _ _) _ _) _ _) _ _) _ = _) ?_; exact ((hCb.out |>.set 3 rfl |>.set 3 rfl) |>.set 2 rfl |>.set 2 rfl).cell 0 0 rfl rfl; exact ⟨((hCb.out |>.set 3 rfl |>.set 3 rfl) |>.set 2 rfl |>.set 2 rfl).cell 0 1 rfl rfl, ((hCb.out |>.set 3 rfl |>.set 3 rfl) |>.set 2 rfl |>.set 2 rfl).cell 0 2 rfl rfl, ((hCb.out |>.set 3 rfl |>.set 3 rfl) |>.set 2 rfl |>.set 2 rfl).cell 0 3 rfl rfl, trivial⟩)
        | (with_reducible refine And.intro (?_ : World.cell? (World.alloc (World.setCell (World.setCell (World.alloc wb _) _ _) _ _) _) _ = _) ?_; exact ((hCb.out.al (wb.heap.size) #[.int .i64 0, .slice none 0 0] 31 rfl rfl) |>.set 2 rfl |>.set 2 rfl).row.cell 0 0 rfl rfl; exact ⟨((hCb.out.al (wb.heap.size) #[.int .i64 0, .slice none 0 0] 31 rfl rfl) |>.set 2 rfl |>.set 2 rfl).row.cell 0 1 rfl rfl, ((hCb.out.al (wb.heap.size) #[.int .i64 0, .slice none 0 0] 31 rfl rfl) |>.set 2 rfl |>.set 2 rfl).row.cell 0 2 rfl rfl, ((hCb.out.al (wb.heap.size) #[.int .i64 0, .slice none 0 0] 31 rfl rfl) |>.set 2 rfl |>.set 2 rfl).row.cell 0 3 rfl rfl, trivial⟩)
        | (with_reducible refine And.intro (?_ : World.cell? (World.alloc (World.setCell (World.setCell (World.alloc wb _) _ _) _ _) _) _ = _) ?_; exact ((hCb.out.al (wb.heap.size) #[.int .i64 0, .slice none 0 0] 31 rfl rfl) |>.set 3 rfl |>.set 3 rfl).row.cell 0 0 rfl rfl; exact ⟨((hCb.out.al (wb.heap.size) #[.int .i64 0, .slice none 0 0] 31 rfl rfl) |>.set 3 rfl |>.set 3 rfl).row.cell 0 1 rfl rfl, ((hCb.out.al (wb.heap.size) #[.int .i64 0, .slice none 0 0] 31 rfl rfl) |>.set 3 rfl |>.set 3 rfl).row.cell 0 2 rfl rfl, ((hCb.out.al (wb.heap.size) #[.int .i64 0, .slice none 0 0] 31 rfl rfl) |>.set 3 rfl |>.set 3 rfl).row.cell 0 3 rfl rfl, trivial⟩)
        | (with_reducible refine And.intro (?_ : World.cell? (World.setCell (World.setCell (World.alloc (World.alloc wb _) _) _ _) _ _) _ = _) ?_; exact (((hCb.out.al (wb.heap.size) #[.int .i64 0, .slice none 0 0] 31 rfl rfl).al (wb.heap.size + 1) #[.int .i64 0, .slice none 0 0] 31 (by simp) rfl) |>.set 2 rfl |>.set 2 rfl).cell 0 0 rfl rfl; exact ⟨(((hCb.out.al (wb.heap.size) #[.int .i64 0, .slice none 0 0] 31 rfl rfl).al (wb.heap.size + 1) #[.int .i64 0, .slice none 0 0] 31 (by simp) rfl) |>.set 2 rfl |>.set 2 rfl).cell 0 1 rfl rfl, (((hCb.out.al (wb.heap.size) #[.int .i64 0, .slice none 0 0] 31 rfl rfl).al (wb.heap.size + 1) #[.int .i64 0, .slice none 0 0] 31 (by simp) rfl) |>.set 2 rfl |>.set 2 rfl).cell 0 2 rfl rfl, (((hCb.out.al (wb.heap.size) #[.int .i64 0, .slice none 0 0] 31 rfl rfl).al (wb.heap.size + 1) #[.int .i64 0, .slice none 0 0] 31 (by simp) rfl) |>.set 2 rfl |>.set 2 rfl).cell 0 3 rfl rfl, trivial⟩)
        | (with_reducible refine And.intro (?_ : World.cell? (World.setCell (World.setCell (World.alloc (World.alloc wb _) _) _ _) _ _) _ = _) ?_; exact (((hCb.out.al (wb.heap.size) #[.int .i64 0, .slice none 0 0] 31 rfl rfl).al (wb.heap.size + 1) #[.int .i64 0, .slice none 0 0] 31 (by simp) rfl) |>.set 3 rfl |>.set 3 rfl).cell 0 0 rfl rfl; exact ⟨(((hCb.out.al (wb.heap.size) #[.int .i64 0, .slice none 0 0] 31 rfl rfl).al (wb.heap.size + 1) #[.int .i64 0, .slice none 0 0] 31 (by simp) rfl) |>.set 3 rfl |>.set 3 rfl).cell 0 1 rfl rfl, (((hCb.out.al (wb.heap.size) #[.int .i64 0, .slice none 0 0] 31 rfl rfl).al (wb.heap.size + 1) #[.int .i64 0, .slice none 0 0] 31 (by simp) rfl) |>.set 3 rfl |>.set 3 rfl).cell 0 2 rfl rfl, (((hCb.out.al (wb.heap.size) #[.int .i64 0, .slice none 0 0] 31 rfl rfl).al (wb.heap.size + 1) #[.int .i64 0, .slice none 0 0] 31 (by simp) rfl) |>.set 3 rfl |>.set 3 rfl).cell 0 3 rfl rfl, trivial⟩)
        | (with_reducible refine And.intro (?_ : World.cell? (World.alloc (World.setCell (World.setCell wb _ _) _ _) _) _ = _) ?_; exact (hCb.out |>.set 2 rfl |>.set 2 rfl).row.cell 0 0 rfl rfl; exact ⟨(hCb.out |>.set 2 rfl |>.set 2 rfl).row.cell 0 1 rfl rfl, (hCb.out |>.set 2 rfl |>.set 2 rfl).row.cell 0 2 rfl rfl, (hCb.out |>.set 2 rfl |>.set 2 rfl).row.cell 0 3 rfl rfl, trivial⟩)
        | (with_reducible refine And.intro (?_ : World.cell? (World.alloc (World.setCell (World.setCell wb _ _) _ _) _) _ = _) ?_; exact (hCb.out |>.set 3 rfl |>.set 3 rfl).row.cell 0 0 rfl rfl; exact ⟨(hCb.out |>.set 3 rfl |>.set 3 rfl).row.cell 0 1 rfl rfl, (hCb.out |>.set 3 rfl |>.set 3 rfl).row.cell 0 2 rfl rfl, (hCb.out |>.set 3 rfl |>.set 3 rfl).row.cell 0 3 rfl rfl, trivial⟩)
        | (with_reducible refine And.intro (?_ : World.cell? (World.setCell (World.setCell (World.alloc wb _) _ _) _ _) _ = _) ?_; exact ((hCb.out.al (wb.heap.size) #[.int .i64 0, .slice none 0 0] 31 rfl rfl) |>.set 2 rfl |>.set 2 rfl).cell 0 0 rfl rfl; exact ⟨((hCb.out.al (wb.heap.size) #[.int .i64 0, .slice none 0 0] 31 rfl rfl) |>.set 2 rfl |>.set 2 rfl).cell 0 1 rfl rfl, ((hCb.out.al (wb.heap.size) #[.int .i64 0, .slice none 0 0] 31 rfl rfl) |>.set 2 rfl |>.set 2 rfl).cell 0 2 rfl rfl, ((hCb.out.al (wb.heap.size) #[.int .i64 0, .slice none 0 0] 31 rfl rfl) |>.set 2 rfl |>.set 2 rfl).cell 0 3 rfl rfl, trivial⟩)
        | (with_reducible refine And.intro (?_ : World.cell? (World.setCell (World.setCell (World.alloc wb _) _ _) _ _) _ = _) ?_; exact ((hCb.out.al (wb.heap.size) #[.int .i64 0, .slice none 0 0] 31 rfl rfl) |>.set 3 rfl |>.set 3 rfl).cell 0 0 rfl rfl; exact ⟨((hCb.out.al (wb.heap.size) #[.int .i64 0, .slice none 0 0] 31 rfl rfl) |>.set 3 rfl |>.set 3 rfl).cell 0 1 rfl rfl, ((hCb.out.al (wb.heap.size) #[.int .i64 0, .slice none 0 0] 31 rfl rfl) |>.set 3 rfl |>.set 3 rfl).cell 0 2 rfl rfl, ((hCb.out.al (wb.heap.size) #[.int .i64 0, .slice none 0 0] 31 rfl rfl) |>.set 3 rfl |>.set 3 rfl).cell 0 3 rfl rfl, trivial⟩)
        | (with_reducible refine And.intro (?_ : World.cell? (World.setCell (World.setCell wb _ _) _ _) _ = _) ?_; exact (hCb.out |>.set 2 rfl |>.set 2 rfl).cell 0 0 rfl rfl; exact ⟨(hCb.out |>.set 2 rfl |>.set 2 rfl).cell 0 1 rfl rfl, (hCb.out |>.set 2 rfl |>.set 2 rfl).cell 0 2 rfl rfl, (hCb.out |>.set 2 rfl |>.set 2 rfl).cell 0 3 rfl rfl, trivial⟩)
        | (with_reducible refine And.intro (?_ : World.cell? (World.setCell (World.setCell wb _ _) _ _) _ = _) ?_; exact (hCb.out |>.set 3 rfl |>.set 3 rfl).cell 0 0 rfl rfl; exact ⟨(hCb.out |>.set 3 rfl |>.set 3 rfl).cell 0 1 rfl rfl, (hCb.out |>.set 3 rfl |>.set 3 rfl).cell 0 2 rfl rfl, (hCb.out |>.set 3 rfl |>.set 3 rfl).cell 0 3 rfl rfl, trivial⟩)
        | (with_reducible refine And.intro (?_ : World.cell? (World.alloc (World.alloc wb _) _) _ = _) ?_; exact ((hCb.out.al (wb.heap.size) #[.int .i64 0, .slice none 0 0] 31 rfl rfl).al (wb.heap.size + 1) #[.int .i64 0, .slice none 0 0] 31 (by simp) rfl).cell 0 0 rfl rfl; exact ⟨((hCb.out.al (wb.heap.size) #[.int .i64 0, .slice none 0 0] 31 rfl rfl).al (wb.heap.size + 1) #[.int .i64 0, .slice none 0 0] 31 (by simp) rfl).cell 0 1 rfl rfl, ((hCb.out.al (wb.heap.size) #[.int .i64 0, .slice none 0 0] 31 rfl rfl).al (wb.heap.size + 1) #[.int .i64 0, .slice none 0 0] 31 (by simp) rfl).cell 0 2 rfl rfl, ((hCb.out.al (wb.heap.size) #[.int .i64 0, .slice none 0 0] 31 rfl rfl).al (wb.heap.size + 1) #[.int .i64 0, .slice none 0 0] 31 (by simp) rfl).cell 0 3 rfl rfl, trivial⟩)
        | (with_reducible refine And.intro (?_ : World.cell? (World.alloc wb _) _ = _) ?_; exact (hCb.out.al (wb.heap.size) #[.int .i64 0, .slice none 0 0] 31 rfl rfl).cell 0 0 rfl rfl; exact ⟨(hCb.out.al (wb.heap.size) #[.int .i64 0, .slice none 0 0] 31 rfl rfl).cell 0 1 rfl rfl, (hCb.out.al (wb.heap.size) #[.int .i64 0, .slice none 0 0] 31 rfl rfl).cell 0 2 rfl rfl, (hCb.out.al (wb.heap.size) #[.int .i64 0, .slice none 0 0] 31 rfl rfl).cell 0 3 rfl rfl, trivial⟩)
        | (with_reducible refine And.intro (?_ : World.cell? wb _ = _) ?_; exact hCb.out.cell 0 0 rfl rfl; exact ⟨hCb.out.cell 0 1 rfl rfl, hCb.out.cell 0 2 rfl rfl, hCb.out.cell 0 3 rfl rfl, trivial⟩)
        | (with_reducible refine And.intro (?_ : World.cell? (World.alloc (World.alloc wa _) _) _ = _) ?_; exact ((hCa.out.al (wa.heap.size) #[.int .i64 0, .slice none 0 0] 31 rfl rfl).al (wa.heap.size + 1) #[.int .i64 0, .slice none 0 0] 31 (by simp) rfl).cell 0 0 rfl rfl; exact ⟨((hCa.out.al (wa.heap.size) #[.int .i64 0, .slice none 0 0] 31 rfl rfl).al (wa.heap.size + 1) #[.int .i64 0, .slice none 0 0] 31 (by simp) rfl).cell 0 1 rfl rfl, ((hCa.out.al (wa.heap.size) #[.int .i64 0, .slice none 0 0] 31 rfl rfl).al (wa.heap.size + 1) #[.int .i64 0, .slice none 0 0] 31 (by simp) rfl).cell 0 2 rfl rfl, ((hCa.out.al (wa.heap.size) #[.int .i64 0, .slice none 0 0] 31 rfl rfl).al (wa.heap.size + 1) #[.int .i64 0, .slice none 0 0] 31 (by simp) rfl).cell 0 3 rfl rfl, trivial⟩)
        | (with_reducible refine And.intro (?_ : World.cell? (World.alloc wa _) _ = _) ?_; exact (hCa.out.al (wa.heap.size) #[.int .i64 0, .slice none 0 0] 31 rfl rfl).cell 0 0 rfl rfl; exact ⟨(hCa.out.al (wa.heap.size) #[.int .i64 0, .slice none 0 0] 31 rfl rfl).cell 0 1 rfl rfl, (hCa.out.al (wa.heap.size) #[.int .i64 0, .slice none 0 0] 31 rfl rfl).cell 0 2 rfl rfl, (hCa.out.al (wa.heap.size) #[.int .i64 0, .slice none 0 0] 31 rfl rfl).cell 0 3 rfl rfl, trivial⟩)
        | (with_reducible refine And.intro (?_ : World.cell? wa _ = _) ?_; exact hCa.out.cell 0 0 rfl rfl; exact ⟨hCa.out.cell 0 1 rfl rfl, hCa.out.cell 0 2 rfl rfl, hCa.out.cell 0 3 rfl rfl, trivial⟩)
        | (with_reducible refine And.intro (?_ : World.cell? (World.drew (World.alloc (World.alloc W1 _) _)) _ = _) ?_; exact ((hC.out.al (W1.heap.size) #[.int .i64 0, .slice none 0 0] 31 rfl rfl).al (W1.heap.size + 1) #[.int .i64 0, .slice none 0 0] 31 (by simp) rfl).drew.cell 0 0 rfl rfl; exact ⟨((hC.out.al (W1.heap.size) #[.int .i64 0, .slice none 0 0] 31 rfl rfl).al (W1.heap.size + 1) #[.int .i64 0, .slice none 0 0] 31 (by simp) rfl).drew.cell 0 1 rfl rfl, ((hC.out.al (W1.heap.size) #[.int .i64 0, .slice none 0 0] 31 rfl rfl).al (W1.heap.size + 1) #[.int .i64 0, .slice none 0 0] 31 (by simp) rfl).drew.cell 0 2 rfl rfl, ((hC.out.al (W1.heap.size) #[.int .i64 0, .slice none 0 0] 31 rfl rfl).al (W1.heap.size + 1) #[.int .i64 0, .slice none 0 0] 31 (by simp) rfl).drew.cell 0 3 rfl rfl, trivial⟩)
        | (with_reducible refine And.intro (?_ : World.cell? (World.drew (World.alloc W1 _)) _ = _) ?_; exact (hC.out.al (W1.heap.size) #[.int .i64 0, .slice none 0 0] 31 rfl rfl).drew.cell 0 0 rfl rfl; exact ⟨(hC.out.al (W1.heap.size) #[.int .i64 0, .slice none 0 0] 31 rfl rfl).drew.cell 0 1 rfl rfl, (hC.out.al (W1.heap.size) #[.int .i64 0, .slice none 0 0] 31 rfl rfl).drew.cell 0 2 rfl rfl, (hC.out.al (W1.heap.size) #[.int .i64 0, .slice none 0 0] 31 rfl rfl).drew.cell 0 3 rfl rfl, trivial⟩)
        | (with_reducible refine And.intro (?_ : World.cell? (World.drew W1) _ = _) ?_; exact hC.out.drew.cell 0 0 rfl rfl; exact ⟨hC.out.drew.cell 0 1 rfl rfl, hC.out.drew.cell 0 2 rfl rfl, hC.out.drew.cell 0 3 rfl rfl, trivial⟩)
        | (with_reducible refine And.intro (?_ : World.cell? (World.alloc (World.alloc wb _) _) _ = _) ?_; exact hCb.out.row.row.cell 0 0 rfl rfl; exact ⟨hCb.out.row.row.cell 0 1 rfl rfl, hCb.out.row.row.cell 0 2 rfl rfl, hCb.out.row.row.cell 0 3 rfl rfl, trivial⟩)
        | (with_reducible refine And.intro (?_ : World.cell? (World.alloc wb _) _ = _) ?_; exact hCb.out.row.cell 0 0 rfl rfl; exact ⟨hCb.out.row.cell 0 1 rfl rfl, hCb.out.row.cell 0 2 rfl rfl, hCb.out.row.cell 0 3 rfl rfl, trivial⟩))
      (first
        | (have _t := hCa; go_at_call 20; (first | (have P := (hCa.out.rq 0 rfl).n; have P2 := hCa.out.n 1 rfl; (with_reducible refine (zquotN_b P P2 HD.out B1.out.num B1.out.den HK1.out HK1.out).mono ?_); rintro e wb ⟨s4, a4, n4, c4, s5, a5, n5, c5, rfl, hz, hr, hb⟩; have hCb := Lib.hid ((hCa.out.call hb).pn hz); clear hz hb P P2 hr) | (have P := ((hCa.out.al (wa.heap.size) #[.int .i64 0, .slice none 0 0] 31 rfl rfl).rq 0 rfl).n; have P2 := (hCa.out.al (wa.heap.size) #[.int .i64 0, .slice none 0 0] 31 rfl rfl).n 1 rfl; (with_reducible refine (zquotN_b P P2 HD.out B1.out.num B1.out.den HK1.out HK1.out).mono ?_); rintro e wb ⟨s4, a4, n4, c4, s5, a5, n5, c5, rfl, hz, hr, hb⟩; have hCb := Lib.hid (((hCa.out.al (wa.heap.size) #[.int .i64 0, .slice none 0 0] 31 rfl rfl).call hb).pn hz); clear hz hb P P2 hr) | (have P := (((hCa.out.al (wa.heap.size) #[.int .i64 0, .slice none 0 0] 31 rfl rfl).al (wa.heap.size + 1) #[.int .i64 0, .slice none 0 0] 31 (by simp) rfl).rq 0 rfl).n; have P2 := ((hCa.out.al (wa.heap.size) #[.int .i64 0, .slice none 0 0] 31 rfl rfl).al (wa.heap.size + 1) #[.int .i64 0, .slice none 0 0] 31 (by simp) rfl).n 1 rfl; (with_reducible refine (zquotN_b P P2 HD.out B1.out.num B1.out.den HK1.out HK1.out).mono ?_); rintro e wb ⟨s4, a4, n4, c4, s5, a5, n5, c5, rfl, hz, hr, hb⟩; have hCb := Lib.hid ((((hCa.out.al (wa.heap.size) #[.int .i64 0, .slice none 0 0] 31 rfl rfl).al (wa.heap.size + 1) #[.int .i64 0, .slice none 0 0] 31 (by simp) rfl).call hb).pn hz); clear hz hb P P2 hr)); (try have c20 := hCb.out.cell 2 0 rfl rfl); (try have c21 := hCb.out.cell 2 1 rfl rfl); (try have c30 := hCb.out.cell 3 0 rfl rfl); (try have c31 := hCb.out.cell 3 1 rfl rfl); (try have f20 := hCb.out.free 2 0 rfl); (try have f21 := hCb.out.free 2 1 rfl); (try have f30 := hCb.out.free 3 0 rfl); (try have f31 := hCb.out.free 3 1 rfl); (try have l2 := hCb.out.lt 2 rfl); (try have l3 := hCb.out.lt 3 rfl); (try have l23 := hCb.out.apart 2 3 rfl rfl (by omega)); (try have l32 := (hCb.out.apart 2 3 rfl rfl (by omega)).symm); clear _t hCa)
        | (have _t := hC; go_at_call 59; (first | (have P := (hC.out.drew).rq 0 rfl; (with_reducible refine (denN_b P).mono ?_); rintro e wa ⟨s3, a3, n3, c3, rfl, hz, hb⟩; have hCa := Lib.hid ((hC.out.drew.call hb).pn hz); clear hz hb P) | (have P := ((hC.out.al (W1.heap.size) #[.int .i64 0, .slice none 0 0] 31 rfl rfl).drew).rq 0 rfl; (with_reducible refine (denN_b P).mono ?_); rintro e wa ⟨s3, a3, n3, c3, rfl, hz, hb⟩; have hCa := Lib.hid (((hC.out.al (W1.heap.size) #[.int .i64 0, .slice none 0 0] 31 rfl rfl).drew.call hb).pn hz); clear hz hb P) | (have P := (((hC.out.al (W1.heap.size) #[.int .i64 0, .slice none 0 0] 31 rfl rfl).al (W1.heap.size + 1) #[.int .i64 0, .slice none 0 0] 31 (by simp) rfl).drew).rq 0 rfl; (with_reducible refine (denN_b P).mono ?_); rintro e wa ⟨s3, a3, n3, c3, rfl, hz, hb⟩; have hCa := Lib.hid ((((hC.out.al (W1.heap.size) #[.int .i64 0, .slice none 0 0] 31 rfl rfl).al (W1.heap.size + 1) #[.int .i64 0, .slice none 0 0] 31 (by simp) rfl).drew.call hb).pn hz); clear hz hb P)); clear _t hC)
        | fail)
    all_goals (go_wp2_with fail; go_meet)
    all_goals (first
      | (refine ⟨_, s4, a4, n4, c4, rfl, ?_⟩; (with_reducible refine (?_ : Hid (St w (World.alloc (World.alloc wb _) _) _ _))); exact Lib.hid (St.pick (St.bpick ((hCb.out.al (wb.heap.size) #[.int .i64 s4, .slice a4 n4 c4] 31 rfl rfl).al (wb.heap.size + 1) #[.int .i64 s5, .slice a5 n5 c5] 31 (by simp) rfl) [0, 1, 2] (by decide) rfl) [2] rfl))
      | (refine ⟨_, s4, a4, n4, c4, rfl, ?_⟩; (with_reducible refine (?_ : Hid (St w (World.alloc (World.setCell (World.setCell wb _ _) _ _) _) _ _))); exact Lib.hid (St.pick (St.bpick ((hCb.out |>.set 2 rfl |>.set 2 rfl).al (wb.heap.size) #[.int .i64 s5, .slice a5 n5 c5] 31 (by simp [World.setCell]) rfl) [0, 1, 2] (by decide) rfl) [2] rfl))
      | (refine ⟨_, s4, a4, n4, c4, rfl, ?_⟩; (with_reducible refine (?_ : Hid (St w (World.alloc (World.alloc wb _) _) _ _))); exact Lib.hid (St.pick (St.bpick ((hCb.out.al (wb.heap.size) #[.int .i64 s5, .slice a5 n5 c5] 31 rfl rfl).al (wb.heap.size + 1) #[.int .i64 s4, .slice a4 n4 c4] 31 (by simp) rfl) [0, 1, 3] (by decide) rfl) [2] rfl))
      | (refine ⟨_, s4, a4, n4, c4, rfl, ?_⟩; (with_reducible refine (?_ : Hid (St w (World.alloc (World.setCell (World.setCell wb _ _) _ _) _) _ _))); exact Lib.hid (St.pick (St.bpick ((hCb.out |>.set 2 rfl |>.set 2 rfl).al (wb.heap.size) #[.int .i64 s4, .slice a4 n4 c4] 31 (by simp [World.setCell]) rfl) [0, 1, 3] (by decide) rfl) [2] rfl))
      | (refine ⟨_, s4, a4, n4, c4, rfl, ?_⟩; (with_reducible refine (?_ : Hid (St w (World.setCell (World.setCell (World.setCell (World.setCell wb _ _) _ _) _ _) _ _) _ _))); exact Lib.hid (St.pick (St.bpick ((hCb.out |>.set 2 rfl |>.set 2 rfl) |>.set 3 rfl |>.set 3 rfl) [0, 1, 2] (by decide) rfl) [2] rfl))
      | (refine ⟨_, s4, a4, n4, c4, rfl, ?_⟩; (with_reducible refine (?_ : Hid (St w (World.setCell (World.setCell (World.setCell (World.setCell wb _ _) _ _) _ _) _ _) _ _))); exact Lib.hid (St.pick (St.bpick ((hCb.out |>.set 3 rfl |>.set 3 rfl) |>.set 2 rfl |>.set 2 rfl) [0, 1, 3] (by decide) rfl) [2] rfl)))
  case rest =>
    obtain ⟨bx, s4, a4, n4, c4, rfl, hD⟩ := hcut
    clear hC
    have hD_c10 := hD.out.cell 1 0 rfl rfl
    have hD_f10 := hD.out.free 1 0 rfl
    have hD_c11 := hD.out.cell 1 1 rfl rfl
    have hD_f11 := hD.out.free 1 1 rfl
    have hD_c20 := hD.out.cell 2 0 rfl rfl
    have hD_f20 := hD.out.free 2 0 rfl
    have hD_c21 := hD.out.cell 2 1 rfl rfl
    have hD_f21 := hD.out.free 2 1 rfl
    go_wp2
    refine ret_st (hD.out |>.set 1 rfl |>.set 1 rfl) (v := .agg #[.int .i64 s4, .slice a4 n4 c4]) (fun hF => ?_) rfl (fun hF => ⟨_, _, _, _, rfl, hF.n 0 rfl, hF.be⟩)
    · have e0 := hF.cell 1 0 rfl rfl
      have e1 := hF.cell 1 1 rfl rfl
      simp [results, Tryz.results61, go_sem, e0, e1]

section
variable {w : World} {s1 : Int} {a1 : Option Addr} {n1 c1 : Nat} {t1 : Int} {d1 : Option Addr} {e1 f1 : Nat} {q1 : Rat} {s2 : Int} {a2 : Option Addr} {n2 c2 : Nat} {t2 : Int} {d2 : Option Addr} {e2 f2 : Nat} {q2 : Rat} {k1 k2 : Nat}
theorem rfloorN_b (h1 : Nq w s1 (.slice a1 n1 c1) t1 (.slice d1 e1 f1) q1) (b1 : Bq k1 q1) (hk1 : k1 ≤ 40000) :
    Calls Tryz.prog 61 #[.agg #[.int .i64 s1, .slice a1 n1 c1, .int .i64 t1, .slice d1 e1 f1]] w (RetN w q1.floor) := by
  rw [← floor_eq]; exact rfloorN_any _ _ _ _ _ _ _ _ _ _ h1 k1 b1 hk1
theorem rsubN_b (h1 : Nq w s1 (.slice a1 n1 c1) t1 (.slice d1 e1 f1) q1) (h2 : Nq w s2 (.slice a2 n2 c2) t2 (.slice d2 e2 f2) q2) (b1 : Bq k1 q1) (b2 : Bq k2 q2) (hk1 : k1 ≤ 40000) (hk2 : k2 ≤ 40000) :
    Calls Tryz.prog 70 #[.agg #[.int .i64 s1, .slice a1 n1 c1, .int .i64 t1, .slice d1 e1 f1], .agg #[.int .i64 s2, .slice a2 n2 c2, .int .i64 t2, .slice d2 e2 f2]] w (RetNQ w (q1 - q2)) := by
  rw [Rat.sub_eq_add_neg]; exact rsubN_any _ _ _ _ _ _ _ _ _ _ _ _ _ _ _ _ _ _ _ h1 h2 k1 k2 b1 b2 hk1 hk2
theorem rabsN_b (h1 : Nq w s1 (.slice a1 n1 c1) t1 (.slice d1 e1 f1) q1) : Calls Tryz.prog 76 #[.agg #[.int .i64 s1, .slice a1 n1 c1, .int .i64 t1, .slice d1 e1 f1]] w (RetNQ w q1.abs) := rabsN_any _ _ _ _ _ _ _ _ _ _ h1
theorem sgnN_num (q : Rat) : sgnN q.num = sgnQ q := by
  have h := sgn_cross q 0
  rw [show (0 : Rat).den = 1 from rfl, show (0 : Rat).num = 0 from rfl, show (q.num * ((1 : Nat) : Int) - 0 * (q.den : Int)) = q.num by simp] at h
  exact h
theorem rsignN_is {v : Int} (h1 : Nq w s1 (.slice a1 n1 c1) t1 (.slice d1 e1 f1) q1) (hv : sgnQ q1 = v) : Calls Tryz.prog 65 #[.agg #[.int .i64 s1, .slice a1 n1 c1, .int .i64 t1, .slice d1 e1 f1]] w fun e w' => e = .returned (.int .i64 v) ∧ Below w.heap.size w w' := by
  subst hv; rw [← sgnN_num]; exact rsignN_any _ _ _ _ _ _ _ _ _ _ h1
theorem rcmpN_is {v : Int} (h1 : Nq w s1 (.slice a1 n1 c1) t1 (.slice d1 e1 f1) q1) (h2 : Nq w s2 (.slice a2 n2 c2) t2 (.slice d2 e2 f2) q2) (b1 : Bq k1 q1) (b2 : Bq k2 q2) (hk1 : k1 ≤ 40000) (hk2 : k2 ≤ 40000) (hv : cmpQ q1 q2 = v) :
    Calls Tryz.prog 77 #[.agg #[.int .i64 s1, .slice a1 n1 c1, .int .i64 t1, .slice d1 e1 f1], .agg #[.int .i64 s2, .slice a2 n2 c2, .int .i64 t2, .slice d2 e2 f2]] w fun e w' => e = .returned (.int .i64 v) ∧ Below w.heap.size w w' := by
  subst hv; rw [← sgn_cross]; exact rcmpN_any _ _ _ _ _ _ _ _ _ _ _ _ _ _ _ _ _ _ _ h1 h2 k1 k2 b1 b2 hk1 hk2
end

set_option maxRecDepth 100000 in
set_option maxHeartbeats 2000000 in
theorem rceilN_any (s1 : Int) (a1 : Option Addr) (n1 c1 : Nat) (t1 : Int) (d1 : Option Addr) (e1 f1 : Nat) (q1 : Rat) (w : World) (h1 : Nq w s1 (.slice a1 n1 c1) t1 (.slice d1 e1 f1) q1) (k1 : Nat) (b1 : Bq k1 q1) (hk1 : k1 ≤ 40000) :
    Calls Tryz.prog 63 #[.agg #[.int .i64 s1, .slice a1 n1 c1, .int .i64 t1, .slice d1 e1 f1]] w (RetN w (-((-q1).floor))) := by
  have B1 := Lib.hid b1
  clear b1
  have hC := Lib.hid ((((St.enter w).pq h1).al (w.heap.size) #[.int .i64 s1, .slice a1 n1 c1, .int .i64 t1, .slice d1 e1 f1] 54 rfl rfl).al (w.heap.size + 1) #[.int .i64 0, .slice none 0 0] 31 (by simp) rfl)
  clear h1
  go_enter Tryz.func63, Tryz.ntmps63
  have hC_c00 := hC.out.cell 0 0 rfl rfl
  have hC_f00 := hC.out.free 0 0 rfl
  have hC_c01 := hC.out.cell 0 1 rfl rfl
  have hC_f01 := hC.out.free 0 1 rfl
  have hC_c02 := hC.out.cell 0 2 rfl rfl
  have hC_f02 := hC.out.free 0 2 rfl
  have hC_c03 := hC.out.cell 0 3 rfl rfl
  have hC_f03 := hC.out.free 0 3 rfl
  go_wp2_with fail
  refine (rnegN_b (hC.out.rq 0 rfl)).mono ?_
  rintro e w3 ⟨s3, a3, n3, c3, t3, d3, e3, f3, rfl, hz, hb⟩
  have hC3 := Lib.hid ((hC.out.call hb).pq hz)
  clear hb hz
  clear hC
  go_wp2_with fail
  refine (rfloorN_b (hC3.out.rq 1 rfl) B1.out.neg (by omega)).mono ?_
  rintro e w4 ⟨s4, a4, n4, c4, rfl, hz, hb⟩
  have hC4 := Lib.hid ((hC3.out.call hb).pn hz)
  clear hb hz
  clear hC3
  go_wp2_with fail
  refine (negN_b (hC4.out.n 2 rfl)).mono ?_
  rintro e w5 ⟨s5, a5, n5, c5, rfl, hz, hb⟩
  have hC5 := Lib.hid ((hC4.out.call hb).pn hz)
  clear hb hz
  clear hC4
  have hC5_c10 := hC5.out.cell 1 0 rfl rfl
  have hC5_f10 := hC5.out.free 1 0 rfl
  have hC5_c11 := hC5.out.cell 1 1 rfl rfl
  have hC5_f11 := hC5.out.free 1 1 rfl
  go_wp2
  refine ret_st (hC5.out |>.set 1 rfl |>.set 1 rfl) (v := .agg #[.int .i64 s5, .slice a5 n5 c5]) (fun hF => ?_) rfl (fun hF => ⟨_, _, _, _, rfl, hF.n 3 rfl, hF.be⟩)
  · have e0 := hF.cell 1 0 rfl rfl
    have e1 := hF.cell 1 1 rfl rfl
    simp [results, Tryz.results63, go_sem, e0, e1]


end Go.Proofs.YtmfplelodnoicaaGreatDoor

/- the library's Contains, gang.ProveDays, the law GangProves -/
import Derived.Test.YteogibpmpppgmaaGreatK22
import Derived.Test.YteogibpmpppgmaaGreatK23
import Derived.Test.YteogibpmpppgmaaGreatH12
namespace Go.Proofs.YteogibpmpppgmaaGreat
open Go.RowKit
section
variable (w : World)
set_option maxHeartbeats 2000000 in
set_option maxRecDepth 100000 in
theorem intIndex_any (a : Option Addr) (n c : Nat) (F : List Int) (v : Int) (hs : Sx 1 w a n c (L1 F)) :
    Calls Tryz.prog 107 #[.slice a n c, .int .i64 v] w fun e w' => w' = w ∧ ∃ r : Int, e = .returned (.int .i64 r) ∧ decide (0 ≤ r) = F.any (fun f => decide (f = v)) := by
  have hcap := hs.cap
  unfold maxLen at hcap
  obtain rfl := hs.n1
  have HS := Lib.hid hs
  clear hs
  go_enter Tryz.func107, Tryz.ntmps107
  go_wp2
  go_loop [8] (fun iv => ∃ j : Nat, j ≤ F.length ∧ iv = .int .i64 j ∧ Hid ((F.take j).any (fun f => decide (f = v)) = false)) (fun iv => F.length - (intOf iv).toNat)
  case atStart => exact ⟨0, Nat.zero_le _, rfl, Lib.hid rfl⟩
  case round =>
    obtain ⟨j, hj, rfl, HF⟩ := hrel
    by_cases hjl : j < F.length
    · have hjj : (j : Int) < (F.length : Int) := by omega
      have j0 : (0 : Int) ≤ (j : Int) := by omega
      obtain ⟨g1, o1, rfl⟩ := HS.out.addr (by omega)
      have y1 := HS.out.at1 hjl
      have HT := Lib.hid (any_take2 (fun f => decide (f = v)) hjl)
      have HM := Lib.hid (List.getElem_mem hjl)
      rw [HF.out, Bool.false_or] at HT
      generalize F[j] = f at *
      by_cases ef : f = v
      · subst ef
        go_wp2
        go_ret
        exact ⟨rfl, _, rfl, by rw [decide_eq_true (by omega), List.any_eq_true.2 ⟨_, HM.out, by simp⟩]⟩
      · have e1 : ¬ v = f := fun h => ef h.symm
        have e2 : (v == f) = false := beq_eq_false_iff_ne.2 e1
        go_wp2
        go_round
        case rel => exact ⟨j + 1, by omega, by go_num, Lib.hid (by rw [HT.out]; exact decide_eq_false ef)⟩
        case measure => simp [intOf]; omega
    · have hjj : ¬ (j : Int) < (F.length : Int) := by omega
      rw [List.take_of_length_le (show F.length ≤ j by omega)] at HF
      go_wp2
      go_ret
      exact ⟨rfl, _, rfl, by rw [HF.out]; rfl⟩
set_option maxHeartbeats 2000000 in
set_option maxRecDepth 100000 in
theorem intContains_any (a : Option Addr) (n c : Nat) (F : List Int) (v : Int) (hs : Sx 1 w a n c (L1 F)) :
    Calls Tryz.prog 64 #[.slice a n c, .int .i64 v] w fun e w' => e = .returned (.bool (F.any (fun f => decide (f = v)))) ∧ w' = w := by
  have HI := Lib.hid (intIndex_any w a n c F v hs)
  clear hs
  generalize F.any (fun f => decide (f = v)) = b at *
  go_enter Tryz.func64, Tryz.ntmps64
  go_wp2_with fail
  refine HI.out.mono ?_
  rintro e V ⟨rfl, r, rfl, hr⟩
  cases b
  · have h1 : ¬ 0 ≤ r := of_decide_eq_false hr
    go_wp2
    go_ret
    exact ⟨rfl, rfl⟩
  · have h1 : 0 ≤ r := of_decide_eq_true hr
    go_wp2
    go_ret
    exact ⟨rfl, rfl⟩
set_option maxHeartbeats 8000000 in
set_option maxRecDepth 100000 in
theorem proveDays_any (a1 a2 a4 : Option Addr) (n1 c1 n2 c2 n4 c4 : Nat) (L days : Int) (F : List Int) (l : List WL) (st : List I3) (hs1 : Sx 1 w a1 n1 c1 (L1 F)) (hs2 : Sx 3 w a2 n2 c2 (LW l)) (hs4 : Sx 3 w a4 n4 c4 (L3 st)) (hn : ∀ x ∈ l, x.1.size ≤ maxLen) :
    Calls Tryz.prog 21 #[.int .i64 L, .slice a1 n1 c1, .slice a2 n2 c2, .int .i64 days, .slice a4 n4 c4] w (Gives (.bool (rightB L F l && provesG F L (pacesOf l) days st)) w) := by
  have cap1 := hs1.cap
  have cap4 := hs4.cap
  unfold maxLen at cap1 cap4
  obtain rfl := hs1.n1
  obtain rfl := hs2.nW
  obtain rfl := hs4.n3
  have HS1 := Lib.hid hs1
  have HS2 := Lib.hid hs2
  have HS4 := Lib.hid hs4
  have HWR := Lib.hid (fun W (h : Below w.heap.size w W) => wrong_any W a1 a2 _ c1 _ c2 L F l (HS1.out.below h) (HS2.out.below h) hn)
  have HN := Lib.hid hn
  clear hs1 hs2 hs4 hn
  obtain ⟨ans, hans⟩ : ∃ ans, (rightB L F l && provesG F L (pacesOf l) days st) = ans := ⟨_, rfl⟩
  rw [hans]
  have hA0 := Lib.hid ((Sy.enter w).al w.heap.size #[.int .i64 L, .slice a1 F.length c1, .slice a2 l.length c2] 119 rfl)
  cases hrb : rightB L F l
  · rw [hrb] at HWR
    have HG := Lib.hid (show ans = false from by rw [← hans, hrb]; rfl)
    clear hans hrb
    go_enter Tryz.func21, Tryz.ntmps21
    go_wp2_with fail
    refine (HWR.out _ hA0.out.be).mono ?_
    rintro e V ⟨rfl, hb⟩
    have hZ := Lib.hid (hA0.out.call hb)
    clear hb
    go_wp2
    go_ret
    exact ⟨ret_bool HG.out.symm, hZ.out.be⟩
  obtain ⟨hR, hF6, hg⟩ := rightB_iff.1 hrb
  have hl := (gangB_len hg).2
  have HP := Lib.hid (show ∀ x ∈ l, 1 ≤ x.2.1 ∧ x.2.1 ≤ 20000 from fun x hx => (gangB_row hg x hx).1)
  have HR := Lib.hid hR
  have hL1 := hR.1
  have hL2 := hR.2.1
  rw [hrb] at HWR
  have HAN := Lib.hid (show provesG F L (pacesOf l) days st = ans from by rw [← hans, hrb]; rfl)
  clear hans hrb hg hR
  by_cases hd1 : days < 1
  · have HG := Lib.hid (show ans = false from by rw [← HAN.out]; unfold provesG; rw [decide_eq_false (show ¬ 1 ≤ days by omega)]; rfl)
    go_enter Tryz.func21, Tryz.ntmps21
    go_wp2_with fail
    refine (HWR.out _ hA0.out.be).mono ?_
    rintro e V ⟨rfl, hb⟩
    have hZ := Lib.hid (hA0.out.call hb)
    clear hb
    go_wp2
    go_ret
    exact ⟨ret_bool HG.out.symm, hZ.out.be⟩
  by_cases hs0 : st.length = 0
  · have HG := Lib.hid (show ans = false from by
      rw [← HAN.out, List.eq_nil_of_length_eq_zero hs0]
      unfold provesG divOk
      rw [decide_eq_false (show ¬ 0 = L by omega)]
      simp)
    go_enter Tryz.func21, Tryz.ntmps21
    go_wp2_with fail
    refine (HWR.out _ hA0.out.be).mono ?_
    rintro e V ⟨rfl, hb⟩
    have hZ := Lib.hid (hA0.out.call hb)
    clear hb
    go_wp2
    go_ret
    exact ⟨ret_bool HG.out.symm, hZ.out.be⟩
  have hs1 : ¬ (st.length : Int) = 0 := by omega
  have hs2 : ((st.length : Int) == 0) = false := beq_eq_false_iff_ne.2 hs1
  have w0 : IntKind.i64.wrap (2 * L) = 2 * L := IntWalk.i64_in _ (by omega)
  obtain ⟨d, hd⟩ : ∃ d, min days (2 * L) = d := ⟨_, rfl⟩
  have hdb : 1 ≤ d ∧ d ≤ 200000 := by omega
  have HAN2 := Lib.hid (show (divOk F L (pacesOf l) d 0 (-1) st && decide (reachOf (endsOf F L) (pacesOf l) (d - 1) < L)) = ans from by
    rw [← HAN.out]; unfold provesG; rw [decide_eq_true (show 1 ≤ days by omega), Bool.true_and, hd])
  obtain ⟨dv, hdvv⟩ : ∃ dv, divOk F L (pacesOf l) d 0 (-1) st = dv := ⟨_, rfl⟩
  rw [hdvv] at HAN2
  clear HAN hs0
  go_enter Tryz.func21, Tryz.ntmps21
  go_wp2_with fail
  refine (HWR.out _ hA0.out.be).mono ?_
  rintro e V ⟨rfl, hb⟩
  have hA := Lib.hid (hA0.out.call hb)
  clear hb hA0 HWR
  go_wp2
  try rw [hd]
  go_loopw [12, 13, 40] (fun xv bv iv wr => ∃ (k : Nat) (x b : Int), k ≤ st.length ∧ xv = .int .i64 x ∧ bv = .int .i64 b ∧ iv = .int .i64 k ∧ 0 ≤ x ∧ x ≤ L ∧ -1 ≤ b ∧ Hid (divOk F L (pacesOf l) d x b (st.drop k) = dv) ∧ Hid (Sy w wr [(w.heap.size, #[.int .i64 L, .slice a1 F.length c1, .slice a2 l.length c2], 119)] [] [])) (fun _ _ iv _ => st.length - (intOf iv).toNat)
  case atStart => exact ⟨0, 0, -1, Nat.zero_le _, rfl, rfl, rfl, by omega, by omega, by omega, Lib.hid hdvv, hA⟩
  case round =>
    clear hdvv hA
    obtain ⟨k, x, b, hk, rfl, rfl, rfl, hx0, hxL, hb1, HD, hC⟩ := hrel
    by_cases hlt : k < st.length
    · have hkk : (k : Int) < (st.length : Int) := by omega
      have k0 : (0 : Int) ≤ (k : Int) := by omega
      obtain ⟨g4, o4, rfl⟩ := HS4.out.addr (by omega)
      obtain ⟨x0, x1, x2⟩ := (hC.out.sx HS4.out).at3 hlt
      have hdv := dv_at (F := F) (paces := pacesOf l) (L := L) (d := d) (x := x) (b := b) hlt
      rw [HD.out, paces_len] at hdv
      have HNO := Lib.hid (show (st[k].2.1 = x ∧ x < st[k].2.2 ∧ st[k].2.2 ∈ endsOf F L ∧ b < st[k].1 ∧ st[k].1 < l.length ∧ st[k].2.2 - st[k].2.1 ≤ (pacesOf l).getD st[k].1.toNat 0 * d → False) → ans = false from fun h => by
        have hz : dv = false := false_of fun ht => h (by
          obtain ⟨h1, h2, h3, h4, h5, h6, -⟩ := hdv.1 ht
          exact ⟨h1, h2, h3, h4, h5, h6⟩)
        rw [← HAN2.out, hz]; rfl)
      have HYS := Lib.hid (show (st[k].2.1 = x ∧ x < st[k].2.2 ∧ st[k].2.2 ∈ endsOf F L ∧ b < st[k].1 ∧ st[k].1 < l.length ∧ st[k].2.2 - st[k].2.1 ≤ (pacesOf l).getD st[k].1.toNat 0 * d) → divOk F L (pacesOf l) d st[k].2.2 st[k].1 (st.drop (k + 1)) = dv from fun ⟨h1, h2, h3, h4, h5, h6⟩ => by
        rw [Bool.eq_iff_iff, hdv]
        exact ⟨fun h7 => ⟨h1, h2, h3, h4, h5, h6, h7⟩, fun h7 => h7.2.2.2.2.2.2⟩)
      clear hdv HD
      generalize st[k] = s at *
      obtain ⟨u0, u1, u2⟩ := s
      dsimp only at x0 x1 x2 HNO HYS
      have hA := Lib.hid (hC.out.al wr.heap.size #[.int .i64 u0, .int .i64 u1, .int .i64 u2] 99 rfl)
      go_upto_region 9 with fail
      refine wp_geny hA.out ?_
      intro W hc
      have hS0 : Hid (Sy w W [(w.heap.size, #[.int .i64 L, .slice a1 F.length c1, .slice a2 l.length c2], 119), (wr.heap.size, #[.int .i64 u0, .int .i64 u1, .int .i64 u2], 99)] [] []) := Lib.hid hc
      clear hc hA hC x0 x1 x2
      generalize wr.heap.size = bS at *
      have s2 := hS0.out.cell 1 2 rfl rfl
      have HCO := Lib.hid (fun V (h : Below w.heap.size w V) => intContains_any V a1 _ c1 F u2 (HS1.out.below h))
      have HEN := Lib.hid (ends_any (F := F) (L := L) (u := u2))
      go_cut [16] (fun ev wx => ∃ en : Bool, ev = .bool en ∧ Hid (en = (decide (u2 = L) || F.any fun f => decide (f = u2))) ∧ Hid (Sy w wx [(w.heap.size, #[.int .i64 L, .slice a1 F.length c1, .slice a2 l.length c2], 119), (bS, #[.int .i64 u0, .int .i64 u1, .int .i64 u2], 99)] [] []))
      case first =>
        by_cases eL : u2 = L
        · have eL2 : (u2 == L) = true := beq_iff_eq.2 eL
          go_wp2
          go_meet
          exact ⟨true, by simp, Lib.hid (by rw [decide_eq_true eL]; rfl), hS0⟩
        · have eL2 : (u2 == L) = false := beq_eq_false_iff_ne.2 eL
          go_wp2_with ((with_reducible refine (HCO.out _ hS0.out.be).mono ?_); rintro e V ⟨rfl, rfl⟩)
          go_meet
          exact ⟨_, rfl, Lib.hid (by rw [decide_eq_false eL]; rfl), hS0⟩
      case rest =>
        obtain ⟨en, rfl, HE, hS⟩ := hcut
        clear hS0 s2 HCO
        go_upto_region 10 with fail
        have s0 := hS.out.cell 1 0 rfl rfl
        have s1 := hS.out.cell 1 1 rfl rfl
        have s2 := hS.out.cell 1 2 rfl rfl
        by_cases e1 : u1 = x
        rotate_left
        · have d1 := decide_eq_false e1
          have d2 : (u1 == x) = false := beq_eq_false_iff_ne.2 e1
          have d0 : (u1 != x) = true := bne_iff_ne.2 e1
          have HG := Lib.hid (HNO.out (fun h => e1 h.1))
          clear HNO HYS
          go_big_quiet (fail)
          have hZ := Lib.hid (hS.out.call (below_dN (Below.refl _ _) nq))
          go_wp2
          go_ret
          exact ⟨ret_bool HG.out.symm, hZ.out.be⟩
        subst e1
        have d0 : (u1 != u1) = false := by simp
        by_cases e2 : u2 ≤ u1
        · skip
          have HG := Lib.hid (HNO.out (fun h => by have := h.2.1; omega))
          clear HNO HYS
          go_big_quiet (fail)
          have hZ := Lib.hid (hS.out.call (below_dN (Below.refl _ _) nq))
          go_wp2
          go_ret
          exact ⟨ret_bool HG.out.symm, hZ.out.be⟩
        have d2 := decide_eq_false e2
        cases en
        · skip
          have HG := Lib.hid (HNO.out (fun h => by have h9 := HEN.out.2 h.2.2.1; rw [← HE.out] at h9; cases h9))
          clear HNO HYS
          go_big_quiet (fail)
          have hZ := Lib.hid (hS.out.call (below_dN (Below.refl _ _) nq))
          go_wp2
          go_ret
          exact ⟨ret_bool HG.out.symm, hZ.out.be⟩
        by_cases e4 : u0 ≤ b
        · skip
          have HG := Lib.hid (HNO.out (fun h => by have := h.2.2.2.1; omega))
          clear HNO HYS
          go_big_quiet (fail)
          have hZ := Lib.hid (hS.out.call (below_dN (Below.refl _ _) nq))
          go_wp2
          go_ret
          exact ⟨ret_bool HG.out.symm, hZ.out.be⟩
        have d4 := decide_eq_false e4
        by_cases e5 : (l.length : Int) ≤ u0
        · skip
          have HG := Lib.hid (HNO.out (fun h => by have := h.2.2.2.2.1; omega))
          clear HNO HYS
          go_big_quiet (fail)
          have hZ := Lib.hid (hS.out.call (below_dN (Below.refl _ _) nq))
          go_wp2
          go_ret
          exact ⟨ret_bool HG.out.symm, hZ.out.be⟩
        have d5 := decide_eq_false e5
        obtain ⟨j, rfl⟩ : ∃ j : Nat, u0 = j := ⟨u0.toNat, by omega⟩
        have hjl : j < l.length := by omega
        rw [Int.toNat_natCast, paces_at hjl] at HNO HYS
        have hjj : (j : Int) < (l.length : Int) := by omega
        have j0 : (0 : Int) ≤ (j : Int) := by omega
        obtain ⟨g2, o2, rfl⟩ := HS2.out.addr (by omega)
        have hpc := HP.out _ (List.getElem_mem hjl)
        have y2 := ((hS.out.sx HS2.out).atW hjl).2.1
        obtain ⟨pc, hpcv⟩ : ∃ pc, l[j].2.1 = pc := ⟨_, rfl⟩
        rw [hpcv] at HNO HYS hpc y2
        clear hpcv
        obtain ⟨hpc0, hpc1⟩ := hpc
        have q0 : 0 ≤ pc * d := Int.mul_nonneg (by omega) (by omega)
        have q1 : pc * d ≤ 20000 * 200000 := Int.mul_le_mul hpc1 hdb.2 (by omega) (by decide)
        have hu2 := HR.out.ends_le _ (HEN.out.1 HE.out.symm)
        have w3 : IntKind.i64.wrap (pc * d) = pc * d := IntWalk.i64_in _ (by omega)
        have w4 : IntKind.i64.wrap (u2 - u1) = u2 - u1 := IntWalk.i64_in _ (by omega)
        by_cases e7 : pc * d < u2 - u1
        · skip
          have HG := Lib.hid (HNO.out (fun h => by have := h.2.2.2.2.2; omega))
          clear HNO HYS
          go_big_quiet (fail)
          have hZ := Lib.hid (hS.out.call (below_dN (Below.refl _ _) nq))
          go_wp2
          go_ret
          exact ⟨ret_bool HG.out.symm, hZ.out.be⟩
        have d7 := decide_eq_false e7
        have HG := Lib.hid (HYS.out ⟨by trivial, by omega, HEN.out.1 HE.out.symm, by omega, by omega, by omega⟩)
        clear HNO HYS HE HEN
        go_big_quiet (fail)
        have hS1 := Lib.hid (hS.out.call (below_dN (Below.refl _ _) nq))
        clear s1 y2 d7 d5 d4 d2
        go_wp2
        go_big_quiet (fail)
        have hS2 := Lib.hid (hS1.out.call (below_dN (Below.refl _ _) nq))
        go_wp2
        go_roundw
        case rel => exact ⟨k + 1, u2, j, by omega, rfl, rfl, by go_num, by omega, by omega, by omega, HG, Lib.hid (by
          have h := hS2.out.thin (List.Sublist.cons_cons _ (List.nil_sublist _)) (List.nil_sublist _)
          rw [World.drewN_drewN] at h
          exact h)⟩
        case measure => simp [intOf]; omega
    · have hkk : ¬ (k : Int) < (st.length : Int) := by omega
      rw [List.drop_eq_nil_of_le (by omega)] at HD
      have HX := Lib.hid (show (decide (x = L) && decide (reachOf (endsOf F L) (pacesOf l) (d - 1) < L)) = ans from by rw [← HAN2.out, ← HD.out]; rfl)
      have HEA := Lib.hid (fun W (h : Below w.heap.size w W) => eager_any W a1 a2 _ c1 _ c2 L (d - 1) F l (HS1.out.below h) (HS2.out.below h) HR.out hF6 hl HP.out (by omega) (by omega))
      unfold RetEager at HEA
      have w5 : IntKind.i64.wrap (d - 1) = d - 1 := IntWalk.i64_in _ (by omega)
      have z0 := hC.out.cell 0 0 rfl rfl
      have z1 := hC.out.cell 0 1 rfl rfl
      have z2 := hC.out.cell 0 2 rfl rfl
      clear HD HAN2
      generalize reachOf (endsOf F L) (pacesOf l) (d - 1) = rch at *
      generalize stintsOf (endsOf F L) (pacesOf l) (d - 1) = sts at *
      by_cases ex : x = L
      · have ex2 : (x == L) = true := beq_iff_eq.2 ex
        rw [decide_eq_true ex, Bool.true_and] at HX
        have HEX := Lib.hid ex
        clear ex
        by_cases er : rch < L
        · rw [decide_eq_true er] at HX
          go_wp2_with fail
          refine (HEA.out _ hC.out.be).mono ?_
          rintro e V ⟨a9, c9, rfl, hr, hb⟩
          have hZ := Lib.hid (hC.out.call hb)
          clear hb hr
          go_wp2
          go_ret
          exact ⟨ret_bool (by have hx := HX.out; first | exact hx | (rw [← hx]; exact decide_eq_false (by omega)) | (rw [← hx]; simp)), hZ.out.be⟩
        · rw [decide_eq_false er] at HX
          go_wp2_with fail
          refine (HEA.out _ hC.out.be).mono ?_
          rintro e V ⟨a9, c9, rfl, hr, hb⟩
          have hZ := Lib.hid (hC.out.call hb)
          clear hb hr
          go_wp2
          go_ret
          exact ⟨ret_bool (by have hx := HX.out; first | exact hx | (rw [← hx]; exact decide_eq_false (by omega)) | (rw [← hx]; simp)), hZ.out.be⟩
      · have ex2 : (x == L) = false := beq_eq_false_iff_ne.2 ex
        rw [decide_eq_false ex, Bool.false_and] at HX
        go_wp2_with fail
        refine (HEA.out _ hC.out.be).mono ?_
        rintro e V ⟨a9, c9, rfl, hr, hb⟩
        have hZ := Lib.hid (hC.out.call hb)
        clear hb hr
        go_wp2
        go_ret
        exact ⟨ret_bool (by have hx := HX.out; first | exact hx | (rw [← hx]; exact decide_eq_false (by omega)) | (rw [← hx]; simp)), hZ.out.be⟩
end
end Go.Proofs.YteogibpmpppgmaaGreat

/- the reference's Pay -/
import Derived.Test.YtchignmnnbepnaaGreatJ32
import Derived.BigQuiet
namespace Go.Proofs.YtchignmnnbepnaaGreat
open Go.RowKit
section
variable (w : World)
/-- the pay, or none -/
def RetRPays (w : World) (ok : Bool) (xs : List Int) (e : Ending) (w' : World) : Prop := (ok = false ∧ e = .returned (.tuple #[.slice none 0 0, .bool false]) ∧ Below w.heap.size w w') ∨ (ok = true ∧ ∃ a c, e = .returned (.tuple #[.slice a xs.length c, .bool true]) ∧ Sx 1 w' a xs.length c (L1 xs) ∧ Below w.heap.size w w')
set_option maxHeartbeats 32000000 in
set_option maxRecDepth 100000 in
theorem refPay_any (x : Wal) (s : Sht) (hO : Sx 5 w x.oa x.on x.oc (LO x.ops)) (a1 : Option Addr) (n1 c1 : Nat) (l : List WL) (hl : Sx 3 w a1 n1 c1 (LW l)) (hg : gangB l = true) (a2 : Option Addr) (n2 c2 : Nat) (st : List I3) (hst : Sx 3 w a2 n2 c2 (L3 st)) (hl2 : st.length ≤ 1000) (p0 p1 p2 p3 : Int) (hpr : priceB [p0, p1, p2, p3] = true)
    (hwb : (1 ≤ x.len ∧ x.len ≤ 100000) ∧ (x.on : Int) ≤ 20 ∧ ∀ o ∈ x.ops, (1 ≤ o.kind ∧ o.kind ≤ 4) ∧ 0 ≤ o.at_ ∧ o.at_ < x.len) (hrd : 1 ≤ s.rood ∧ s.rood ≤ 100000) :
    Calls Tryz.prog 15 #[aW x, aS s, .slice a1 n1 c1, .slice a2 n2 c2, .agg #[.int .i64 p0, .int .i64 p1, .int .i64 p2, .int .i64 p3]] w (RetRPays w (payOk l.length x.len 0 st) (st.map (payS l s.rood x.ops [p0, p1, p2, p3]))) := by
  have HRT := Lib.hid (fun j (hj : j < l.length) => (gangB_row hg l[j] (List.getElem_mem hj)).2.1)
  have hgl := gangB_len hg
  obtain ⟨hlen, hon, HOP0⟩ := hwb
  have HOP := Lib.hid HOP0
  have HST := Lib.hid hst
  have HL := Lib.hid hl
  have hxn := hO.nO
  have HO := Lib.hid (fun V (h : Below w.heap.size w V) => hO.below h)
  have HPB := Lib.hid (show ∀ p ∈ [p0, p1, p2, p3], 0 ≤ p ∧ p ≤ 1000000 from fun p hp => inB_iff.1 (List.all_eq_true.1 hpr p hp))
  obtain rfl := hst.n3
  obtain rfl := hl.nW
  have hcap := hst.cap
  unfold maxLen at hcap
  have HR := Lib.hid (fun V (h : Below w.heap.size w V) => hl.below h)
  have HT := Lib.hid (fun V (h : Below w.heap.size w V) => hst.below h)
  clear hst HOP0 hl hg hpr hO
  rw [hxn] at HO hon
  obtain ⟨ok, hok⟩ : ∃ ok, payOk l.length x.len 0 st = ok := ⟨_, rfl⟩
  rw [hok]
  have HOKQ := Lib.hid hok
  have HFV := Lib.hid (show ∀ z, payS l s.rood x.ops [p0, p1, p2, p3] z = penny (rateOf l z.1) (z.2.2 - z.2.1) s.rood + opPay [p0, p1, p2, p3] z.2.1 z.2.2 x.ops from fun z => rfl)
  generalize payS l s.rood x.ops [p0, p1, p2, p3] = f at *
  clear hok
  obtain ⟨A5, hA5⟩ : ∃ A, (cWa x).toArray = A := ⟨_, rfl⟩
  have K2 := Lib.hid (show A5[2]? = some (.int .i64 x.len) by rw [← hA5]; rfl)
  have K3 := Lib.hid (show A5[3]? = some (.slice x.oa x.ops.length x.oc) by rw [← hA5, ← hxn]; rfl)
  obtain ⟨A6, hA6⟩ : ∃ A, (cS s).toArray = A := ⟨_, rfl⟩
  have K4 := Lib.hid (show A6[19]? = some (.int .i64 s.rood) by rw [← hA6]; rfl)
  obtain ⟨U5, hU5⟩ : ∃ U, aW x = U := ⟨_, rfl⟩
  have HU5 := Lib.hid (show U5.cells = A5 by rw [← hU5, ← hA5]; rfl)
  obtain ⟨U6, hU6⟩ : ∃ U, aS s = U := ⟨_, rfl⟩
  have HU6 := Lib.hid (show U6.cells = A6 by rw [← hU6, ← hA6]; rfl)
  rw [hU5, hU6]
  clear hU5 hU6 hA5 hA6 hxn
  generalize s.rood = R at *
  generalize x.oa = oa at *
  generalize x.oc = oc at *
  go_enter Tryz.func15, Tryz.ntmps15
  go_upto_region 1 with (first | (refine wpList_bx (o := ⟨some 5, _, _, _, _, _⟩) rfl (Sy.enter w) _ _ rfl A5 HU5.out ?_; intro b5 V1 h1; have hA := Lib.hid h1; clear h1) | (refine wpList_bx (o := ⟨some 6, _, _, _, _, _⟩) rfl hA.out _ _ rfl A6 HU6.out ?_; intro b6 V2 h2; have hB := Lib.hid h2; clear h2 hA) | (refine wpList_bx (o := ⟨some 9, _, _, _, _, _⟩) rfl hB.out _ _ rfl #[.int .i64 p0, .int .i64 p1, .int .i64 p2, .int .i64 p3] rfl ?_; intro b9 V3 h3; have hC0 := Lib.hid h3; clear h3 hB) | fail)
  have hC := Lib.hid (hC0.out.onil 3 1)
  clear hC0
  go_wp2
  go_loopw [13, 12] (fun iv ov wr => ∃ (k : Nat) (y : Int) (a : Option Addr) (c : Nat), k ≤ st.length ∧ iv = .int .i64 k ∧ ov = .slice a k c ∧ 0 ≤ y ∧ y ≤ 100000 ∧ Hid (k = 0 ∧ y = 0 ∨ 0 < k ∧ ∀ h : k - 1 < st.length, st[k - 1].2.2 = y) ∧ Hid (payOk l.length x.len y (st.drop k) = ok) ∧ Hid (Sy w wr [(b5, A5, 51), (b6, A6, 53), (b9, #[.int .i64 p0, .int .i64 p1, .int .i64 p2, .int .i64 p3], 28)] [⟨.slice a k c, 3, 1, k, L1 ((st.take k).map f)⟩] [])) (fun iv _ _ => st.length - (intOf iv).toNat)
  case atStart => exact ⟨0, 0, none, 0, Nat.zero_le _, rfl, rfl, by omega, by omega, Lib.hid (.inl ⟨rfl, rfl⟩), HOKQ, hC⟩
  case round =>
    clear hC
    obtain ⟨k, y, a, c, hk, rfl, rfl, hy0, hy1, HY, HD, hC⟩ := hrel
    by_cases hlt : k < st.length
    · obtain ⟨g2, o2, rfl⟩ := HST.out.addr (by omega)
      obtain ⟨x0, x1, x2⟩ := (HT.out _ hC.out.be).at3 hlt
      have hpo := payOk_drop (n := l.length) (len := x.len) (at_ := y) hlt
      rw [HD.out] at hpo
      have HPO := Lib.hid hpo
      have HTT := Lib.hid (show L1 ((st.take (k + 1)).map f) = L1 ((st.take k).map f) ++ [.int .i64 (f st[k])] by rw [List.take_succ_eq_append_getElem hlt, List.map_append, L1_append]; rfl)
      rw [HFV.out] at HTT
      have i0 : (0 : Int) ≤ (k : Int) := by omega
      have i1 : (k : Int) < (st.length : Int) := by omega
      have HYN0 := Lib.hid (show ∀ v, st[k].2.2 = v → (k + 1 = 0 ∧ v = 0 ∨ 0 < k + 1 ∧ ∀ h : k + 1 - 1 < st.length, st[k + 1 - 1].2.2 = v) from fun v hv => .inr ⟨by omega, fun h => hv⟩)
      clear hpo HD
      obtain ⟨ok2, hok2⟩ : ∃ ok2, payOk l.length x.len st[k].2.2 (st.drop (k + 1)) = ok2 := ⟨_, rfl⟩
      have HO2 := Lib.hid hok2
      rw [hok2] at HPO
      clear hok2
      obtain ⟨u0, hu0⟩ : ∃ u0, st[k].1 = u0 := ⟨_, rfl⟩
      obtain ⟨u1, hu1⟩ : ∃ u1, st[k].2.1 = u1 := ⟨_, rfl⟩
      obtain ⟨u2, hu2⟩ : ∃ u2, st[k].2.2 = u2 := ⟨_, rfl⟩
      rw [hu0, hu1, hu2] at HPO HTT
      rw [hu0] at x0
      rw [hu1] at x1
      rw [hu2] at x2 HO2
      have HYN := Lib.hid (HYN0.out _ hu2)
      clear HYN0
      clear hu0 hu1 hu2
      have hA := Lib.hid (hC.out.al wr.heap.size #[.int .i64 u0, .int .i64 u1, .int .i64 u2] 99 rfl)
      go_upto_region 6 with fail
      obtain ⟨bS, hbS⟩ : ∃ bS, wr.heap.size = bS := ⟨_, rfl⟩
      rw [hbS] at hA ⊢
      refine wp_geny hA.out ?_
      intro W hc
      have hS : Hid (Sy w W [(b5, A5, 51), (b6, A6, 53), (b9, #[.int .i64 p0, .int .i64 p1, .int .i64 p2, .int .i64 p3], 28), (bS, #[.int .i64 u0, .int .i64 u1, .int .i64 u2], 99)] [⟨.slice a k c, 3, 1, k, L1 ((st.take k).map f)⟩] []) := Lib.hid hc
      clear hc hA hC x0 x1 x2 hbS
      go_cut [69] (fun tv wx => ∃ bad : Bool, tv = .bool bad ∧ Hid (bad = !(inB u0 0 ((l.length : Int) - 1) && decide (y ≤ u1) && decide (u1 < u2) && decide (u2 ≤ x.len))) ∧ Hid (Sy w wx [(b5, A5, 51), (b6, A6, 53), (b9, #[.int .i64 p0, .int .i64 p1, .int .i64 p2, .int .i64 p3], 28), (bS, #[.int .i64 u0, .int .i64 u1, .int .i64 u2], 99)] [⟨.slice a k c, 3, 1, k, L1 ((st.take k).map f)⟩] []))
      case first =>
        clear HPO HTT HYN HO2 HFV HRT HOP HO HR HL HPB K3 K4 HU5 HU6
        have s0 : W.cell? ⟨bS, 0, none⟩ = some (.int .i64 u0) := hS.out.cell 3 0 rfl rfl
        have s1 : W.cell? ⟨bS, 1, none⟩ = some (.int .i64 u1) := hS.out.cell 3 1 rfl rfl
        have s2 : W.cell? ⟨bS, 2, none⟩ = some (.int .i64 u2) := hS.out.cell 3 2 rfl rfl
        have k2 : W.cell? ⟨b5, 2, none⟩ = some (.int .i64 x.len) := hS.out.cell 0 2 rfl K2.out
        have wl : IntKind.i64.wrap ((l.length : Int) - 1) = (l.length : Int) - 1 := IntWalk.i64_in _ (by omega)
        have HIA := Lib.hid (fun W => In_any u0 0 ((l.length : Int) - 1) W)
        cases e1 : inB u0 0 ((l.length : Int) - 1)
        · rw [e1] at HIA
          have HE1 := Lib.hid e1
          clear e1
          go_big_quiet (exact Calls.quiet_of_same (HIA.out _))
          have hZ := Lib.hid (hS.out.call (below_dN (Below.refl _ _) nq))
          go_wp2
          go_meet
          exact ⟨true, rfl, Lib.hid (by rw [HE1.out]; rfl), hZ⟩
        rw [e1] at HIA
        have HE1 := Lib.hid e1
        clear e1
        by_cases e2 : u1 < 0
        · go_big_quiet (exact Calls.quiet_of_same (HIA.out _))
          have hZ := Lib.hid (hS.out.call (below_dN (Below.refl _ _) nq))
          go_wp2
          go_meet
          exact ⟨true, rfl, Lib.hid (by rw [HE1.out, decide_eq_false (show ¬ y ≤ u1 by omega)]; rfl), hZ⟩
        have d2 := decide_eq_false e2
        by_cases e3 : u2 ≤ u1
        · go_big_quiet (exact Calls.quiet_of_same (HIA.out _))
          have hZ := Lib.hid (hS.out.call (below_dN (Below.refl _ _) nq))
          go_wp2
          go_meet
          exact ⟨true, rfl, Lib.hid (by rw [HE1.out, decide_eq_false (show ¬ u1 < u2 by omega)]; simp), hZ⟩
        have d3 := decide_eq_false e3
        by_cases e4 : x.len < u2
        · go_big_quiet (exact Calls.quiet_of_same (HIA.out _))
          have hZ := Lib.hid (hS.out.call (below_dN (Below.refl _ _) nq))
          go_wp2
          go_meet
          exact ⟨true, rfl, Lib.hid (by rw [HE1.out, decide_eq_false (show ¬ u2 ≤ x.len by omega)]; simp), hZ⟩
        have d4 := decide_eq_false e4
        rcases HY.out with ⟨hk0, hyz⟩ | ⟨hkp, hyv⟩
        · have hkn : decide (0 < k) = false := decide_eq_false (by omega)
          have HZ0 := Lib.hid (show y ≤ u1 by omega)
          have HZ1 := Lib.hid (show u1 < u2 by omega)
          have HZ2 := Lib.hid (show u2 ≤ x.len by omega)
          clear hk0 hyz HY hlt
          go_big_quiet (exact Calls.quiet_of_same (HIA.out _))
          have hZ := Lib.hid (hS.out.call (below_dN (Below.refl _ _) nq))
          go_wp2
          go_meet
          exact ⟨false, rfl, Lib.hid (by rw [HE1.out, decide_eq_true HZ0.out, decide_eq_true HZ1.out, decide_eq_true HZ2.out]; rfl), hZ⟩
        · have hkn : decide (0 < k) = true := decide_eq_true hkp
          have hkz : (0 : Int) < (k : Int) := by omega
          have v2 : IntKind.i64.wrap ((k : Int) - 1) = ((k - 1 : Nat) : Int) := by rw [IntWalk.i64_in _ (by omega)]; omega
          have n1 : (k : Int) - 1 = ((k - 1 : Nat) : Int) := by omega
          have n2 : (0 : Int) ≤ ((k - 1 : Nat) : Int) := by omega
          have n3 : ((k - 1 : Nat) : Int) < (st.length : Int) := by omega
          have hk1 : k - 1 < st.length := by omega
          have y0 := ((HT.out _ hS.out.be).at3 hk1).2.2
          rw [hyv hk1] at y0
          clear hyv HY
          by_cases e5 : u1 < y
          · go_big_quiet (exact Calls.quiet_of_same (HIA.out _))
            have hZ := Lib.hid (hS.out.call (below_dN (Below.refl _ _) nq))
            go_wp2
            go_meet
            exact ⟨true, rfl, Lib.hid (by rw [HE1.out, decide_eq_false (show ¬ y ≤ u1 by omega)]; rfl), hZ⟩
          · have d5 := decide_eq_false e5
            have HZ0 := Lib.hid (show y ≤ u1 by omega)
            have HZ1 := Lib.hid (show u1 < u2 by omega)
            have HZ2 := Lib.hid (show u2 ≤ x.len by omega)
            go_big_quiet (exact Calls.quiet_of_same (HIA.out _))
            have hZ := Lib.hid (hS.out.call (below_dN (Below.refl _ _) nq))
            go_wp2
            go_meet
            exact ⟨false, rfl, Lib.hid (by rw [HE1.out, decide_eq_true HZ0.out, decide_eq_true HZ1.out, decide_eq_true HZ2.out]; rfl), hZ⟩
      case rest =>
        clear hS
        obtain ⟨bad, rfl, HB, hS⟩ := hcut
        cases bad
        rotate_left
        · have HNO := Lib.hid (show ok = false by
            rw [HPO.out]
            have := HB.out
            cases hq : (inB u0 0 ((l.length : Int) - 1) && decide (y ≤ u1) && decide (u1 < u2) && decide (u2 ≤ x.len))
            · rfl
            · rw [hq] at this; cases this)
          clear HPO HTT
          go_wp2
          go_ret2
          exact .inl ⟨HNO.out, rfl, hS.out.be⟩
        have hgood : (inB u0 0 ((l.length : Int) - 1) && decide (y ≤ u1) && decide (u1 < u2) && decide (u2 ≤ x.len)) = true := by
          have := HB.out
          cases hq : (inB u0 0 ((l.length : Int) - 1) && decide (y ≤ u1) && decide (u1 < u2) && decide (u2 ≤ x.len))
          · rw [hq] at this; cases this
          · rfl
        have HOK := Lib.hid (show ok2 = ok by rw [HPO.out, hgood]; rfl)
        simp only [Bool.and_eq_true, decide_eq_true_eq] at hgood
        obtain ⟨⟨⟨hi0, hi1⟩, hi2⟩, hi3⟩ := hgood
        have hin := inB_iff.1 hi0
        clear HPO HB hi0
        obtain ⟨j, rfl⟩ : ∃ j : Nat, u0 = (j : Int) := ⟨u0.toNat, by omega⟩
        have hj : j < l.length := by omega
        have hj2 : (j : Int) < (l.length : Int) := by omega
        have hj0 : (0 : Int) ≤ (j : Int) := by omega
        obtain ⟨ga, oa1, rfl⟩ := HL.out.addr (by omega)
        obtain ⟨-, -, r2⟩ := (HR.out _ hS.out.be).atW hj
        have hr := HRT.out j hj
        have hra : rateOf l (j : Int) = l[j].2.2 := by unfold rateOf; rw [Int.toNat_natCast, List.getD_eq_getElem?_getD, List.getElem?_eq_getElem hj]; rfl
        rw [hra] at HTT
        clear hra
        generalize l[j].2.2 = r at *
        have hP := mul_2e hr (show 0 ≤ u2 - u1 ∧ u2 - u1 ≤ 100000 by omega)
        have hq := penny_bd hr (show 0 ≤ u2 - u1 ∧ u2 - u1 ≤ 100000 by omega) hrd
        have hpr := penny_round hP.1 (show 0 < R by omega)
        rw [← Int.mul_assoc] at hpr
        have z2 : IntKind.i64.wrap (u2 - u1) = u2 - u1 := IntWalk.i64_in _ (by omega)
        have z3 : IntKind.i64.wrap (r * (u2 - u1)) = r * (u2 - u1) := IntWalk.i64_in _ (by omega)
        have HPE := Lib.hid (show penny r (u2 - u1) R = (2 * r * (u2 - u1) + R) / (2 * R) from rfl)
        rw [hpr] at HPE
        clear hpr
        have s0 : wc.cell? ⟨bS, 0, none⟩ = some (.int .i64 (j : Int)) := hS.out.cell 3 0 rfl rfl
        have s1 : wc.cell? ⟨bS, 1, none⟩ = some (.int .i64 u1) := hS.out.cell 3 1 rfl rfl
        have s2 : wc.cell? ⟨bS, 2, none⟩ = some (.int .i64 u2) := hS.out.cell 3 2 rfl rfl
        generalize penny r (u2 - u1) R = q at *
        go_upto_region 8 with fail
        go_quiet (fail)
        have hS1 := Lib.hid (hS.out.call (below_dN (Below.refl _ _) nq))
        clear s0 s1 s2 r2 z2 z3
        go_upto_region 9 with fail
        refine wp_geny hS1.out ?_
        intro W2 hc
        have hS2 : Hid (Sy w W2 [(b5, A5, 51), (b6, A6, 53), (b9, #[.int .i64 p0, .int .i64 p1, .int .i64 p2, .int .i64 p3], 28), (bS, #[.int .i64 (j : Int), .int .i64 u1, .int .i64 u2], 99)] [⟨.slice a k c, 3, 1, k, L1 ((st.take k).map f)⟩] []) := Lib.hid hc
        clear hc hS1 hS
        generalize r * (u2 - u1) = pp at *
        have k4 : W2.cell? ⟨b6, 19, none⟩ = some (.int .i64 R) := hS2.out.cell 1 19 rfl K4.out
        have m1 := Int.mul_ediv_add_emod pp R
        have m2 := Int.emod_nonneg pp (show R ≠ 0 by omega)
        have m3 := Int.emod_lt_of_pos pp (show 0 < R by omega)
        have m4 : 0 ≤ pp / R := Int.ediv_nonneg (by omega) (by omega)
        have m5 : pp / R ≤ pp := Int.ediv_le_self R (by omega)
        have td : pp.tdiv R = pp / R := Int.tdiv_eq_ediv_of_nonneg (by omega)
        have tm : pp.tmod R = pp % R := Int.tmod_eq_emod_of_nonneg (by omega)
        generalize pp / R = wq at *
        generalize pp % R = rm at *
        clear m1
        have v1 : IntKind.i64.wrap wq = wq := IntWalk.i64_in _ (by omega)
        have v2 : IntKind.i64.wrap rm = rm := IntWalk.i64_in _ (by omega)
        have v3 : IntKind.i64.wrap (2 * rm) = 2 * rm := IntWalk.i64_in _ (by omega)
        have v4 : IntKind.i64.wrap (wq + 1) = wq + 1 := IntWalk.i64_in _ (by omega)
        have n5 : ¬ R = 0 := by omega
        go_quiet (fail)
        have hS3 := Lib.hid (hS2.out.call (below_dN (Below.refl _ _) nq))
        clear k4 td tm v1 v2 n5
        go_upto_region 10 with fail
        refine wp_geny hS3.out ?_
        intro W3 hc
        have hS4 : Hid (Sy w W3 [(b5, A5, 51), (b6, A6, 53), (b9, #[.int .i64 p0, .int .i64 p1, .int .i64 p2, .int .i64 p3], 28), (bS, #[.int .i64 (j : Int), .int .i64 u1, .int .i64 u2], 99)] [⟨.slice a k c, 3, 1, k, L1 ((st.take k).map f)⟩] []) := Lib.hid hc
        clear hc hS2 hS3
        have k4 : W3.cell? ⟨b6, 19, none⟩ = some (.int .i64 R) := hS4.out.cell 1 19 rfl K4.out
        go_upto_if 94 with fail
        go_cut [16] (fun qv wx => qv = .int .i64 q ∧ Hid (Sy w wx [(b5, A5, 51), (b6, A6, 53), (b9, #[.int .i64 p0, .int .i64 p1, .int .i64 p2, .int .i64 p3], 28), (bS, #[.int .i64 (j : Int), .int .i64 u1, .int .i64 u2], 99)] [⟨.slice a k c, 3, 1, k, L1 ((st.take k).map f)⟩] []))
        case first =>
          by_cases hh : R ≤ 2 * rm
          · have hpq := HPE.out
            rw [if_pos hh] at hpq
            have HPQ := Lib.hid hpq
            clear hpq
            go_wp2
            go_meet
            exact ⟨by rw [HPQ.out], hS4⟩
          · have hpq := HPE.out
            rw [if_neg hh] at hpq
            have HPQ := Lib.hid hpq
            clear hpq
            go_wp2
            go_meet
            exact ⟨by rw [HPQ.out], hS4⟩
        case rest =>
          clear hS4 k4 v3 v4
          obtain ⟨rfl, hS5⟩ := hcut
          go_wp2
          go_loopw [18, 16] (fun iv pv wr2 => ∃ m : Nat, m ≤ x.ops.length ∧ iv = .int .i64 m ∧ pv = .int .i64 (q + opPay [p0, p1, p2, p3] u1 u2 (x.ops.take m)) ∧ Hid (Sy w wr2 [(b5, A5, 51), (b6, A6, 53), (b9, #[.int .i64 p0, .int .i64 p1, .int .i64 p2, .int .i64 p3], 28), (bS, #[.int .i64 (j : Int), .int .i64 u1, .int .i64 u2], 99)] [⟨.slice a k c, 3, 1, k, L1 ((st.take k).map f)⟩] [])) (fun iv _ _ => x.ops.length - (intOf iv).toNat)
          case atStart => exact ⟨0, Nat.zero_le _, rfl, by rw [List.take_zero]; show Value.int .i64 q = Value.int .i64 (q + lsum []); rw [lsum_nil, Int.add_zero], hS5⟩
          case round =>
            clear hS5
            obtain ⟨m, hm, rfl, rfl, hE⟩ := hrel
            have x3 : wr.cell? ⟨b5, 3, none⟩ = some (.slice oa x.ops.length oc) := hE.out.cell 0 3 rfl K3.out
            by_cases hml : m < x.ops.length
            · obtain ⟨g5, o5, rfl⟩ := (HO.out w (Below.refl _ _)).addr (by omega)
              obtain ⟨y0, y1, -, -, -⟩ := (HO.out _ hE.out.be).atO hml
              have HYO := Lib.hid (fun V (h : Below w.heap.size w V) => ((HO.out V h).atO hml).1)
              have hop := HOP.out x.ops[m] (List.getElem_mem hml)
              have HTK := Lib.hid (show opPay [p0, p1, p2, p3] u1 u2 (x.ops.take (m + 1)) = opPay [p0, p1, p2, p3] u1 u2 (x.ops.take m) + (if inB x.ops[m].at_ u1 (u2 - 1) = true then prAt [p0, p1, p2, p3] x.ops[m].kind else 0) from by unfold opPay; exact sumBy_take _ _ m hml)
              have hbd := opPay_bd HPB.out (fr := u1) (tq := u2) (ops := x.ops.take m) (by rw [List.length_take]; omega)
              generalize opPay [p0, p1, p2, p3] u1 u2 (x.ops.take m) = acc at *
              generalize x.ops[m] = o at *
              have j2 : (0 : Int) ≤ (m : Int) := by omega
              have j3 : (m : Int) < (x.ops.length : Int) := by omega
              have s1 : wr.cell? ⟨bS, 1, none⟩ = some (.int .i64 u1) := hE.out.cell 3 1 rfl rfl
              have s2 : wr.cell? ⟨bS, 2, none⟩ = some (.int .i64 u2) := hE.out.cell 3 2 rfl rfl
              by_cases e6 : o.at_ < u1
              · have HIN := Lib.hid (show inB o.at_ u1 (u2 - 1) = false from by unfold inB; rw [decide_eq_false (show ¬ u1 ≤ o.at_ by omega)]; rfl)
                rw [HIN.out] at HTK
                have d6 := decide_eq_false (show ¬ u1 ≤ o.at_ by omega)
                go_upto_region 15 with fail
                go_quiet (fail)
                have hG := Lib.hid (hE.out.call (below_dN (Below.refl _ _) nq))
                go_wp2
                go_roundw
                case rel => exact ⟨m + 1, by omega, by go_num, by rw [HTK.out, if_neg (by decide), Int.add_zero], hG⟩
                case measure => simp [intOf]; omega
              have d6 := decide_eq_true (show u1 ≤ o.at_ by omega)
              by_cases e7 : u2 ≤ o.at_
              · have HIN := Lib.hid (show inB o.at_ u1 (u2 - 1) = false from by unfold inB; rw [decide_eq_false (show ¬ o.at_ ≤ u2 - 1 by omega), Bool.and_false])
                rw [HIN.out] at HTK
                have d7 := decide_eq_false (show ¬ o.at_ < u2 by omega)
                go_upto_region 15 with fail
                go_quiet (fail)
                have hG := Lib.hid (hE.out.call (below_dN (Below.refl _ _) nq))
                go_wp2
                go_roundw
                case rel => exact ⟨m + 1, by omega, by go_num, by rw [HTK.out, if_neg (by decide), Int.add_zero], hG⟩
                case measure => simp [intOf]; omega
              have d7 := decide_eq_true (show o.at_ < u2 by omega)
              have HIN := Lib.hid (show inB o.at_ u1 (u2 - 1) = true from inB_iff.2 ⟨by omega, by omega⟩)
              rw [HIN.out] at HTK
              clear HIN
              go_upto_region 15 with fail
              go_quiet (fail)
              have hG0 := Lib.hid (hE.out.call (below_dN (Below.refl _ _) nq))
              clear x3 y0 y1 s1 s2 d6 d7
              go_upto_region 16 with fail
              refine wp_geny hG0.out ?_
              intro W4 hc
              have hG : Hid (Sy w W4 [(b5, A5, 51), (b6, A6, 53), (b9, #[.int .i64 p0, .int .i64 p1, .int .i64 p2, .int .i64 p3], 28), (bS, #[.int .i64 (j : Int), .int .i64 u1, .int .i64 u2], 99)] [⟨.slice a k c, 3, 1, k, L1 ((st.take k).map f)⟩] []) := Lib.hid hc
              clear hc hG0 hE
              have x3 : W4.cell? ⟨b5, 3, none⟩ = some (.slice (some ⟨g5, o5, none⟩) x.ops.length oc) := hG.out.cell 0 3 rfl K3.out
              have y0 := HYO.out _ hG.out.be
              have hpa := prAt_bd HPB.out o.kind
              have hk : o.kind = 1 ∨ o.kind = 2 ∨ o.kind = 3 ∨ o.kind = 4 := by omega
              rcases hk with hk | hk | hk | hk
              · have ek : prAt [p0, p1, p2, p3] 1 = p0 := rfl
                rw [hk] at y0 HTK hpa
                rw [ek] at HTK hpa
                have v0 : W4.cell? ⟨b9, 0, none⟩ = some (.int .i64 p0) := hG.out.cell 2 0 rfl rfl
                have w9 : IntKind.i64.wrap (q + acc + p0) = q + acc + p0 := IntWalk.i64_in _ (by omega)
                go_wp2
                go_roundw
                case rel => exact ⟨m + 1, by omega, by go_num, by rw [HTK.out, if_pos rfl, Int.add_assoc], hG⟩
                case measure => simp [intOf]; omega
              · have ek : prAt [p0, p1, p2, p3] 2 = p1 := rfl
                rw [hk] at y0 HTK hpa
                rw [ek] at HTK hpa
                have v0 : W4.cell? ⟨b9, 1, none⟩ = some (.int .i64 p1) := hG.out.cell 2 1 rfl rfl
                have w9 : IntKind.i64.wrap (q + acc + p1) = q + acc + p1 := IntWalk.i64_in _ (by omega)
                go_wp2
                go_roundw
                case rel => exact ⟨m + 1, by omega, by go_num, by rw [HTK.out, if_pos rfl, Int.add_assoc], hG⟩
                case measure => simp [intOf]; omega
              · have ek : prAt [p0, p1, p2, p3] 3 = p2 := rfl
                rw [hk] at y0 HTK hpa
                rw [ek] at HTK hpa
                have v0 : W4.cell? ⟨b9, 2, none⟩ = some (.int .i64 p2) := hG.out.cell 2 2 rfl rfl
                have w9 : IntKind.i64.wrap (q + acc + p2) = q + acc + p2 := IntWalk.i64_in _ (by omega)
                go_wp2
                go_roundw
                case rel => exact ⟨m + 1, by omega, by go_num, by rw [HTK.out, if_pos rfl, Int.add_assoc], hG⟩
                case measure => simp [intOf]; omega
              · have ek : prAt [p0, p1, p2, p3] 4 = p3 := rfl
                rw [hk] at y0 HTK hpa
                rw [ek] at HTK hpa
                have v0 : W4.cell? ⟨b9, 3, none⟩ = some (.int .i64 p3) := hG.out.cell 2 3 rfl rfl
                have w9 : IntKind.i64.wrap (q + acc + p3) = q + acc + p3 := IntWalk.i64_in _ (by omega)
                go_wp2
                go_roundw
                case rel => exact ⟨m + 1, by omega, by go_num, by rw [HTK.out, if_pos rfl, Int.add_assoc], hG⟩
                case measure => simp [intOf]; omega
            · obtain rfl : m = x.ops.length := by omega
              have HPA := Lib.hid (show opPay [p0, p1, p2, p3] u1 u2 (x.ops.take x.ops.length) = opPay [p0, p1, p2, p3] u1 u2 x.ops from by rw [List.take_length])
              rw [HPA.out]
              obtain ⟨pay, hpay⟩ : ∃ pay, q + opPay [p0, p1, p2, p3] u1 u2 x.ops = pay := ⟨_, rfl⟩
              rw [hpay] at HTT ⊢
              have HF2 := Lib.hid (show Hid (payOk l.length x.len u2 (st.drop (k + 1)) = ok) from Lib.hid (HO2.out.trans HOK.out))
              clear hpay
              go_wp2_with (refine wpList_append_sy (o := ⟨some 139, _, _, _, _, _⟩) rfl (hE.out.onew wr.heap.size #[.int .i64 pay] 3 1 1 rfl (by omega) rfl) 0 1 rfl rfl _ _ _ rfl und_int info_int rfl (by omega) rfl rfl (by intro u hu; simp at hu; rcases hu with rfl; rfl) (by omega) (by omega) ?_; intro a3 c3 V3 hV3; have hJ := Lib.hid hV3; clear hV3 hE)
              have hK := Lib.hid (hJ.out.thin (bs' := [(b5, A5, 51), (b6, A6, 53), (b9, #[.int .i64 p0, .int .i64 p1, .int .i64 p2, .int .i64 p3], 28)]) (List.sublist_append_left [_, _, _] _) (List.Sublist.cons_cons _ (List.nil_sublist _)))
              clear hJ
              go_roundw
              case rel => exact ⟨k + 1, u2, a3, c3, by omega, by go_num, rfl, by omega, by omega, HYN, HF2.out, Lib.hid (by rw [HTT.out]; exact hK.out)⟩
              case measure => simp [intOf]; omega
    · obtain rfl : k = st.length := by omega
      have HOK2 := Lib.hid (show ok = true from by have := HD.out; rw [List.drop_length] at this; exact this.symm.trans rfl)
      have HLN := Lib.hid (show (st.map f).length = st.length from List.length_map _)
      have HTS := Lib.hid (show L1 ((st.take st.length).map f) = L1 (st.map f) from by rw [List.take_length])
      go_wp2
      go_ret2
      refine .inr ⟨HOK2.out, a, c, ?_, ?_, hC.out.be⟩
      · first | rfl | (rw [HLN.out]; first | done | rfl)
      rw [HLN.out]
      have := hC.out.osx 0 rfl
      rwa [HTS.out] at this
end
end Go.Proofs.YtchignmnnbepnaaGreat

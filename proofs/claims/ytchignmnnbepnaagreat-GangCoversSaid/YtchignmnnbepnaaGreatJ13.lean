/- plan.CheckSheet: is a sheet right? -/
/- the program's openings: meets, fits -/
import Derived.Test.YtchignmnnbepnaaGreatJ12
namespace Go.Proofs.YtchignmnnbepnaaGreat
open Go.RowKit
section
variable (w : World)
set_option maxHeartbeats 1000000 in
theorem checkSheet1_any (h : Int) : Calls Tryz.prog 92 #[.int .i64 h] w (Gives (.bool (!inB h 1 1000)) w) := by
  have hC := Lib.hid (Sy.enter w)
  have HE := Lib.hid (show [(h, 1, 1000)].all limB = inB h 1 1000 by simp [limB])
  go_enter Tryz.func92, Tryz.ntmps92
  go_wp2_with fail
  refine (kept_any _ _ _ _ [(h, 1, 1000)] ((hC.out.onew w.heap.size #[.int .i64 h, .int .i64 1, .int .i64 1000] 167 3 1 rfl (by omega) rfl).osx 0 rfl)).mono ?_
  rintro e w1 ⟨rfl, hb⟩
  have hD := Lib.hid ((hC.out.row).call hb)
  clear hb
  go_wp2
  go_ret
  exact ⟨ret_bool (by rw [← HE.out]; simp), hD.out.be⟩
theorem eg_checkSheet1 : EG 92 := enters_of Tryz.func92 (by kernel_rfl) rfl
theorem throughB_1 {s : Sht} (h1 : (s.every == 0) = true) (h2 : (s.at_ == 0) = true) : throughB s = true := by unfold throughB; simp [h1, h2]
theorem throughB_2 {s : Sht} (h2 : (s.at_ == 0) = false) : throughB s = [(s.every, 1, 100000), (s.at_, 0, 3000)].all limB := by unfold throughB; simp [h2]
theorem throughB_3 {s : Sht} (h1 : (s.every == 0) = false) : throughB s = [(s.every, 1, 100000), (s.at_, 0, 3000)].all limB := by unfold throughB; simp [h1]
def errB (b : Bool) : Int := if b then 0 else 2
theorem errB_no {b : Bool} (h : b = false) : errB b = 2 := by rw [h]; rfl
theorem errB_yes {b : Bool} (h : b = true) : errB b = 0 := by rw [h]; rfl
set_option maxHeartbeats 16000000 in
set_option maxRecDepth 100000 in
theorem checkSheet_any (s : Sht) (hs : Sx 1 w s.ha s.hn s.hc (L1 s.hs)) (hm : s.name.size ≤ maxLen) : Calls Tryz.prog 64 #[aS s] w (Gives (.int .i64 (errB (sheetB s))) w) := by
  have hlen := hs.n1
  have hcap := hs.cap
  unfold maxLen at hcap
  have HS := Lib.hid hs
  have HM := Lib.hid hm
  obtain ⟨V, hV⟩ : ∃ V, aS s = V := ⟨_, rfl⟩
  have HV := Lib.hid (show V.cells = (cS s).toArray by rw [← hV]; rfl)
  have HV2 := Lib.hid (show Value.agg (cS s).toArray = V by rw [← hV]; rfl)
  have HCO := Lib.hid (fun W => (show Calls Tryz.prog 94 #[V] W (Gives (.bool (copedB s)) W) by rw [← hV]; exact pcoped_any W s))
  have HWI := Lib.hid (fun W z a b c => (show Calls Tryz.prog 95 #[V, .int .i64 z] W (Gives (.int .i64 (widthI s z)) W) by rw [← hV]; exact pwidth_any W s z a b c))
  have HCR := Lib.hid (fun W h a b c d => (show Calls Tryz.prog 96 #[V] W (RetRow W 206 2 (coursesL s.hs s.height s.least).length (L2 (coursesL s.hs s.height s.least))) by rw [← hV]; exact pcourses_any W s h a b c d))
  have HNO := Lib.hid (fun h => errB_no (sheetB_no (s := s) h))
  have HYES := Lib.hid (fun a b c d e f g => errB_yes (sheetB_yes (s := s) a b c d e f g))
  rw [hV]
  clear hV hs hm hlen
  have HHE := Lib.hid (show (s.hs.any fun h => !inB h 1 1000) = !heightsB s by unfold heightsB; rw [Bool.eq_iff_iff]; simp)
  cases he : (s.every == 0)
  rotate_left
  · cases ha : (s.at_ == 0)
    rotate_left
    · have HTE := Lib.hid (throughB_1 he ha)
      go_enter Tryz.func64, Tryz.ntmps64
      go_upto_region 1 with (refine wpList_bx (o := ⟨some 1, _, _, _, _, _⟩) rfl (Sy.enter w) _ _ rfl (cS s).toArray HV.out ?_; intro b V2 h2; have hC := Lib.hid h2; clear h2)
      have x9 : V2.cell? ⟨b, 9, none⟩ = some (.int .i64 s.every) := hC.out.cell 0 9 rfl rfl
      have x10 : V2.cell? ⟨b, 10, none⟩ = some (.int .i64 s.at_) := hC.out.cell 0 10 rfl rfl
      have x1 : V2.cell? ⟨b, 1, none⟩ = some (.int .i64 s.base) := hC.out.cell 0 1 rfl rfl
      have x2 : V2.cell? ⟨b, 2, none⟩ = some (.int .i64 s.batter) := hC.out.cell 0 2 rfl rfl
      have x3 : V2.cell? ⟨b, 3, none⟩ = some (.int .i64 s.height) := hC.out.cell 0 3 rfl rfl
      have x4 : V2.cell? ⟨b, 4, none⟩ = some (.int .i64 s.skin) := hC.out.cell 0 4 rfl rfl
      have x5 : V2.cell? ⟨b, 5, none⟩ = some (.slice s.ha s.hn s.hc) := hC.out.cell 0 5 rfl rfl
      have x6 : V2.cell? ⟨b, 6, none⟩ = some (.int .i64 s.least) := hC.out.cell 0 6 rfl rfl
      have x7 : V2.cell? ⟨b, 7, none⟩ = some (.int .i64 s.lap) := hC.out.cell 0 7 rfl rfl
      have x8 : V2.cell? ⟨b, 8, none⟩ = some (.int .i64 s.run) := hC.out.cell 0 8 rfl rfl
      have x11 : V2.cell? ⟨b, 11, none⟩ = some (.int .i64 s.footing) := hC.out.cell 0 11 rfl rfl
      have x12 : V2.cell? ⟨b, 12, none⟩ = some (.int .i64 s.spread) := hC.out.cell 0 12 rfl rfl
      have x17 : V2.cell? ⟨b, 17, none⟩ = some (.int .i64 s.low) := hC.out.cell 0 17 rfl rfl
      have x18 : V2.cell? ⟨b, 18, none⟩ = some (.int .i64 s.high) := hC.out.cell 0 18 rfl rfl
      have x19 : V2.cell? ⟨b, 19, none⟩ = some (.int .i64 s.rood) := hC.out.cell 0 19 rfl rfl
      go_wp2_with fail
      have HTN := Lib.hid (show throughB s = false → errB (sheetB s) = 2 from fun h => HNO.out (.inr (.inl h)))
      have HTH := HTE
      clear HTE
      refine (kept_any _ _ _ _ (shtNums s) ((hC.out.onew V2.heap.size #[.int .i64 s.base, .int .i64 1, .int .i64 3000, .int .i64 s.batter, .int .i64 0, .int .i64 500, .int .i64 s.height, .int .i64 1, .int .i64 3000, .int .i64 s.skin, .int .i64 1, .int .i64 1500, .int .i64 (s.hn : Int), .int .i64 1, .int .i64 12, .int .i64 s.least, .int .i64 1, .int .i64 1000, .int .i64 s.lap, .int .i64 0, .int .i64 500, .int .i64 s.run, .int .i64 1, .int .i64 20, .int .i64 s.footing, .int .i64 0, .int .i64 1000, .int .i64 s.spread, .int .i64 0, .int .i64 1000, .int .i64 s.low, .int .i64 0, .int .i64 s.high, .int .i64 s.high, .int .i64 0, .int .i64 2000, .int .i64 s.rood, .int .i64 1, .int .i64 100000] 167 3 13 rfl (by omega) rfl).osx 0 rfl)).mono ?_
      rintro e w3 ⟨rfl, hb⟩
      have hN := Lib.hid ((hC.out.row).call hb)
      clear hb hC x1 x2 x3 x4 x5 x6 x7 x8 x11 x12 x17 x18 x19
      obtain ⟨nu, hnu⟩ : ∃ nu, numsB s = nu := ⟨_, rfl⟩
      rw [show (shtNums s).all limB = nu from hnu]
      have HNUM := Lib.hid hnu
      clear hnu
      have x0 : w3.cell? ⟨b, 0, none⟩ = some (.string s.name) := hN.out.cell 0 0 rfl rfl
      go_wp2_with fail
      refine (planNamed_any _ _ HM.out).mono ?_
      rintro e w4 ⟨rfl, hb⟩
      have hO := Lib.hid (hN.out.call hb)
      clear hb hN x0
      cases hna : namedB s.name
      · have HNA := Lib.hid (HNO.out (.inl hna))
        clear hna
        as_aux_lemma =>
          go_wp2
          go_ret
          exact ⟨ret_int HNA.out.symm, hO.out.be⟩
      have HNA := Lib.hid hna
      clear hna
      clear HTN
      cases nu
      · have HNB := Lib.hid (HNO.out (.inr (.inr (.inl HNUM.out))))
        as_aux_lemma =>
          go_wp2
          go_ret
          exact ⟨ret_int HNB.out.symm, hO.out.be⟩
      obtain ⟨⟨n0, n1⟩, ⟨n2, n3⟩, ⟨n4, n5⟩, ⟨n6, n7⟩, n8, n9⟩ := nums_get HNUM.out
      have x5 : w4.cell? ⟨b, 5, none⟩ = some (.slice s.ha s.hn s.hc) := hO.out.cell 0 5 rfl rfl
      go_wp2_with fail
      refine (containsFunc_int _ _ _ _ 92 #[] (fun h => !inB h 1 1000) _ (hO.out.sx HS.out) eg_checkSheet1 (fun W _ x _ => checkSheet1_any W x)).mono ?_
      rintro e w5 ⟨rfl, hb⟩
      have hP := Lib.hid (hO.out.call hb)
      clear hb hO x5
      rw [HHE.out]
      cases hhe : heightsB s
      · have HB := Lib.hid (HNO.out (.inr (.inr (.inr (.inl hhe)))))
        clear hhe
        as_aux_lemma =>
          go_wp2
          go_ret
          exact ⟨ret_int HB.out.symm, hP.out.be⟩
      have HHT := Lib.hid hhe
      clear hhe
      go_wp2_with (refine wpList_ldg (o := ⟨some 87, _, _, _, _, _⟩) rfl _ _ rfl _ _ rfl (cS s) _ (hP.out.range 0 rfl) Tryz.underlying92 rfl info_Sheet V HV2.out ?_)
      refine (HCO.out _).mono ?_
      rintro e w6 ⟨rfl, hb⟩
      have hQ := Lib.hid (hP.out.call hb)
      clear hb hP
      cases hco : copedB s
      · have HB := Lib.hid (HNO.out (.inr (.inr (.inr (.inr (.inl hco))))))
        clear hco
        as_aux_lemma =>
          go_wp2
          go_ret
          exact ⟨ret_int HB.out.symm, hQ.out.be⟩
      have HCP := Lib.hid hco
      clear hco
      have x3 : w6.cell? ⟨b, 3, none⟩ = some (.int .i64 s.height) := hQ.out.cell 0 3 rfl rfl
      go_wp2_with (refine wpList_ldg (o := ⟨some 92, _, _, _, _, _⟩) rfl _ _ rfl _ _ rfl (cS s) _ (hQ.out.range 0 rfl) Tryz.underlying92 rfl info_Sheet V HV2.out ?_)
      refine (HWI.out _ _ ⟨n2, n3⟩ ⟨by omega, n5⟩ ⟨by omega, n1⟩).mono ?_
      rintro e w7 ⟨rfl, hb⟩
      have hR := Lib.hid (hQ.out.call hb)
      clear hb hQ x3
      have HW0 := Lib.hid (show ¬ 1 ≤ widthI s s.height → errB (sheetB s) = 2 from fun h => HNO.out (.inr (.inr (.inr (.inr (.inr (.inl (by omega))))))))
      have HWY := Lib.hid (fun h1 h7 => HYES.out HNA.out HTH.out HNUM.out HHT.out HCP.out h1 h7)
      generalize widthI s s.height = wi at *
      by_cases hw1 : wi < 1
      · have HB := Lib.hid (HW0.out (by omega))
        as_aux_lemma =>
          go_wp2
          go_ret
          exact ⟨ret_int HB.out.symm, hR.out.be⟩
      have HWZ := Lib.hid (HWY.out (by omega))
      have dw : decide (wi < 1) = false := decide_eq_false hw1
      clear HWY HW0
      go_wp2_with (refine wpList_ldg (o := ⟨some 99, _, _, _, _, _⟩) rfl _ _ rfl _ _ rfl (cS s) _ (hR.out.range 0 rfl) Tryz.underlying92 rfl info_Sheet V HV2.out ?_)
      refine (HCR.out _ (hR.out.sx HS.out) (by omega) (heights_get HHT.out) ⟨n4, n5⟩ n8).mono ?_
      rintro e w8 ⟨a8, c8, rfl, hr8, hb⟩
      have hT := Lib.hid (hR.out.call hb)
      clear hb hR hr8
      have HLN := Lib.hid (show ¬ (coursesL s.hs s.height s.least).length ≤ 100 → errB (sheetB s) = 2 from fun h => HNO.out (.inr (.inr (.inr (.inr (.inr (.inr h)))))))
      generalize (coursesL s.hs s.height s.least).length = N at *
      by_cases hN1 : (N : Int) > 100
      · have HB := Lib.hid (HLN.out (by omega))
        go_wp2
        go_ret
        exact ⟨ret_int HB.out.symm, hT.out.be⟩
      · have HB := Lib.hid (HWZ.out (by omega))
        go_wp2
        go_ret
        exact ⟨ret_int HB.out.symm, hT.out.be⟩
    · have HTE := Lib.hid (throughB_2 ha)
      go_enter Tryz.func64, Tryz.ntmps64
      go_upto_region 1 with (refine wpList_bx (o := ⟨some 1, _, _, _, _, _⟩) rfl (Sy.enter w) _ _ rfl (cS s).toArray HV.out ?_; intro b V2 h2; have hC := Lib.hid h2; clear h2)
      have x9 : V2.cell? ⟨b, 9, none⟩ = some (.int .i64 s.every) := hC.out.cell 0 9 rfl rfl
      have x10 : V2.cell? ⟨b, 10, none⟩ = some (.int .i64 s.at_) := hC.out.cell 0 10 rfl rfl
      go_wp2_with fail
      refine (kept_any _ _ _ _ [(s.every, 1, 100000), (s.at_, 0, 3000)] ((hC.out.onew V2.heap.size #[.int .i64 s.every, .int .i64 1, .int .i64 100000, .int .i64 s.at_, .int .i64 0, .int .i64 3000] 167 3 2 rfl (by omega) rfl).osx 0 rfl)).mono ?_
      rintro e w2 ⟨rfl, hb⟩
      have hM := Lib.hid ((hC.out.row).call hb)
      clear hb hC x9 x10
      rw [← HTE.out]
      clear HTE
      have HTN := Lib.hid (show throughB s = false → errB (sheetB s) = 2 from fun h => HNO.out (.inr (.inl h)))
      obtain ⟨th, hth⟩ : ∃ th, throughB s = th := ⟨_, rfl⟩
      rw [hth]
      have HTH := Lib.hid hth
      clear hth
      have x1 : w2.cell? ⟨b, 1, none⟩ = some (.int .i64 s.base) := hM.out.cell 0 1 rfl rfl
      have x2 : w2.cell? ⟨b, 2, none⟩ = some (.int .i64 s.batter) := hM.out.cell 0 2 rfl rfl
      have x3 : w2.cell? ⟨b, 3, none⟩ = some (.int .i64 s.height) := hM.out.cell 0 3 rfl rfl
      have x4 : w2.cell? ⟨b, 4, none⟩ = some (.int .i64 s.skin) := hM.out.cell 0 4 rfl rfl
      have x5 : w2.cell? ⟨b, 5, none⟩ = some (.slice s.ha s.hn s.hc) := hM.out.cell 0 5 rfl rfl
      have x6 : w2.cell? ⟨b, 6, none⟩ = some (.int .i64 s.least) := hM.out.cell 0 6 rfl rfl
      have x7 : w2.cell? ⟨b, 7, none⟩ = some (.int .i64 s.lap) := hM.out.cell 0 7 rfl rfl
      have x8 : w2.cell? ⟨b, 8, none⟩ = some (.int .i64 s.run) := hM.out.cell 0 8 rfl rfl
      have x11 : w2.cell? ⟨b, 11, none⟩ = some (.int .i64 s.footing) := hM.out.cell 0 11 rfl rfl
      have x12 : w2.cell? ⟨b, 12, none⟩ = some (.int .i64 s.spread) := hM.out.cell 0 12 rfl rfl
      have x17 : w2.cell? ⟨b, 17, none⟩ = some (.int .i64 s.low) := hM.out.cell 0 17 rfl rfl
      have x18 : w2.cell? ⟨b, 18, none⟩ = some (.int .i64 s.high) := hM.out.cell 0 18 rfl rfl
      have x19 : w2.cell? ⟨b, 19, none⟩ = some (.int .i64 s.rood) := hM.out.cell 0 19 rfl rfl
      go_wp2_with fail
      refine (kept_any _ _ _ _ (shtNums s) ((hM.out.onew w2.heap.size #[.int .i64 s.base, .int .i64 1, .int .i64 3000, .int .i64 s.batter, .int .i64 0, .int .i64 500, .int .i64 s.height, .int .i64 1, .int .i64 3000, .int .i64 s.skin, .int .i64 1, .int .i64 1500, .int .i64 (s.hn : Int), .int .i64 1, .int .i64 12, .int .i64 s.least, .int .i64 1, .int .i64 1000, .int .i64 s.lap, .int .i64 0, .int .i64 500, .int .i64 s.run, .int .i64 1, .int .i64 20, .int .i64 s.footing, .int .i64 0, .int .i64 1000, .int .i64 s.spread, .int .i64 0, .int .i64 1000, .int .i64 s.low, .int .i64 0, .int .i64 s.high, .int .i64 s.high, .int .i64 0, .int .i64 2000, .int .i64 s.rood, .int .i64 1, .int .i64 100000] 167 3 13 rfl (by omega) rfl).osx 0 rfl)).mono ?_
      rintro e w3 ⟨rfl, hb⟩
      have hN := Lib.hid ((hM.out.row).call hb)
      clear hb hM x1 x2 x3 x4 x5 x6 x7 x8 x11 x12 x17 x18 x19
      obtain ⟨nu, hnu⟩ : ∃ nu, numsB s = nu := ⟨_, rfl⟩
      rw [show (shtNums s).all limB = nu from hnu]
      have HNUM := Lib.hid hnu
      clear hnu
      have x0 : w3.cell? ⟨b, 0, none⟩ = some (.string s.name) := hN.out.cell 0 0 rfl rfl
      go_wp2_with fail
      refine (planNamed_any _ _ HM.out).mono ?_
      rintro e w4 ⟨rfl, hb⟩
      have hO := Lib.hid (hN.out.call hb)
      clear hb hN x0
      cases hna : namedB s.name
      · have HNA := Lib.hid (HNO.out (.inl hna))
        clear hna
        as_aux_lemma =>
          go_wp2
          go_ret
          exact ⟨ret_int HNA.out.symm, hO.out.be⟩
      have HNA := Lib.hid hna
      clear hna
      cases th
      · have HNB := Lib.hid (HTN.out HTH.out)
        as_aux_lemma =>
          go_wp2
          go_ret
          exact ⟨ret_int HNB.out.symm, hO.out.be⟩
      clear HTN
      cases nu
      · have HNB := Lib.hid (HNO.out (.inr (.inr (.inl HNUM.out))))
        as_aux_lemma =>
          go_wp2
          go_ret
          exact ⟨ret_int HNB.out.symm, hO.out.be⟩
      obtain ⟨⟨n0, n1⟩, ⟨n2, n3⟩, ⟨n4, n5⟩, ⟨n6, n7⟩, n8, n9⟩ := nums_get HNUM.out
      have x5 : w4.cell? ⟨b, 5, none⟩ = some (.slice s.ha s.hn s.hc) := hO.out.cell 0 5 rfl rfl
      go_wp2_with fail
      refine (containsFunc_int _ _ _ _ 92 #[] (fun h => !inB h 1 1000) _ (hO.out.sx HS.out) eg_checkSheet1 (fun W _ x _ => checkSheet1_any W x)).mono ?_
      rintro e w5 ⟨rfl, hb⟩
      have hP := Lib.hid (hO.out.call hb)
      clear hb hO x5
      rw [HHE.out]
      cases hhe : heightsB s
      · have HB := Lib.hid (HNO.out (.inr (.inr (.inr (.inl hhe)))))
        clear hhe
        as_aux_lemma =>
          go_wp2
          go_ret
          exact ⟨ret_int HB.out.symm, hP.out.be⟩
      have HHT := Lib.hid hhe
      clear hhe
      go_wp2_with (refine wpList_ldg (o := ⟨some 87, _, _, _, _, _⟩) rfl _ _ rfl _ _ rfl (cS s) _ (hP.out.range 0 rfl) Tryz.underlying92 rfl info_Sheet V HV2.out ?_)
      refine (HCO.out _).mono ?_
      rintro e w6 ⟨rfl, hb⟩
      have hQ := Lib.hid (hP.out.call hb)
      clear hb hP
      cases hco : copedB s
      · have HB := Lib.hid (HNO.out (.inr (.inr (.inr (.inr (.inl hco))))))
        clear hco
        as_aux_lemma =>
          go_wp2
          go_ret
          exact ⟨ret_int HB.out.symm, hQ.out.be⟩
      have HCP := Lib.hid hco
      clear hco
      have x3 : w6.cell? ⟨b, 3, none⟩ = some (.int .i64 s.height) := hQ.out.cell 0 3 rfl rfl
      go_wp2_with (refine wpList_ldg (o := ⟨some 92, _, _, _, _, _⟩) rfl _ _ rfl _ _ rfl (cS s) _ (hQ.out.range 0 rfl) Tryz.underlying92 rfl info_Sheet V HV2.out ?_)
      refine (HWI.out _ _ ⟨n2, n3⟩ ⟨by omega, n5⟩ ⟨by omega, n1⟩).mono ?_
      rintro e w7 ⟨rfl, hb⟩
      have hR := Lib.hid (hQ.out.call hb)
      clear hb hQ x3
      have HW0 := Lib.hid (show ¬ 1 ≤ widthI s s.height → errB (sheetB s) = 2 from fun h => HNO.out (.inr (.inr (.inr (.inr (.inr (.inl (by omega))))))))
      have HWY := Lib.hid (fun h1 h7 => HYES.out HNA.out HTH.out HNUM.out HHT.out HCP.out h1 h7)
      generalize widthI s s.height = wi at *
      by_cases hw1 : wi < 1
      · have HB := Lib.hid (HW0.out (by omega))
        as_aux_lemma =>
          go_wp2
          go_ret
          exact ⟨ret_int HB.out.symm, hR.out.be⟩
      have HWZ := Lib.hid (HWY.out (by omega))
      have dw : decide (wi < 1) = false := decide_eq_false hw1
      clear HWY HW0
      go_wp2_with (refine wpList_ldg (o := ⟨some 99, _, _, _, _, _⟩) rfl _ _ rfl _ _ rfl (cS s) _ (hR.out.range 0 rfl) Tryz.underlying92 rfl info_Sheet V HV2.out ?_)
      refine (HCR.out _ (hR.out.sx HS.out) (by omega) (heights_get HHT.out) ⟨n4, n5⟩ n8).mono ?_
      rintro e w8 ⟨a8, c8, rfl, hr8, hb⟩
      have hT := Lib.hid (hR.out.call hb)
      clear hb hR hr8
      have HLN := Lib.hid (show ¬ (coursesL s.hs s.height s.least).length ≤ 100 → errB (sheetB s) = 2 from fun h => HNO.out (.inr (.inr (.inr (.inr (.inr (.inr h)))))))
      generalize (coursesL s.hs s.height s.least).length = N at *
      by_cases hN1 : (N : Int) > 100
      · have HB := Lib.hid (HLN.out (by omega))
        go_wp2
        go_ret
        exact ⟨ret_int HB.out.symm, hT.out.be⟩
      · have HB := Lib.hid (HWZ.out (by omega))
        go_wp2
        go_ret
        exact ⟨ret_int HB.out.symm, hT.out.be⟩
  · have HTE := Lib.hid (throughB_3 he)
    go_enter Tryz.func64, Tryz.ntmps64
    go_upto_region 1 with (refine wpList_bx (o := ⟨some 1, _, _, _, _, _⟩) rfl (Sy.enter w) _ _ rfl (cS s).toArray HV.out ?_; intro b V2 h2; have hC := Lib.hid h2; clear h2)
    have x9 : V2.cell? ⟨b, 9, none⟩ = some (.int .i64 s.every) := hC.out.cell 0 9 rfl rfl
    have x10 : V2.cell? ⟨b, 10, none⟩ = some (.int .i64 s.at_) := hC.out.cell 0 10 rfl rfl
    go_wp2_with fail
    refine (kept_any _ _ _ _ [(s.every, 1, 100000), (s.at_, 0, 3000)] ((hC.out.onew V2.heap.size #[.int .i64 s.every, .int .i64 1, .int .i64 100000, .int .i64 s.at_, .int .i64 0, .int .i64 3000] 167 3 2 rfl (by omega) rfl).osx 0 rfl)).mono ?_
    rintro e w2 ⟨rfl, hb⟩
    have hM := Lib.hid ((hC.out.row).call hb)
    clear hb hC x9 x10
    rw [← HTE.out]
    clear HTE
    have HTN := Lib.hid (show throughB s = false → errB (sheetB s) = 2 from fun h => HNO.out (.inr (.inl h)))
    obtain ⟨th, hth⟩ : ∃ th, throughB s = th := ⟨_, rfl⟩
    rw [hth]
    have HTH := Lib.hid hth
    clear hth
    have x1 : w2.cell? ⟨b, 1, none⟩ = some (.int .i64 s.base) := hM.out.cell 0 1 rfl rfl
    have x2 : w2.cell? ⟨b, 2, none⟩ = some (.int .i64 s.batter) := hM.out.cell 0 2 rfl rfl
    have x3 : w2.cell? ⟨b, 3, none⟩ = some (.int .i64 s.height) := hM.out.cell 0 3 rfl rfl
    have x4 : w2.cell? ⟨b, 4, none⟩ = some (.int .i64 s.skin) := hM.out.cell 0 4 rfl rfl
    have x5 : w2.cell? ⟨b, 5, none⟩ = some (.slice s.ha s.hn s.hc) := hM.out.cell 0 5 rfl rfl
    have x6 : w2.cell? ⟨b, 6, none⟩ = some (.int .i64 s.least) := hM.out.cell 0 6 rfl rfl
    have x7 : w2.cell? ⟨b, 7, none⟩ = some (.int .i64 s.lap) := hM.out.cell 0 7 rfl rfl
    have x8 : w2.cell? ⟨b, 8, none⟩ = some (.int .i64 s.run) := hM.out.cell 0 8 rfl rfl
    have x11 : w2.cell? ⟨b, 11, none⟩ = some (.int .i64 s.footing) := hM.out.cell 0 11 rfl rfl
    have x12 : w2.cell? ⟨b, 12, none⟩ = some (.int .i64 s.spread) := hM.out.cell 0 12 rfl rfl
    have x17 : w2.cell? ⟨b, 17, none⟩ = some (.int .i64 s.low) := hM.out.cell 0 17 rfl rfl
    have x18 : w2.cell? ⟨b, 18, none⟩ = some (.int .i64 s.high) := hM.out.cell 0 18 rfl rfl
    have x19 : w2.cell? ⟨b, 19, none⟩ = some (.int .i64 s.rood) := hM.out.cell 0 19 rfl rfl
    go_wp2_with fail
    refine (kept_any _ _ _ _ (shtNums s) ((hM.out.onew w2.heap.size #[.int .i64 s.base, .int .i64 1, .int .i64 3000, .int .i64 s.batter, .int .i64 0, .int .i64 500, .int .i64 s.height, .int .i64 1, .int .i64 3000, .int .i64 s.skin, .int .i64 1, .int .i64 1500, .int .i64 (s.hn : Int), .int .i64 1, .int .i64 12, .int .i64 s.least, .int .i64 1, .int .i64 1000, .int .i64 s.lap, .int .i64 0, .int .i64 500, .int .i64 s.run, .int .i64 1, .int .i64 20, .int .i64 s.footing, .int .i64 0, .int .i64 1000, .int .i64 s.spread, .int .i64 0, .int .i64 1000, .int .i64 s.low, .int .i64 0, .int .i64 s.high, .int .i64 s.high, .int .i64 0, .int .i64 2000, .int .i64 s.rood, .int .i64 1, .int .i64 100000] 167 3 13 rfl (by omega) rfl).osx 0 rfl)).mono ?_
    rintro e w3 ⟨rfl, hb⟩
    have hN := Lib.hid ((hM.out.row).call hb)
    clear hb hM x1 x2 x3 x4 x5 x6 x7 x8 x11 x12 x17 x18 x19
    obtain ⟨nu, hnu⟩ : ∃ nu, numsB s = nu := ⟨_, rfl⟩
    rw [show (shtNums s).all limB = nu from hnu]
    have HNUM := Lib.hid hnu
    clear hnu
    have x0 : w3.cell? ⟨b, 0, none⟩ = some (.string s.name) := hN.out.cell 0 0 rfl rfl
    go_wp2_with fail
    refine (planNamed_any _ _ HM.out).mono ?_
    rintro e w4 ⟨rfl, hb⟩
    have hO := Lib.hid (hN.out.call hb)
    clear hb hN x0
    cases hna : namedB s.name
    · have HNA := Lib.hid (HNO.out (.inl hna))
      clear hna
      as_aux_lemma =>
        go_wp2
        go_ret
        exact ⟨ret_int HNA.out.symm, hO.out.be⟩
    have HNA := Lib.hid hna
    clear hna
    cases th
    · have HNB := Lib.hid (HTN.out HTH.out)
      as_aux_lemma =>
        go_wp2
        go_ret
        exact ⟨ret_int HNB.out.symm, hO.out.be⟩
    clear HTN
    cases nu
    · have HNB := Lib.hid (HNO.out (.inr (.inr (.inl HNUM.out))))
      as_aux_lemma =>
        go_wp2
        go_ret
        exact ⟨ret_int HNB.out.symm, hO.out.be⟩
    obtain ⟨⟨n0, n1⟩, ⟨n2, n3⟩, ⟨n4, n5⟩, ⟨n6, n7⟩, n8, n9⟩ := nums_get HNUM.out
    have x5 : w4.cell? ⟨b, 5, none⟩ = some (.slice s.ha s.hn s.hc) := hO.out.cell 0 5 rfl rfl
    go_wp2_with fail
    refine (containsFunc_int _ _ _ _ 92 #[] (fun h => !inB h 1 1000) _ (hO.out.sx HS.out) eg_checkSheet1 (fun W _ x _ => checkSheet1_any W x)).mono ?_
    rintro e w5 ⟨rfl, hb⟩
    have hP := Lib.hid (hO.out.call hb)
    clear hb hO x5
    rw [HHE.out]
    cases hhe : heightsB s
    · have HB := Lib.hid (HNO.out (.inr (.inr (.inr (.inl hhe)))))
      clear hhe
      as_aux_lemma =>
        go_wp2
        go_ret
        exact ⟨ret_int HB.out.symm, hP.out.be⟩
    have HHT := Lib.hid hhe
    clear hhe
    go_wp2_with (refine wpList_ldg (o := ⟨some 87, _, _, _, _, _⟩) rfl _ _ rfl _ _ rfl (cS s) _ (hP.out.range 0 rfl) Tryz.underlying92 rfl info_Sheet V HV2.out ?_)
    refine (HCO.out _).mono ?_
    rintro e w6 ⟨rfl, hb⟩
    have hQ := Lib.hid (hP.out.call hb)
    clear hb hP
    cases hco : copedB s
    · have HB := Lib.hid (HNO.out (.inr (.inr (.inr (.inr (.inl hco))))))
      clear hco
      as_aux_lemma =>
        go_wp2
        go_ret
        exact ⟨ret_int HB.out.symm, hQ.out.be⟩
    have HCP := Lib.hid hco
    clear hco
    have x3 : w6.cell? ⟨b, 3, none⟩ = some (.int .i64 s.height) := hQ.out.cell 0 3 rfl rfl
    go_wp2_with (refine wpList_ldg (o := ⟨some 92, _, _, _, _, _⟩) rfl _ _ rfl _ _ rfl (cS s) _ (hQ.out.range 0 rfl) Tryz.underlying92 rfl info_Sheet V HV2.out ?_)
    refine (HWI.out _ _ ⟨n2, n3⟩ ⟨by omega, n5⟩ ⟨by omega, n1⟩).mono ?_
    rintro e w7 ⟨rfl, hb⟩
    have hR := Lib.hid (hQ.out.call hb)
    clear hb hQ x3
    have HW0 := Lib.hid (show ¬ 1 ≤ widthI s s.height → errB (sheetB s) = 2 from fun h => HNO.out (.inr (.inr (.inr (.inr (.inr (.inl (by omega))))))))
    have HWY := Lib.hid (fun h1 h7 => HYES.out HNA.out HTH.out HNUM.out HHT.out HCP.out h1 h7)
    generalize widthI s s.height = wi at *
    by_cases hw1 : wi < 1
    · have HB := Lib.hid (HW0.out (by omega))
      as_aux_lemma =>
        go_wp2
        go_ret
        exact ⟨ret_int HB.out.symm, hR.out.be⟩
    have HWZ := Lib.hid (HWY.out (by omega))
    have dw : decide (wi < 1) = false := decide_eq_false hw1
    clear HWY HW0
    go_wp2_with (refine wpList_ldg (o := ⟨some 99, _, _, _, _, _⟩) rfl _ _ rfl _ _ rfl (cS s) _ (hR.out.range 0 rfl) Tryz.underlying92 rfl info_Sheet V HV2.out ?_)
    refine (HCR.out _ (hR.out.sx HS.out) (by omega) (heights_get HHT.out) ⟨n4, n5⟩ n8).mono ?_
    rintro e w8 ⟨a8, c8, rfl, hr8, hb⟩
    have hT := Lib.hid (hR.out.call hb)
    clear hb hR hr8
    have HLN := Lib.hid (show ¬ (coursesL s.hs s.height s.least).length ≤ 100 → errB (sheetB s) = 2 from fun h => HNO.out (.inr (.inr (.inr (.inr (.inr (.inr h)))))))
    generalize (coursesL s.hs s.height s.least).length = N at *
    by_cases hN1 : (N : Int) > 100
    · have HB := Lib.hid (HLN.out (by omega))
      go_wp2
      go_ret
      exact ⟨ret_int HB.out.symm, hT.out.be⟩
    · have HB := Lib.hid (HWZ.out (by omega))
      go_wp2
      go_ret
      exact ⟨ret_int HB.out.symm, hT.out.be⟩
end
end Go.Proofs.YtchignmnnbepnaaGreat
namespace Go.Proofs.YtchignmnnbepnaaGreat
open Go.RowKit
/-- an opening's numbers are small -/
def smallO (o : Opn) : Prop := (0 ≤ o.at_ ∧ o.at_ ≤ 100000) ∧ (0 ≤ o.wide ∧ o.wide ≤ 100000) ∧ (0 ≤ o.fro ∧ o.fro ≤ 100000) ∧ (0 ≤ o.high ∧ o.high ≤ 100000)
theorem fits_small {o : Opn} {len H : Int} (h : fitsB o len H = true) (hl : len ≤ 100000) (hH : H ≤ 100000) : smallO o := by
  unfold fitsB at h
  simp only [Bool.and_eq_true] at h
  have h := List.all_eq_true.1 h.1.1
  have a1 := lim_iff.1 (h _ (by simp [openNums] : (o.wide, 1, len) ∈ openNums o len H))
  have a2 := lim_iff.1 (h _ (by simp [openNums] : (o.at_, 0, len - o.wide) ∈ openNums o len H))
  have a3 := lim_iff.1 (h _ (by simp [openNums] : (o.high, 1, H) ∈ openNums o len H))
  have a4 := lim_iff.1 (h _ (by simp [openNums] : (o.fro, 0, H - o.high) ∈ openNums o len H))
  dsimp only at a1 a2 a3 a4
  unfold smallO
  omega
section
variable (w : World)
set_option maxHeartbeats 4000000 in
set_option maxRecDepth 100000 in
theorem meets_any (o p : Opn) (h1 : smallO o) (h2 : smallO p) : Calls Tryz.prog 101 #[aO o, aO p] w (Gives (.bool (meetsO o p)) w) := by
  obtain ⟨o0, o1, o2, o3, o4⟩ := o
  obtain ⟨p0, p1, p2, p3, p4⟩ := p
  unfold smallO at h1 h2
  dsimp only at h1 h2
  obtain ⟨⟨a0, a1⟩, ⟨a2, a3⟩, ⟨a4, a5⟩, a6, a7⟩ := h1
  obtain ⟨⟨b0, b1⟩, ⟨b2, b3⟩, ⟨b4, b5⟩, b6, b7⟩ := h2
  unfold meetsO
  dsimp only
  have hC := Lib.hid (((Sy.enter w).al w.heap.size #[.int .u8 o0, .int .i64 o1, .int .i64 o2, .int .i64 o3, .int .i64 o4] 95 rfl).al (w.heap.size + 1) #[.int .u8 p0, .int .i64 p1, .int .i64 p2, .int .i64 p3, .int .i64 p4] 95 (by simp))
  by_cases c1 : o1 < p1 + p2
  rotate_left
  · have D := Lib.hid (decide_eq_false c1)
    go_enter Tryz.func101, Tryz.ntmps101
    go_wp2
    go_ret
    exact ⟨ret_bool (by rw [D.out]; simp), hC.out.be⟩
  by_cases c2 : p1 < o1 + o2
  rotate_left
  · have D := Lib.hid (decide_eq_false c2)
    go_enter Tryz.func101, Tryz.ntmps101
    go_wp2
    go_ret
    exact ⟨ret_bool (by rw [D.out]; simp), hC.out.be⟩
  by_cases c3 : o3 < p3 + p4
  rotate_left
  · have D := Lib.hid (decide_eq_false c3)
    go_enter Tryz.func101, Tryz.ntmps101
    go_wp2
    go_ret
    exact ⟨ret_bool (by rw [D.out]; simp), hC.out.be⟩
  have D1 := Lib.hid (decide_eq_true c1)
  have D2 := Lib.hid (decide_eq_true c2)
  have D3 := Lib.hid (decide_eq_true c3)
  by_cases c4 : p3 < o3 + o4
  · have D4 := Lib.hid (decide_eq_true c4)
    go_enter Tryz.func101, Tryz.ntmps101
    go_wp2
    go_ret
    exact ⟨ret_bool (by rw [D1.out, D2.out, D3.out, D4.out]; rfl), hC.out.be⟩
  · have D4 := Lib.hid (decide_eq_false c4)
    go_enter Tryz.func101, Tryz.ntmps101
    go_wp2
    go_ret
    exact ⟨ret_bool (by simp [D4.out]), hC.out.be⟩
/-- the numbers of an opening, as the program lays them: differences may wrap -/
theorem fits_nums {o : Opn} {len H W1 W2 : Int} (h1 : 1 ≤ o.wide → o.wide ≤ len → W1 = len - o.wide) (h2 : 1 ≤ o.high → o.high ≤ H → W2 = H - o.high) :
    [(o.kind, 1, 4), (len, 1, 100000), (o.wide, 1, len), (o.at_, 0, W1), (o.high, 1, H), (o.fro, 0, W2)].all limB = (openNums o len H).all limB := by
  rw [Bool.eq_iff_iff, List.all_eq_true, List.all_eq_true]
  unfold openNums
  simp only [List.mem_cons, List.not_mem_nil, or_false, forall_eq_or_imp, forall_eq, lim_iff]
  constructor
  · rintro ⟨a, b, c, d, e, f⟩
    rw [h1 c.1 c.2] at d
    rw [h2 e.1 e.2] at f
    exact ⟨a, b, c, d, e, f⟩
  · rintro ⟨a, b, c, d, e, f⟩
    have d' := d
    have f' := f
    rw [← h1 c.1 c.2] at d'
    rw [← h2 e.1 e.2] at f'
    exact ⟨a, b, c, d', e, f'⟩
set_option maxHeartbeats 8000000 in
set_option maxRecDepth 100000 in
theorem fits_any (o : Opn) (x : Wal) (s : Sht) (hk : 0 ≤ o.kind ∧ o.kind ≤ 255) (hl : 1 ≤ x.len ∧ x.len ≤ 100000) (hH : 1 ≤ s.height ∧ s.height ≤ 3000) : Calls Tryz.prog 99 #[aO o, aW x, aS s] w (Gives (.bool (fitsB o x.len s.height)) w) := by
  obtain ⟨W1, hW1⟩ : ∃ W1, IntKind.i64.wrap (x.len - o.wide) = W1 := ⟨_, rfl⟩
  obtain ⟨W2, hW2⟩ : ∃ W2, IntKind.i64.wrap (s.height - o.high) = W2 := ⟨_, rfl⟩
  have HN := Lib.hid (fits_nums (o := o) (len := x.len) (H := s.height) (W1 := W1) (W2 := W2) (fun h1 h2 => by rw [← hW1]; exact IntWalk.i64_in _ (by omega)) (fun h1 h2 => by rw [← hW2]; exact IntWalk.i64_in _ (by omega)))
  have HG := Lib.hid (fun (h : (openNums o x.len s.height).all limB = true) => by
    have h := List.all_eq_true.1 h
    have a3 := lim_iff.1 (h _ (by simp [openNums] : (o.high, 1, s.height) ∈ openNums o x.len s.height))
    have a4 := lim_iff.1 (h _ (by simp [openNums] : (o.fro, 0, s.height - o.high) ∈ openNums o x.len s.height))
    exact (⟨a3, a4⟩ : (1 ≤ o.high ∧ o.high ≤ s.height) ∧ 0 ≤ o.fro ∧ o.fro ≤ s.height - o.high))
  have HE := Lib.hid (show fitsB o x.len s.height = ((openNums o x.len s.height).all limB && (!(o.kind == 3) || (o.fro + o.high == s.height)) && (!(o.kind == 4) || ((o.fro + o.high == s.height) && (o.fro == 0)))) from rfl)
  obtain ⟨V, hV⟩ : ∃ V, aS s = V := ⟨_, rfl⟩
  have HV := Lib.hid (show V.cells = (cS s).toArray by rw [← hV]; rfl)
  rw [hV]
  obtain ⟨U, hU⟩ : ∃ U, aW x = U := ⟨_, rfl⟩
  have HU := Lib.hid (show U.cells = (cWa x).toArray by rw [← hU]; rfl)
  rw [hU]
  obtain ⟨O, hO⟩ : ∃ O, aO o = O := ⟨_, rfl⟩
  have HO := Lib.hid (show O.cells = (cO o).toArray by rw [← hO]; rfl)
  rw [hO]
  have k0 := hk.1
  have k1 := hk.2
  have hH1 := hH.2
  clear hV hU hO hl hH hk
  generalize fitsB o x.len s.height = R at *
  go_enter Tryz.func99, Tryz.ntmps99
  go_upto_region 1 with (first | (refine wpList_bx (o := ⟨some 3, _, _, _, _, _⟩) rfl (Sy.enter w) _ _ rfl (cO o).toArray HO.out ?_; intro bo V1 h1; have hC1 := Lib.hid h1; clear h1) | (refine wpList_bx (o := ⟨some 4, _, _, _, _, _⟩) rfl hC1.out _ _ rfl (cWa x).toArray HU.out ?_; intro bx V2 h2; have hC2 := Lib.hid h2; clear h2) | (refine wpList_bx (o := ⟨some 5, _, _, _, _, _⟩) rfl hC2.out _ _ rfl (cS s).toArray HV.out ?_; intro bs V3 h3; have hC := Lib.hid h3; clear h3 hC1 hC2) | fail)
  have x0 : V3.cell? ⟨bo, 0, none⟩ = some (.int .u8 o.kind) := hC.out.cell 0 0 rfl rfl
  have x1 : V3.cell? ⟨bo, 1, none⟩ = some (.int .i64 o.at_) := hC.out.cell 0 1 rfl rfl
  have x2 : V3.cell? ⟨bo, 2, none⟩ = some (.int .i64 o.wide) := hC.out.cell 0 2 rfl rfl
  have x3 : V3.cell? ⟨bo, 3, none⟩ = some (.int .i64 o.fro) := hC.out.cell 0 3 rfl rfl
  have x4 : V3.cell? ⟨bo, 4, none⟩ = some (.int .i64 o.high) := hC.out.cell 0 4 rfl rfl
  have y2 : V3.cell? ⟨bx, 2, none⟩ = some (.int .i64 x.len) := hC.out.cell 1 2 rfl rfl
  have z3 : V3.cell? ⟨bs, 3, none⟩ = some (.int .i64 s.height) := hC.out.cell 2 3 rfl rfl
  go_wp2_with fail
  refine (kept_any _ _ _ _ [(o.kind, 1, 4), (x.len, 1, 100000), (o.wide, 1, x.len), (o.at_, 0, W1), (o.high, 1, s.height), (o.fro, 0, W2)] ((hC.out.onew V3.heap.size #[.int .i64 o.kind, .int .i64 1, .int .i64 4, .int .i64 x.len, .int .i64 1, .int .i64 100000, .int .i64 o.wide, .int .i64 1, .int .i64 x.len, .int .i64 o.at_, .int .i64 0, .int .i64 W1, .int .i64 o.high, .int .i64 1, .int .i64 s.height, .int .i64 o.fro, .int .i64 0, .int .i64 W2] 167 3 6 rfl (by omega) rfl).osx 0 rfl)).mono ?_
  rintro e w4 ⟨rfl, hb⟩
  have hD := Lib.hid ((hC.out.row).call hb)
  clear hb hC x0 x1 x2 x3 x4 y2 z3
  rw [HN.out]
  have x0 : w4.cell? ⟨bo, 0, none⟩ = some (.int .u8 o.kind) := hD.out.cell 0 0 rfl rfl
  have x3 : w4.cell? ⟨bo, 3, none⟩ = some (.int .i64 o.fro) := hD.out.cell 0 3 rfl rfl
  have x4 : w4.cell? ⟨bo, 4, none⟩ = some (.int .i64 o.high) := hD.out.cell 0 4 rfl rfl
  have z3 : w4.cell? ⟨bs, 3, none⟩ = some (.int .i64 s.height) := hD.out.cell 2 3 rfl rfl
  clear HN hW1 hW2
  generalize (openNums o x.len s.height).all limB = B at *
  cases B
  · go_wp2
    go_ret
    exact ⟨ret_bool (by rw [HE.out]; rfl), hD.out.be⟩
  obtain ⟨⟨q0, q1⟩, q2, q3⟩ := HG.out rfl
  clear HG
  cases c1 : (o.kind == 3) <;> cases c2 : (o.kind == 4) <;> cases c3 : (o.fro + o.high == s.height) <;> cases c4 : (o.fro == 0)
  all_goals
    have HF := Lib.hid (show R = _ by rw [HE.out, c1, c2, c3, c4])
    have d1 : (o.kind != 3) = !(o.kind == 3) := rfl
    have d2 : (o.kind != 4) = !(o.kind == 4) := rfl
    rw [c1] at d1
    rw [c2] at d2
    clear HE
    go_wp2
    go_ret
    exact ⟨ret_bool (by rw [HF.out]; rfl), hD.out.be⟩
end
end Go.Proofs.YtchignmnnbepnaaGreat

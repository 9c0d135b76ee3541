/- the law GangProves, walked -/
import Derived.Test.YteogibpmpppgmaaGreatK24
namespace Go.Proofs.YteogibpmpppgmaaGreat
open Go.RowKit
section
variable (w : World)
set_option maxRecDepth 100000 in
set_option maxHeartbeats 8000000 in
theorem gangProves_walk (a2 a3 a5 : Option Addr) (n2 c2 n3 c3 n5 c5 : Nat) (L days : Int) (F : List Int) (l : List WL) (st : List I3) (hs2 : Sx 1 w a2 n2 c2 (L1 F)) (hs3 : Sx 3 w a3 n3 c3 (LW l)) (hs5 : Sx 3 w a5 n5 c5 (L3 st)) (hn : ∀ x ∈ l, x.1.size ≤ maxLen) :
    Calls Tryz.prog 4 #[.int .i64 L, .slice a2 n2 c2, .slice a3 n3 c3, .int .i64 days, .slice a5 n5 c5] w (Gives (.bool true) w) := by
  have cap2 := hs2.cap
  have cap3 := hs3.cap
  have cap5 := hs5.cap
  unfold maxLen at cap2 cap3 cap5
  obtain rfl := hs2.n1
  obtain rfl := hs3.nW
  obtain rfl := hs5.n3
  have HW := Lib.hid wakes_any
  have HS2 := Lib.hid hs2
  have HS3 := Lib.hid hs3
  have HS5 := Lib.hid hs5
  have HN := Lib.hid hn
  clear hs2 hs3 hs5 hn
  have hcase : ((F.length : Int) > 70) ∨ (¬ ((F.length : Int) > 70) ∧ ((l.length : Int) > 20)) ∨ (¬ ((F.length : Int) > 70) ∧ ¬ ((l.length : Int) > 20) ∧ ((st.length : Int) > 20)) ∨ (¬ ((F.length : Int) > 70) ∧ ¬ ((l.length : Int) > 20) ∧ ¬ ((st.length : Int) > 20)) := by omega
  rcases hcase with g0 | ⟨g0, g1⟩ | ⟨g0, g1, g2⟩ | ⟨g0, g1, g2⟩
  · go_enter Tryz.func4, Tryz.ntmps4
    have hC := Lib.hid (Sy.enter w)
    go_wp2_with fail
    refine (HW.out _).mono ?_
    rintro e V ⟨rfl, hb⟩
    have hZ := Lib.hid (hC.out.call hb)
    clear hb
    go_wp2
    go_ret
    exact ⟨rfl, hZ.out.be⟩
  · go_enter Tryz.func4, Tryz.ntmps4
    have hC := Lib.hid (Sy.enter w)
    go_wp2_with fail
    refine (HW.out _).mono ?_
    rintro e V ⟨rfl, hb⟩
    have hZ := Lib.hid (hC.out.call hb)
    clear hb
    go_wp2
    go_ret
    exact ⟨rfl, hZ.out.be⟩
  · go_enter Tryz.func4, Tryz.ntmps4
    have hC := Lib.hid (Sy.enter w)
    go_wp2_with fail
    refine (HW.out _).mono ?_
    rintro e V ⟨rfl, hb⟩
    have hZ := Lib.hid (hC.out.call hb)
    clear hb
    go_wp2
    go_ret
    exact ⟨rfl, hZ.out.be⟩
  · have HCG := Lib.hid (fun W (h : Below w.heap.size w W) => conv_Waller2 a3 _ c3 l W (HS3.out.below h) (by omega))
    have HCS := Lib.hid (fun W (h : Below w.heap.size w W) => conv_Stint2 a5 _ c5 st W (HS5.out.below h) (by omega))
    have HRG := Lib.hid (fun W (h : Below w.heap.size w W) => refGang_any W a3 _ c3 l (HS3.out.below h) HN.out)
    have HRF := Lib.hid (fun W (h : Below w.heap.size w W) => refFrames_any W a2 _ c2 L F (HS2.out.below h))
    have HPD := Lib.hid (fun W b b' d d' (h0 : Sx 3 W b l.length d (LW l)) (h1 : Sx 3 W b' st.length d' (L3 st)) (h : Below w.heap.size w W) => proveDays_any W a2 b b' _ c2 _ d _ d' L days F l st (HS2.out.below h) h0 h1 HN.out)
    have hC := Lib.hid (Sy.enter w)
    cases hrb : rightB L F l
    · have hsp := rightB_split L F l
      rw [hrb] at hsp HPD
      rw [Bool.false_and] at HPD
      clear hrb
      cases hg : gangB l
      · rw [hg] at HRG
        clear hg hsp HRF
        go_enter Tryz.func4, Tryz.ntmps4
        go_wp2_with fail
        refine (HRG.out _ hC.out.be).mono ?_
        rintro e V1 ⟨rfl, hb⟩
        have hD := Lib.hid (hC.out.call hb)
        clear hb
        go_wp2_with fail
        refine (HCG.out _ hD.out.be).mono ?_
        rintro e V1 ⟨a6, c6, rfl, hr, hb⟩
        have hT1 := Lib.hid (hD.out.adopt hb hr)
        clear hb hr
        go_wp2_with fail
        refine (HCS.out _ hT1.out.be).mono ?_
        rintro e V2 ⟨a7, c7, rfl, hr, hb⟩
        have hT2 := Lib.hid (hT1.out.adopt hb hr)
        clear hb hr
        have hT3 : Hid (Sy w V2 [] [⟨.slice a6 l.length c6, 44, 3, l.length, LW l⟩, ⟨.slice a7 st.length c7, 99, 3, st.length, L3 st⟩] []) := Lib.hid (hT2.out.thin (List.nil_sublist _) (List.Sublist.refl _))
        go_wp2_with fail
        refine (HPD.out _ _ _ _ _ (hT3.out.osx 0 rfl) (hT3.out.osx 1 rfl) hT3.out.be).mono ?_
        rintro e V3 ⟨rfl, hb⟩
        have hT4 := Lib.hid (hT3.out.call hb)
        clear hb
        go_wp2_with fail
        refine (HW.out _).mono ?_
        rintro e V ⟨rfl, hb⟩
        have hZ := Lib.hid (hT4.out.call hb)
        clear hb
        go_wp2
        go_ret
        exact ⟨rfl, hZ.out.be⟩
      · have hf : framesB L F = false := by rw [hg] at hsp; exact hsp.symm
        rw [hg] at HRG
        rw [hf] at HRF
        clear hg hsp hf
        go_enter Tryz.func4, Tryz.ntmps4
        go_wp2_with fail
        refine (HRG.out _ hC.out.be).mono ?_
        rintro e V1 ⟨rfl, hb⟩
        have hD := Lib.hid (hC.out.call hb)
        clear hb
        go_wp2_with fail
        refine (HRF.out _ hD.out.be).mono ?_
        rintro e V2 ⟨rfl, hb⟩
        have hE := Lib.hid (hD.out.call hb)
        clear hb
        go_wp2_with fail
        refine (HCG.out _ hE.out.be).mono ?_
        rintro e V1 ⟨a6, c6, rfl, hr, hb⟩
        have hT1 := Lib.hid (hE.out.adopt hb hr)
        clear hb hr
        go_wp2_with fail
        refine (HCS.out _ hT1.out.be).mono ?_
        rintro e V2 ⟨a7, c7, rfl, hr, hb⟩
        have hT2 := Lib.hid (hT1.out.adopt hb hr)
        clear hb hr
        have hT3 : Hid (Sy w V2 [] [⟨.slice a6 l.length c6, 44, 3, l.length, LW l⟩, ⟨.slice a7 st.length c7, 99, 3, st.length, L3 st⟩] []) := Lib.hid (hT2.out.thin (List.nil_sublist _) (List.Sublist.refl _))
        go_wp2_with fail
        refine (HPD.out _ _ _ _ _ (hT3.out.osx 0 rfl) (hT3.out.osx 1 rfl) hT3.out.be).mono ?_
        rintro e V3 ⟨rfl, hb⟩
        have hT4 := Lib.hid (hT3.out.call hb)
        clear hb
        go_wp2_with fail
        refine (HW.out _).mono ?_
        rintro e V ⟨rfl, hb⟩
        have hZ := Lib.hid (hT4.out.call hb)
        clear hb
        go_wp2
        go_ret
        exact ⟨rfl, hZ.out.be⟩
    · obtain ⟨hR, hF6, hg⟩ := rightB_iff.1 hrb
      have hl := (gangB_len hg).2
      have hp : ∀ x ∈ l, 1 ≤ x.2.1 ∧ x.2.1 ≤ 20000 := fun x hx => (gangB_row hg x hx).1
      have hRP := gangB_paces hg
      have hf : framesB L F = true := by have h := rightB_split L F l; rw [hrb, hg] at h; exact h.symm
      have hpe := proves_eq hR hRP days st
      rw [hrb, Bool.true_and, hpe] at HPD
      rw [hg] at HRG
      rw [hf] at HRF
      have HRD := Lib.hid (fun W (d : Int) (h0 : 0 ≤ d) (h1 : d ≤ 1000000) (h : Below w.heap.size w W) => refDivision_any W a2 a3 a5 _ c2 _ c3 _ c5 L d F l st (HS2.out.below h) (HS3.out.below h) (HS5.out.below h) hR hl hp h0 h1)
      have HRE := Lib.hid (fun W (d : Int) (h0 : 0 ≤ d) (h1 : d ≤ 1000000) (h : Below w.heap.size w W) => refEager_any W a2 a3 _ c2 _ c3 L d F l (HS2.out.below h) (HS3.out.below h) hR hF6 hl hp h0 h1)
      unfold RetEagerR at HRE
      clear hg hf hrb hR hp hRP hpe
      unfold provesR at HPD
      by_cases hd1 : 1 ≤ days
      rotate_left
      · rw [decide_eq_false hd1, Bool.false_and, Bool.false_and] at HPD
        have hd2 : ¬ days ≥ 1 := hd1
        go_enter Tryz.func4, Tryz.ntmps4
        go_wp2_with fail
        refine (HRG.out _ hC.out.be).mono ?_
        rintro e V1 ⟨rfl, hb⟩
        have hD := Lib.hid (hC.out.call hb)
        clear hb
        go_wp2_with fail
        refine (HRF.out _ hD.out.be).mono ?_
        rintro e V2 ⟨rfl, hb⟩
        have hE := Lib.hid (hD.out.call hb)
        clear hb
        go_wp2_with fail
        refine (HCG.out _ hE.out.be).mono ?_
        rintro e V1 ⟨a6, c6, rfl, hr, hb⟩
        have hT1 := Lib.hid (hE.out.adopt hb hr)
        clear hb hr
        go_wp2_with fail
        refine (HCS.out _ hT1.out.be).mono ?_
        rintro e V2 ⟨a7, c7, rfl, hr, hb⟩
        have hT2 := Lib.hid (hT1.out.adopt hb hr)
        clear hb hr
        have hT3 : Hid (Sy w V2 [] [⟨.slice a6 l.length c6, 44, 3, l.length, LW l⟩, ⟨.slice a7 st.length c7, 99, 3, st.length, L3 st⟩] []) := Lib.hid (hT2.out.thin (List.nil_sublist _) (List.Sublist.refl _))
        go_wp2_with fail
        refine (HPD.out _ _ _ _ _ (hT3.out.osx 0 rfl) (hT3.out.osx 1 rfl) hT3.out.be).mono ?_
        rintro e V3 ⟨rfl, hb⟩
        have hT4 := Lib.hid (hT3.out.call hb)
        clear hb
        go_wp2_with fail
        refine (HW.out _).mono ?_
        rintro e V ⟨rfl, hb⟩
        have hZ := Lib.hid (hT4.out.call hb)
        clear hb
        go_wp2
        go_ret
        exact ⟨rfl, hZ.out.be⟩
      rw [decide_eq_true hd1, Bool.true_and] at HPD
      obtain ⟨d, hd⟩ : ∃ d, min days 400000 = d := ⟨_, rfl⟩
      have hdb : 1 ≤ d ∧ d ≤ 400000 := by omega
      rw [hd] at HPD
      have HRD2 := Lib.hid (fun W h => HRD.out W d (by omega) (by omega) h)
      have HRE2 := Lib.hid (fun W h => HRE.out W (d - 1) (by omega) (by omega) h)
      have w5 : IntKind.i64.wrap (d - 1) = d - 1 := IntWalk.i64_in _ (by omega)
      clear HRD HRE
      generalize divOk F L (pacesOf l) d 0 (-1) st = dv at *
      generalize reachOf (endsOf F L) (pacesOf l) (d - 1) = rch at *
      generalize stintsOf (endsOf F L) (pacesOf l) (d - 1) = sts at *
      cases dv
      · rw [Bool.false_and] at HPD
        go_enter Tryz.func4, Tryz.ntmps4
        go_wp2_with fail
        refine (HRG.out _ hC.out.be).mono ?_
        rintro e V1 ⟨rfl, hb⟩
        have hD := Lib.hid (hC.out.call hb)
        clear hb
        go_wp2_with fail
        refine (HRF.out _ hD.out.be).mono ?_
        rintro e V2 ⟨rfl, hb⟩
        have hE := Lib.hid (hD.out.call hb)
        clear hb
        (go_wp2_with fail)
        try rw [hd]
        refine (HRD2.out _ hE.out.be).mono ?_
        rintro e V3 ⟨rfl, hb⟩
        have hF := Lib.hid (hE.out.call hb)
        clear hb
        go_wp2_with fail
        refine (HCG.out _ hF.out.be).mono ?_
        rintro e V1 ⟨a6, c6, rfl, hr, hb⟩
        have hT1 := Lib.hid (hF.out.adopt hb hr)
        clear hb hr
        go_wp2_with fail
        refine (HCS.out _ hT1.out.be).mono ?_
        rintro e V2 ⟨a7, c7, rfl, hr, hb⟩
        have hT2 := Lib.hid (hT1.out.adopt hb hr)
        clear hb hr
        have hT3 : Hid (Sy w V2 [] [⟨.slice a6 l.length c6, 44, 3, l.length, LW l⟩, ⟨.slice a7 st.length c7, 99, 3, st.length, L3 st⟩] []) := Lib.hid (hT2.out.thin (List.nil_sublist _) (List.Sublist.refl _))
        go_wp2_with fail
        refine (HPD.out _ _ _ _ _ (hT3.out.osx 0 rfl) (hT3.out.osx 1 rfl) hT3.out.be).mono ?_
        rintro e V3 ⟨rfl, hb⟩
        have hT4 := Lib.hid (hT3.out.call hb)
        clear hb
        go_wp2_with fail
        refine (HW.out _).mono ?_
        rintro e V ⟨rfl, hb⟩
        have hZ := Lib.hid (hT4.out.call hb)
        clear hb
        go_wp2
        go_ret
        exact ⟨rfl, hZ.out.be⟩
      · rw [Bool.true_and] at HPD
        by_cases er : rch < L
        · rw [decide_eq_true er] at HPD
          go_enter Tryz.func4, Tryz.ntmps4
          go_wp2_with fail
          refine (HRG.out _ hC.out.be).mono ?_
          rintro e V1 ⟨rfl, hb⟩
          have hD := Lib.hid (hC.out.call hb)
          clear hb
          go_wp2_with fail
          refine (HRF.out _ hD.out.be).mono ?_
          rintro e V2 ⟨rfl, hb⟩
          have hE := Lib.hid (hD.out.call hb)
          clear hb
          (go_wp2_with fail)
          try rw [hd]
          refine (HRD2.out _ hE.out.be).mono ?_
          rintro e V3 ⟨rfl, hb⟩
          have hF := Lib.hid (hE.out.call hb)
          clear hb
          (go_wp2_with fail)
          try rw [hd]
          try rw [w5]
          refine (HRE2.out _ hF.out.be).mono ?_
          rintro e V4 ⟨a9, c9, rfl, hr, hb⟩
          have hG := Lib.hid (hF.out.call hb)
          clear hb hr
          go_wp2_with fail
          refine (HCG.out _ hG.out.be).mono ?_
          rintro e V1 ⟨a6, c6, rfl, hr, hb⟩
          have hT1 := Lib.hid (hG.out.adopt hb hr)
          clear hb hr
          go_wp2_with fail
          refine (HCS.out _ hT1.out.be).mono ?_
          rintro e V2 ⟨a7, c7, rfl, hr, hb⟩
          have hT2 := Lib.hid (hT1.out.adopt hb hr)
          clear hb hr
          have hT3 : Hid (Sy w V2 [] [⟨.slice a6 l.length c6, 44, 3, l.length, LW l⟩, ⟨.slice a7 st.length c7, 99, 3, st.length, L3 st⟩] []) := Lib.hid (hT2.out.thin (List.nil_sublist _) (List.Sublist.refl _))
          go_wp2_with fail
          refine (HPD.out _ _ _ _ _ (hT3.out.osx 0 rfl) (hT3.out.osx 1 rfl) hT3.out.be).mono ?_
          rintro e V3 ⟨rfl, hb⟩
          have hT4 := Lib.hid (hT3.out.call hb)
          clear hb
          go_wp2_with fail
          refine (HW.out _).mono ?_
          rintro e V ⟨rfl, hb⟩
          have hZ := Lib.hid (hT4.out.call hb)
          clear hb
          go_wp2
          go_ret
          exact ⟨rfl, hZ.out.be⟩
        · rw [decide_eq_false er] at HPD
          have er2 := decide_eq_false er
          go_enter Tryz.func4, Tryz.ntmps4
          go_wp2_with fail
          refine (HRG.out _ hC.out.be).mono ?_
          rintro e V1 ⟨rfl, hb⟩
          have hD := Lib.hid (hC.out.call hb)
          clear hb
          go_wp2_with fail
          refine (HRF.out _ hD.out.be).mono ?_
          rintro e V2 ⟨rfl, hb⟩
          have hE := Lib.hid (hD.out.call hb)
          clear hb
          (go_wp2_with fail)
          try rw [hd]
          refine (HRD2.out _ hE.out.be).mono ?_
          rintro e V3 ⟨rfl, hb⟩
          have hF := Lib.hid (hE.out.call hb)
          clear hb
          (go_wp2_with fail)
          try rw [hd]
          try rw [w5]
          refine (HRE2.out _ hF.out.be).mono ?_
          rintro e V4 ⟨a9, c9, rfl, hr, hb⟩
          have hG := Lib.hid (hF.out.call hb)
          clear hb hr
          go_wp2_with fail
          refine (HCG.out _ hG.out.be).mono ?_
          rintro e V1 ⟨a6, c6, rfl, hr, hb⟩
          have hT1 := Lib.hid (hG.out.adopt hb hr)
          clear hb hr
          go_wp2_with fail
          refine (HCS.out _ hT1.out.be).mono ?_
          rintro e V2 ⟨a7, c7, rfl, hr, hb⟩
          have hT2 := Lib.hid (hT1.out.adopt hb hr)
          clear hb hr
          have hT3 : Hid (Sy w V2 [] [⟨.slice a6 l.length c6, 44, 3, l.length, LW l⟩, ⟨.slice a7 st.length c7, 99, 3, st.length, L3 st⟩] []) := Lib.hid (hT2.out.thin (List.nil_sublist _) (List.Sublist.refl _))
          go_wp2_with fail
          refine (HPD.out _ _ _ _ _ (hT3.out.osx 0 rfl) (hT3.out.osx 1 rfl) hT3.out.be).mono ?_
          rintro e V3 ⟨rfl, hb⟩
          have hT4 := Lib.hid (hT3.out.call hb)
          clear hb
          go_wp2_with fail
          refine (HW.out _).mono ?_
          rintro e V ⟨rfl, hb⟩
          have hZ := Lib.hid (hT4.out.call hb)
          clear hb
          go_wp2
          go_ret
          exact ⟨rfl, hZ.out.be⟩
end
end Go.Proofs.YteogibpmpppgmaaGreat

/- the law GangClaims, walked -/
import Derived.Test.YteogibpmpppgmaaGreatK11
import Derived.Test.YteogibpmpppgmaaGreatH21
import Derived.Test.YteogibpmpppgmaaGreatH3
namespace Go.Proofs.YteogibpmpppgmaaGreat
open Go.RowKit

section
variable (w : World)
set_option maxRecDepth 100000 in
set_option maxHeartbeats 8000000 in
theorem gangClaims_walk (a0 a1 a2 a3 a4 : Option Addr) (n0 c0 n1 c1 n2 c2 n3 c3 n4 c4 : Nat) (P : List I3) (N : List I2) (l : List I3) (u vs : List Int) (hsp : Sx 3 w a0 n0 c0 (L3 P)) (hsn : Sx 2 w a1 n1 c1 (L2 N)) (hsl : Sx 3 w a2 n2 c2 (L3 l)) (hsu : Sx 1 w a3 n3 c3 (L1 u)) (hsv : Sx 1 w a4 n4 c4 (L1 vs)) :
    Calls Tryz.prog 7 #[.slice a0 n0 c0, .slice a1 n1 c1, .slice a2 n2 c2, .slice a3 n3 c3, .slice a4 n4 c4] w (Gives (.bool true) w) := by
  have cap0 := hsp.cap
  have cap1 := hsn.cap
  have cap2 := hsl.cap
  have cap3 := hsu.cap
  have cap4 := hsv.cap
  unfold maxLen at cap0 cap1 cap2 cap3 cap4
  obtain rfl := hsp.n3
  obtain rfl := hsn.n2
  obtain rfl := hsl.n3
  obtain rfl := hsu.n1
  obtain rfl := hsv.n1
  have HW := Lib.hid wakes_any
  have HSP := Lib.hid hsp
  have HSN := Lib.hid hsn
  have HSL := Lib.hid hsl
  have HSU := Lib.hid hsu
  have HSV := Lib.hid hsv
  clear hsp hsn hsl hsu hsv
  by_cases hbig : 30 < P.length ∨ 30 < N.length ∨ 60 < l.length ∨ 30 < u.length ∨ 30 < vs.length
  · have h5 : ((P.length : Int) > 30) ∨ (¬ ((P.length : Int) > 30) ∧ ((N.length : Int) > 30)) ∨ (¬ ((P.length : Int) > 30) ∧ ¬ ((N.length : Int) > 30) ∧ ((l.length : Int) > 60)) ∨ (¬ ((P.length : Int) > 30) ∧ ¬ ((N.length : Int) > 30) ∧ ¬ ((l.length : Int) > 60) ∧ ((u.length : Int) > 30)) ∨ (¬ ((P.length : Int) > 30) ∧ ¬ ((N.length : Int) > 30) ∧ ¬ ((l.length : Int) > 60) ∧ ¬ ((u.length : Int) > 30) ∧ ((vs.length : Int) > 30)) := by omega
    clear hbig
    rcases h5 with g0 | ⟨g0, g1⟩ | ⟨g0, g1, g2⟩ | ⟨g0, g1, g2, g3⟩ | ⟨g0, g1, g2, g3, g4⟩
    all_goals
      go_enter Tryz.func7, Tryz.ntmps7
      go_wp2_with fail
      refine (HW.out _).mono ?_
      rintro e V ⟨rfl, hb⟩
      have hC := Lib.hid ((Sy.enter w).call hb)
      clear hb
      go_wp2
      go_ret
      exact ⟨rfl, hC.out.be⟩
  · have g0 : ¬ ((P.length : Int) > 30) := by omega
    have g1 : ¬ ((N.length : Int) > 30) := by omega
    have g2 : ¬ ((l.length : Int) > 60) := by omega
    have g3 : ¬ ((u.length : Int) > 30) := by omega
    have g4 : ¬ ((vs.length : Int) > 30) := by omega
    have HRY := Lib.hid (refYard_any w a0 a1 _ c0 _ c1 P N HSP.out HSN.out)
    have HCP := Lib.hid (fun W (h : Below w.heap.size w W) => conv_Pile a0 _ c0 P W (HSP.out.below h) (by omega))
    have HCN := Lib.hid (fun W (h : Below w.heap.size w W) => conv_Need a1 _ c1 N W (HSN.out.below h) (by omega))
    have HCL := Lib.hid (fun W (h : Below w.heap.size w W) => conv_Load a2 _ c2 l W (HSL.out.below h) (by omega))
    have HPC := Lib.hid (fun W (b0 b1 b2 : Option Addr) (d0 d1 d2 : Nat) (h0 : Sx 3 W b0 P.length d0 (L3 P)) (h1 : Sx 2 W b1 N.length d1 (L2 N)) (h2 : Sx 3 W b2 l.length d2 (L3 l)) (h : Below w.heap.size w W) => proveCarry_any W b0 b1 b2 a3 a4 _ d0 _ d1 _ d2 _ c3 _ c4 P N l u vs h0 h1 h2 (HSU.out.below h) (HSV.out.below h) (by omega))
    clear hbig
    cases hyb : yardBad P N
    · have HGD := Lib.hid (show YGood P N from yard_good hyb)
      have HRC := Lib.hid (fun W (h : Below w.heap.size w W) => refCarrying_any W a0 a1 a2 _ c0 _ c1 _ c2 P N l (HSP.out.below h) (HSN.out.below h) (HSL.out.below h) HGD.out (by omega))
      have HRP := Lib.hid (fun W (cost : Int) (h : Below w.heap.size w W) => refProof_any W a0 a1 a3 a4 _ c0 _ c1 _ c3 _ c4 P N cost u vs (HSP.out.below h) (HSN.out.below h) (HSU.out.below h) (HSV.out.below h) HGD.out)
      rw [hyb] at HRY
      cases hck : carryOk P N l
      · have HEQ := Lib.hid (pc_noC (u := u) (v := vs) hck)
        rw [show carryAns P N l = (0, false) from by unfold carryAns; rw [hck]; rfl] at HRC
        rw [HEQ.out] at HPC
        clear hyb hck HRP HEQ
        go_enter Tryz.func7, Tryz.ntmps7
        go_wp2_with fail
        refine HRY.out.mono ?_
        rintro e V ⟨rfl, hb⟩
        have hA := Lib.hid ((Sy.enter w).call hb)
        clear hb
        go_wp2_with fail
        refine (HRC.out _ hA.out.be).mono ?_
        rintro e V2 ⟨rfl, hb⟩
        have hC := Lib.hid (hA.out.call hb)
        clear hb hA
        go_wp2_with fail
        refine (HCP.out _ hC.out.be).mono ?_
        rintro e V5 ⟨a5, c5, rfl, hr, hb⟩
        have hD := Lib.hid (hC.out.adopt hb hr)
        clear hb hr hC
        go_wp2_with fail
        refine (HCN.out _ hD.out.be).mono ?_
        rintro e V6 ⟨a6, c6, rfl, hr, hb⟩
        have hE := Lib.hid (hD.out.adopt hb hr)
        clear hb hr hD
        go_wp2_with fail
        refine (HCL.out _ hE.out.be).mono ?_
        rintro e V7 ⟨a7, c7, rfl, hr, hb⟩
        have hF := Lib.hid (hE.out.adopt hb hr)
        clear hb hr hE
        go_wp2_with fail
        refine (HPC.out _ _ _ _ _ _ _ (hF.out.osx 0 rfl) (hF.out.osx 1 rfl) (hF.out.osx 2 rfl) hF.out.be).mono ?_
        rintro e V8 ⟨rfl, hb⟩
        have hG := Lib.hid (hF.out.call hb)
        clear hb hF
        go_wp2_with fail
        refine (HW.out _).mono ?_
        rintro e V9 ⟨rfl, hb⟩
        have hH := Lib.hid (hG.out.call hb)
        clear hb hG
        go_wp2
        go_ret
        exact ⟨rfl, hH.out.be⟩
      · have HEQ := Lib.hid (pc_yes (u := u) (v := vs) hyb hck)
        rw [show carryAns P N l = (costL P N l, true) from by unfold carryAns; rw [hck]; rfl] at HRC
        rw [HEQ.out] at HPC
        clear hyb hck HEQ
        have HRP2 := Lib.hid (fun W h => HRP.out W (costL P N l) h)
        generalize costL P N l = cst at *
        clear HRP
        generalize proofB P N cst u vs = pb at *
        cases pb
        all_goals
          go_enter Tryz.func7, Tryz.ntmps7
          go_wp2_with fail
          refine HRY.out.mono ?_
          rintro e V ⟨rfl, hb⟩
          have hA := Lib.hid ((Sy.enter w).call hb)
          clear hb
          go_wp2_with fail
          refine (HRC.out _ hA.out.be).mono ?_
          rintro e V2 ⟨rfl, hb⟩
          have hB := Lib.hid (hA.out.call hb)
          clear hb hA
          go_wp2_with fail
          refine (HRP2.out _ hB.out.be).mono ?_
          rintro e V3 ⟨rfl, hb⟩
          have hC := Lib.hid (hB.out.call hb)
          clear hb hB
          go_wp2_with fail
          refine (HCP.out _ hC.out.be).mono ?_
          rintro e V5 ⟨a5, c5, rfl, hr, hb⟩
          have hD := Lib.hid (hC.out.adopt hb hr)
          clear hb hr hC
          go_wp2_with fail
          refine (HCN.out _ hD.out.be).mono ?_
          rintro e V6 ⟨a6, c6, rfl, hr, hb⟩
          have hE := Lib.hid (hD.out.adopt hb hr)
          clear hb hr hD
          go_wp2_with fail
          refine (HCL.out _ hE.out.be).mono ?_
          rintro e V7 ⟨a7, c7, rfl, hr, hb⟩
          have hF := Lib.hid (hE.out.adopt hb hr)
          clear hb hr hE
          go_wp2_with fail
          refine (HPC.out _ _ _ _ _ _ _ (hF.out.osx 0 rfl) (hF.out.osx 1 rfl) (hF.out.osx 2 rfl) hF.out.be).mono ?_
          rintro e V8 ⟨rfl, hb⟩
          have hG := Lib.hid (hF.out.call hb)
          clear hb hF
          go_wp2_with fail
          refine (HW.out _).mono ?_
          rintro e V9 ⟨rfl, hb⟩
          have hH := Lib.hid (hG.out.call hb)
          clear hb hG
          go_wp2
          go_ret
          exact ⟨rfl, hH.out.be⟩
    · have HEQ := Lib.hid (pc_noY (l := l) (u := u) (v := vs) hyb)
      rw [hyb] at HRY
      rw [HEQ.out] at HPC
      clear hyb HEQ
      go_enter Tryz.func7, Tryz.ntmps7
      go_wp2_with fail
      refine HRY.out.mono ?_
      rintro e V ⟨rfl, hb⟩
      have hC := Lib.hid ((Sy.enter w).call hb)
      clear hb
      go_wp2_with fail
      refine (HCP.out _ hC.out.be).mono ?_
      rintro e V5 ⟨a5, c5, rfl, hr, hb⟩
      have hD := Lib.hid (hC.out.adopt hb hr)
      clear hb hr hC
      go_wp2_with fail
      refine (HCN.out _ hD.out.be).mono ?_
      rintro e V6 ⟨a6, c6, rfl, hr, hb⟩
      have hE := Lib.hid (hD.out.adopt hb hr)
      clear hb hr hD
      go_wp2_with fail
      refine (HCL.out _ hE.out.be).mono ?_
      rintro e V7 ⟨a7, c7, rfl, hr, hb⟩
      have hF := Lib.hid (hE.out.adopt hb hr)
      clear hb hr hE
      go_wp2_with fail
      refine (HPC.out _ _ _ _ _ _ _ (hF.out.osx 0 rfl) (hF.out.osx 1 rfl) (hF.out.osx 2 rfl) hF.out.be).mono ?_
      rintro e V8 ⟨rfl, hb⟩
      have hG := Lib.hid (hF.out.call hb)
      clear hb hF
      go_wp2_with fail
      refine (HW.out _).mono ?_
      rintro e V9 ⟨rfl, hb⟩
      have hH := Lib.hid (hG.out.call hb)
      clear hb hG
      go_wp2
      go_ret
      exact ⟨rfl, hH.out.be⟩
end
end Go.Proofs.YteogibpmpppgmaaGreat

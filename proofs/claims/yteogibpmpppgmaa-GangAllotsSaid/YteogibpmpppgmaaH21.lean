/- wakes: what the chapter shows -/
import Derived.Test.YteogibpmpppgmaaH20
import Derived.Test.YteogibpmpppgmaaH18
import Derived.Test.YteogibpmpppgmaaH12
import Derived.Test.YteogibpmpppgmaaH7
import Derived.Test.YteogibpmpppgmaaH5
namespace Go.Proofs.Yteogibpmpppgmaa
open Go.RowKit

def teamL : List WL := [(⟨#[97, 110, 110]⟩, 2000, 600), (⟨#[98, 111, 98]⟩, 1500, 500)]
def framesL : List Int := [3000, 6000, 8000]
theorem days_shown : daysOf framesL 10000 (pacesOf teamL) = 3 := by
  have hR : RightF framesL 10000 := ⟨by decide, by decide, by decide⟩
  have hP : RightP (pacesOf teamL) := ⟨by decide, by decide⟩
  refine (daysOf_eq hR hP (d := 3) (by decide) (fun k h1 h2 => ?_)).symm
  have : k = 1 ∨ k = 2 := by omega
  rcases this with rfl | rfl <;> decide
theorem stints_shown : stintsOf (endsOf framesL 10000) (pacesOf teamL) ((3 : Nat) : Int) = [(0, 0, 6000), (1, 6000, 10000)] := by decide
theorem right_shown : rightB 10000 framesL teamL = true := by kernel_rfl
theorem share_shown {order : List Nat} (h : Ordered 100 [1, 1, 1] order) : shared 100 [1, 1, 1] order = [34, 33, 33] := by
  rw [← shared_pennies (by decide) h]
  decide
def pilesL : List I3 := [(0, 5, 0), (10, 5, 0)]
def needsL : List I2 := [(4, 4), (9, 3)]
theorem carry_shown {X G T : List Int} (Y : YInv pilesL.length needsL.length (hA pilesL) (hB needsL) (costC pilesL needsL) (XF X) (fun i => G.getD i 0) (fun k => T.getD k 0)) (hT : ∀ k, k < needsL.length → T.getD k 0 = hB needsL k) :
    loadsOf pilesL.length needsL.length (XF X) = [(0, 0, 4), (1, 1, 3)] ∧ costN pilesL.length needsL.length (costC pilesL needsL) (XF X) = 19 := by
  obtain ⟨p0, p1, hf, h0, h1, h2⟩ := Y.pot
  have c00 : costC pilesL needsL 0 0 = 4 := by decide
  have c01 : costC pilesL needsL 0 1 = 9 := by decide
  have c10 : costC pilesL needsL 1 0 = 6 := by decide
  have c11 : costC pilesL needsL 1 1 = 1 := by decide
  have a0 : hA pilesL 0 = 5 := rfl
  have a1 : hA pilesL 1 = 5 := rfl
  have b0 : hB needsL 0 = 4 := rfl
  have b1 : hB needsL 1 = 3 := rfl
  have r0 : G.getD 0 0 = 0 + XF X 0 0 + XF X 0 1 := Y.row 0 (by decide)
  have r1 : G.getD 1 0 = 0 + XF X 1 0 + XF X 1 1 := Y.row 1 (by decide)
  have t0 : T.getD 0 0 = 0 + XF X 0 0 + XF X 1 0 := Y.col 0 (by decide)
  have t1 : T.getD 1 0 = 0 + XF X 0 1 + XF X 1 1 := Y.col 1 (by decide)
  have x00 := Y.x0 0 0 (by decide) (by decide)
  have x01 := Y.x0 0 1 (by decide) (by decide)
  have x10 := Y.x0 1 0 (by decide) (by decide)
  have x11 := Y.x0 1 1 (by decide) (by decide)
  have T0 := hT 0 (by decide)
  have T1 := hT 1 (by decide)
  have f00 := hf.fwd 0 0 (by decide) (by decide)
  have f01 := hf.fwd 0 1 (by decide) (by decide)
  have f10 := hf.fwd 1 0 (by decide) (by decide)
  have f11 := hf.fwd 1 1 (by decide) (by decide)
  have g00 := hf.bwd 0 0 (by decide) (by decide)
  have g01 := hf.bwd 0 1 (by decide) (by decide)
  have g10 := hf.bwd 1 0 (by decide) (by decide)
  have g11 := hf.bwd 1 1 (by decide) (by decide)
  have q0 := h0 0 (by decide)
  have q1 := h0 1 (by decide)
  have s0 : G.getD 0 0 < hA pilesL 0 → p0 0 = 0 := h2 0 (by decide)
  have s1 : G.getD 1 0 < hA pilesL 1 → p0 1 = 0 := h2 1 (by decide)
  rw [c00] at f00 g00
  rw [c01] at f01 g01
  rw [c10] at f10 g10
  rw [c11] at f11 g11
  rw [a0] at s0
  rw [a1] at s1
  rw [b0] at T0
  rw [b1] at T1
  have ga0 : G.getD 0 0 ≤ hA pilesL 0 := Y.ga 0 (by decide)
  have ga1 : G.getD 1 0 ≤ hA pilesL 1 := Y.ga 1 (by decide)
  rw [a0] at ga0
  rw [a1] at ga1
  clear hf h0 h1 h2 Y hT
  generalize G.getD 0 0 = G0 at *
  generalize G.getD 1 0 = G1 at *
  generalize T.getD 0 0 = T0' at *
  generalize T.getD 1 0 = T1' at *
  have z10 : XF X 1 0 = 0 := by
    apply Classical.byContradiction
    intro h
    have e1 := g10 (by omega)
    have e2 : ¬ G0 < 5 := fun h3 => by have := s0 h3; omega
    have e3 := g01 (by omega)
    omega
  have z01 : XF X 0 1 = 0 := by
    apply Classical.byContradiction
    intro h
    have e1 := g01 (by omega)
    have e2 : ¬ G1 < 5 := fun h3 => by have := s1 h3; omega
    omega
  have z00 : XF X 0 0 = 4 := by omega
  have z11 : XF X 1 1 = 3 := by omega
  constructor
  · have e : ∀ i k, ldOf (XF X) i k = if 0 < XF X i k then [((i : Int), (k : Int), XF X i k)] else [] := fun _ _ => rfl
    show (ldOf (XF X) 0 0 ++ (ldOf (XF X) 0 1 ++ [])) ++ ((ldOf (XF X) 1 0 ++ (ldOf (XF X) 1 1 ++ [])) ++ []) = _
    rw [e, e, e, e, z00, z01, z10, z11]
    rfl
  · show 0 + (0 + XF X 0 0 * costC pilesL needsL 0 0 + XF X 0 1 * costC pilesL needsL 0 1) + (0 + XF X 1 0 * costC pilesL needsL 1 0 + XF X 1 1 * costC pilesL needsL 1 1) = 19
    rw [z00, z01, z10, z11, c00, c01, c10, c11]
    rfl
def usesL : List I2 := [(0, 3), (1, 4), (3, 5)]
theorem allot_shown {order : List Nat} (h : InOrder usesL order) : allotRun usesL order = ([0, 1, 0], 2, 1) := by
  have hl : order.length = 3 := by rw [h.1.length_eq]; rfl
  match order, hl, h with
  | [a, b, c], _, h =>
    have ha : a < 3 := by have := (h.1.mem_iff (a := a)).1 (by simp); simpa [usesL] using this
    have hb : b < 3 := by have := (h.1.mem_iff (a := b)).1 (by simp); simpa [usesL] using this
    have hc : c < 3 := by have := (h.1.mem_iff (a := c)).1 (by simp); simpa [usesL] using this
    have h1 := List.pairwise_cons.1 h.2
    have h2 := List.pairwise_cons.1 h1.2
    have e1 := h1.1 b (by simp)
    have e2 := h2.1 c (by simp)
    have h3 : a = 0 ∧ b = 1 ∧ c = 2 := by
      have ha' : a = 0 ∨ a = 1 ∨ a = 2 := by omega
      have hb' : b = 0 ∨ b = 1 ∨ b = 2 := by omega
      have hc' : c = 0 ∨ c = 1 ∨ c = 2 := by omega
      rcases ha' with rfl | rfl | rfl <;> rcases hb' with rfl | rfl | rfl <;> first | exact absurd e1 (by decide) | (rcases hc' with rfl | rfl | rfl <;> first | exact absurd e2 (by decide) | exact ⟨rfl, rfl, rfl⟩)
    obtain ⟨rfl, rfl, rfl⟩ := h3
    decide
section
variable (w : World)
set_option maxRecDepth 100000 in
set_option maxHeartbeats 1000000 in
theorem team_any : Calls Try.prog 30 #[] w (RetRow w 113 3 2 (LW teamL)) := by
  have hC := Lib.hid ((Sy.enter w).onew w.heap.size #[.string ⟨#[97, 110, 110]⟩, .int .i64 2000, .int .i64 600, .string ⟨#[98, 111, 98]⟩, .int .i64 1500, .int .i64 500] 113 3 2 rfl (by omega) rfl)
  go_enter Try.func30, Try.ntmps30
  go_wp2
  go_ret
  exact ⟨_, _, rfl, hC.out.gives 0 rfl, hC.out.be⟩
theorem team_names : ∀ x ∈ teamL, x.1.size ≤ maxLen := by decide
theorem trips_shown : sumBy (tripsOf 2) [((0 : Int), (0 : Int), (4 : Int)), (1, 1, 3)] = 4 := by decide
theorem days_ok2 (a a' : Option Addr) (c c' : Nat) (hs : Sx 1 w a 3 c (L1 framesL)) (hs' : Sx 3 w a' 2 c' (LW teamL)) : Calls Try.prog 29 #[.int .i64 10000, .slice a 3 c, .slice a' 2 c'] w fun e w' => ∃ a c, e = .returned (.tuple #[.int .i64 3, .slice a 2 c, .int .i64 0]) ∧ w'.ownsRow w.heap.size 77 3 (.slice a 2 c) 2 (L3 [(0, 0, 6000), (1, 6000, 10000)]) ∧ Below w.heap.size w w' := by
  have h := days_ok w a a' 3 c 2 c' 10000 framesL teamL hs hs' team_names right_shown
  unfold RetDays at h
  rw [days_shown, stints_shown] at h
  exact h
theorem share_ok2 (a : Option Addr) (c : Nat) (hs : Sx 1 w a 3 c (L1 [1, 1, 1])) : Calls Try.prog 11 #[.int .i64 100, .slice a 3 c] w fun e w' => ∃ a c, e = .returned (.tuple #[.slice a 3 c, .int .i64 0]) ∧ w'.ownsRow w.heap.size 3 1 (.slice a 3 c) 3 (L1 [34, 33, 33]) ∧ Below w.heap.size w w' := by
  refine (share_ok w a 3 c 100 [1, 1, 1] hs (by decide) (by decide)).mono ?_
  rintro e w' ⟨order, a', c', ho, rfl, hr, hb⟩
  rw [share_shown ho] at hr
  exact ⟨a', c', rfl, hr, hb⟩
theorem carry_ok2 (a a' : Option Addr) (c c' : Nat) (hs : Sx 3 w a 2 c (L3 pilesL)) (hs' : Sx 2 w a' 2 c' (L2 needsL)) : Calls Try.prog 25 #[.slice a 2 c, .slice a' 2 c'] w fun e w' => ∃ a c, e = .returned (.tuple #[.slice a 2 c, .int .i64 19, .int .i64 0]) ∧ w'.ownsRow w.heap.size 86 3 (.slice a 2 c) 2 (L3 [(0, 0, 4), (1, 1, 3)]) ∧ Below w.heap.size w w' := by
  refine (carry_ok w a a' 2 c 2 c' pilesL needsL hs hs' (by decide)).mono ?_
  rintro e w' ⟨X, G, T, a4, c4, hY, hT, rfl, hr, hb⟩
  obtain ⟨e1, e2⟩ := carry_shown hY hT
  rw [e1] at hr
  rw [e1, e2]
  exact ⟨a4, c4, rfl, hr, hb⟩
theorem allot_ok2 (a : Option Addr) (c : Nat) (hs : Sx 2 w a 3 c (L2 usesL)) : Calls Try.prog 17 #[.slice a 3 c] w fun e w' => ∃ a c, e = .returned (.tuple #[.slice a 3 c, .int .i64 2, .int .i64 1, .int .i64 0]) ∧ w'.ownsRow w.heap.size 3 1 (.slice a 3 c) 3 (L1 [0, 1, 0]) ∧ Below w.heap.size w w' := by
  refine (allot_ok w a 3 c usesL hs (by decide) (by decide) (sorts_small (by decide) (by decide))).mono ?_
  rintro e w' ⟨order, a', c', ho, rfl, hr, hb⟩
  rw [allot_shown ho] at hr
  rw [allot_shown ho]
  exact ⟨a', c', rfl, hr, hb⟩
set_option maxRecDepth 100000 in
set_option maxHeartbeats 4000000 in
theorem wakes_any : Calls Try.prog 10 #[] w (Gives (.bool true) w) := by
  have hA := Lib.hid ((Sy.enter w).onew w.heap.size #[.int .i64 3000, .int .i64 6000, .int .i64 8000] 3 1 3 rfl (by omega) rfl)
  go_enter Try.func10, Try.ntmps10
  go_wp2_with fail
  refine (team_any _).mono ?_
  rintro e W1 ⟨a1, c1, rfl, hr, hb⟩
  have hB := Lib.hid (hA.out.adopt hb hr)
  clear hr hb hA
  go_wp2_with fail
  refine (days_ok2 W1 _ _ _ _ (hB.out.osx 0 rfl) (hB.out.osx 1 rfl)).mono ?_
  rintro e W2 ⟨aS, cS, rfl, hr, hb⟩
  have hC : Hid (Sy w W2 [] [⟨.slice aS 2 cS, 77, 3, 2, L3 [(0, 0, 6000), (1, 6000, 10000)]⟩] []) := Lib.hid (((hB.out.thin (os' := []) (List.nil_sublist _) (List.nil_sublist _))).adopt hb hr)
  clear hr hb hB
  have hD := Lib.hid (hC.out.onew W2.heap.size #[.int .i64 1, .int .i64 1, .int .i64 1] 3 1 3 rfl (by omega) rfl)
  go_wp2_with fail
  refine (share_ok2 _ _ _ (hD.out.osx 1 rfl)).mono ?_
  rintro e W3 ⟨aP, cP, rfl, hr, hb⟩
  have hE : Hid (Sy w W3 [] [⟨.slice aS 2 cS, 77, 3, 2, L3 [(0, 0, 6000), (1, 6000, 10000)]⟩, ⟨.slice aP 3 cP, 3, 1, 3, L1 [34, 33, 33]⟩] []) := Lib.hid (((hD.out.thin (os' := [⟨.slice aS 2 cS, 77, 3, 2, L3 [(0, 0, 6000), (1, 6000, 10000)]⟩]) (List.nil_sublist _) (List.Sublist.cons_cons _ (List.nil_sublist _)))).adopt hb hr)
  clear hr hb hD hC
  have hF := Lib.hid ((hE.out.onew W3.heap.size #[.int .i64 0, .int .i64 5, .int .i64 0, .int .i64 10, .int .i64 5, .int .i64 0] 60 3 2 rfl (by omega) rfl).onew (W3.heap.size + 1) #[.int .i64 4, .int .i64 4, .int .i64 9, .int .i64 3] 62 2 2 (by simp) (by omega) rfl)
  go_wp2_with fail
  refine (carry_ok2 _ _ _ _ _ (hF.out.osx 2 rfl) (hF.out.osx 3 rfl)).mono ?_
  rintro e W4 ⟨aL, cL, rfl, hr, hb⟩
  have hG : Hid (Sy w W4 [] [⟨.slice aS 2 cS, 77, 3, 2, L3 [(0, 0, 6000), (1, 6000, 10000)]⟩, ⟨.slice aP 3 cP, 3, 1, 3, L1 [34, 33, 33]⟩, ⟨.slice aL 2 cL, 86, 3, 2, L3 [(0, 0, 4), (1, 1, 3)]⟩] []) := Lib.hid (((hF.out.thin (os' := [⟨.slice aS 2 cS, 77, 3, 2, L3 [(0, 0, 6000), (1, 6000, 10000)]⟩, ⟨.slice aP 3 cP, 3, 1, 3, L1 [34, 33, 33]⟩]) (List.nil_sublist _) (List.Sublist.cons_cons _ (List.Sublist.cons_cons _ (List.nil_sublist _))))).adopt hb hr)
  clear hr hb hF hE
  go_wp2_with fail
  refine (trips_ok W4 aL 2 cL _ 2 (hG.out.osx 2 rfl) (by omega) (by omega) (by omega) (by decide)).mono ?_
  rw [trips_shown]
  rintro e W5 ⟨rfl, hb⟩
  have hH := Lib.hid (hG.out.call hb)
  clear hb hG
  have hI := Lib.hid (hH.out.onew W5.heap.size #[.int .i64 0, .int .i64 3, .int .i64 1, .int .i64 4, .int .i64 3, .int .i64 5] 75 2 3 rfl (by omega) rfl)
  go_wp2_with fail
  refine (allot_ok2 _ _ _ (hI.out.osx 3 rfl)).mono ?_
  rintro e W6 ⟨aN, cN, rfl, hr, hb⟩
  have hJ : Hid (Sy w W6 [] [⟨.slice aS 2 cS, 77, 3, 2, L3 [(0, 0, 6000), (1, 6000, 10000)]⟩, ⟨.slice aP 3 cP, 3, 1, 3, L1 [34, 33, 33]⟩, ⟨.slice aN 3 cN, 3, 1, 3, L1 [0, 1, 0]⟩] []) := Lib.hid (((hI.out.thin (os' := [⟨.slice aS 2 cS, 77, 3, 2, L3 [(0, 0, 6000), (1, 6000, 10000)]⟩, ⟨.slice aP 3 cP, 3, 1, 3, L1 [34, 33, 33]⟩]) (List.nil_sublist _) (List.Sublist.cons_cons _ (List.Sublist.cons_cons _ (List.nil_sublist _))))).adopt hb hr)
  clear hr hb hI hH
  obtain ⟨gS, rfl, _⟩ := hJ.out.oaddr 0 rfl (by omega)
  have x0 := hJ.out.rcell 0 rfl (k := 0) (u := .int .i64 0) rfl
  have x1 := hJ.out.rcell 0 rfl (k := 1) (u := .int .i64 0) rfl
  have x2 := hJ.out.rcell 0 rfl (k := 2) (u := .int .i64 6000) rfl
  go_upto_region 6 with fail
  refine wp_region_lit ?_
  dsimp only [List.append, List.toList_toArray]
  have hK := Lib.hid (hJ.out.onew W6.heap.size #[.int .i64 34, .int .i64 33, .int .i64 33] 3 1 3 rfl (by omega) rfl)
  go_wp2_with fail
  clear x0 x1 x2
  refine (ints_any _ _ _ _ _ _ [34, 33, 33] [34, 33, 33] _ (hK.out.osx 1 rfl) (hK.out.osx 3 rfl)).mono ?_
  rintro e W7 ⟨rfl, hb⟩
  have hM : Hid (Sy w W7 [] [⟨.slice aN 3 cN, 3, 1, 3, L1 [0, 1, 0]⟩] []) := Lib.hid ((hK.out.call hb).thin (List.nil_sublist _) (List.Sublist.cons _ (List.Sublist.cons _ (List.Sublist.cons_cons _ (List.nil_sublist _)))))
  have hN := Lib.hid (hM.out.onew W7.heap.size #[.int .i64 0, .int .i64 1, .int .i64 0] 3 1 3 rfl (by omega) rfl)
  clear hb hK hJ
  rw [show decide (([34, 33, 33] : List Int) = [34, 33, 33]) = true from rfl]
  go_wp2_with fail
  refine (ints_any _ _ _ _ _ _ [0, 1, 0] [0, 1, 0] _ (hN.out.osx 0 rfl) (hN.out.osx 1 rfl)).mono ?_
  rintro e W8 ⟨rfl, hb⟩
  have hO := Lib.hid (hN.out.call hb)
  clear hb hN hM
  rw [show decide (([0, 1, 0] : List Int) = [0, 1, 0]) = true from rfl]
  go_wp2
  go_ret
  exact ⟨rfl, hO.out.be⟩
end
end Go.Proofs.Yteogibpmpppgmaa

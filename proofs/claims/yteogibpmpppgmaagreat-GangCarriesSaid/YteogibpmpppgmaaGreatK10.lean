/- are numbers a proof for a cost: the reference's Proof -/
import Derived.Test.YteogibpmpppgmaaGreatK9
namespace Go.Proofs.YteogibpmpppgmaaGreat
open Go.RowKit

def usOk (u : List Int) : Bool := u.all fun x => inB x 0 1000000000
def suP (P : List I3) (u : List Int) (k : Nat) : Int := rsum (fun i => hA P i * u.getD i 0) k
def svN (N : List I2) (v : List Int) (k : Nat) : Int := rsum (fun i => hB N i * v.getD i 0) k
def pairsOk (P : List I3) (N : List I2) (u v : List Int) : Bool := (List.range N.length).all fun k => (List.range P.length).all fun i => decide (v.getD k 0 - u.getD i 0 ≤ unitI (P.getD i ld0) (N.getD k (0, 0)))
def proofB (P : List I3) (N : List I2) (cost : Int) (u v : List Int) : Bool := decide (u.length = P.length) && decide (v.length = N.length) && usOk u && usOk v && pairsOk P N u v && decide (svN N v N.length - suP P u P.length = cost)
theorem us_no {u : List Int} {k : Nat} (h : k < u.length) (hb : inB (u.getD k 0) 0 1000000000 = false) : usOk u = false := by
  unfold usOk
  rw [List.all_eq_false]
  exact ⟨u[k], List.getElem_mem h, by rw [← getD_at h, hb]; decide⟩
theorem us_yes {u : List Int} (h : ∀ i, i < u.length → inB (u.getD i 0) 0 1000000000 = true) : usOk u = true := by
  unfold usOk
  rw [List.all_eq_true]
  intro x hx
  obtain ⟨i, hi, rfl⟩ := List.getElem_of_mem hx
  rw [← getD_at hi]
  exact h i hi
theorem pairs_no {P : List I3} {N : List I2} {u v : List Int} {i k : Nat} (hi : i < P.length) (hk : k < N.length) (h : unitI (P.getD i ld0) (N.getD k (0, 0)) < v.getD k 0 - u.getD i 0) : pairsOk P N u v = false := by
  unfold pairsOk
  rw [List.all_eq_false]
  refine ⟨k, List.mem_range.2 hk, ?_⟩
  rw [Bool.not_eq_true, List.all_eq_false]
  exact ⟨i, List.mem_range.2 hi, by rw [decide_eq_true_eq]; omega⟩
theorem pairs_yes {P : List I3} {N : List I2} {u v : List Int} (h : ∀ k, k < N.length → ∀ i, i < P.length → v.getD k 0 - u.getD i 0 ≤ unitI (P.getD i ld0) (N.getD k (0, 0))) : pairsOk P N u v = true := by
  unfold pairsOk
  rw [List.all_eq_true]
  intro k hk
  rw [List.all_eq_true]
  exact fun i hi => decide_eq_true (h k (List.mem_range.1 hk) i (List.mem_range.1 hi))
section
variable {P : List I3} {N : List I2} {cost : Int} {u v : List Int}
theorem proof_no0 (h : ¬ u.length = P.length) : proofB P N cost u v = false := by unfold proofB; rw [decide_eq_false h]; rfl
theorem proof_no1 (h : ¬ v.length = N.length) : proofB P N cost u v = false := by unfold proofB; rw [decide_eq_false h, Bool.and_false]; rfl
theorem proof_no2 (h : usOk u = false) : proofB P N cost u v = false := by unfold proofB; rw [h, Bool.and_false]; rfl
theorem proof_no3 (h : usOk v = false) : proofB P N cost u v = false := by unfold proofB; rw [h, Bool.and_false]; rfl
theorem proof_no4 (h : pairsOk P N u v = false) : proofB P N cost u v = false := by unfold proofB; rw [h, Bool.and_false]; rfl
theorem proof_yes (h0 : u.length = P.length) (h1 : v.length = N.length) (h2 : usOk u = true) (h3 : usOk v = true) (h4 : pairsOk P N u v = true) : proofB P N cost u v = decide (svN N v N.length - suP P u P.length = cost) := by unfold proofB; rw [decide_eq_true h0, decide_eq_true h1, h2, h3, h4]; simp only [Bool.true_and, Bool.and_self]
end
section
variable (w : World)
set_option maxRecDepth 100000 in
set_option maxHeartbeats 16000000 in
theorem refProof_any (a0 a1 a3 a4 : Option Addr) (n0 c0 n1 c1 n3 c3 n4 c4 : Nat) (P : List I3) (N : List I2) (cost : Int) (u vs : List Int) (hsp : Sx 3 w a0 n0 c0 (L3 P)) (hsn : Sx 2 w a1 n1 c1 (L2 N)) (hsu : Sx 1 w a3 n3 c3 (L1 u)) (hsv : Sx 1 w a4 n4 c4 (L1 vs)) (hG : YGood P N) :
    Calls Tryz.prog 30 #[.slice a0 n0 c0, .slice a1 n1 c1, .int .i64 cost, .slice a3 n3 c3, .slice a4 n4 c4] w (Gives (.bool (proofB P N cost u vs)) w) := by
  obtain rfl := hsp.n3
  obtain rfl := hsn.n2
  obtain rfl := hsu.n1
  obtain rfl := hsv.n1
  have HSP := Lib.hid hsp
  have HSN := Lib.hid hsn
  have HSU := Lib.hid hsu
  have HSV := Lib.hid hsv
  have HGD := Lib.hid hG
  have hP20 := hG.1
  have hN20 := hG.2.1
  clear hsp hsn hsu hsv hG
  have hC := Lib.hid (Sy.enter w)
  by_cases hu : u.length = P.length
  rotate_left
  · have d0 : ((u.length : Int) != (P.length : Int)) = true := by simp; omega
    rw [proof_no0 hu]
    clear hu
    go_enter Tryz.func30, Tryz.ntmps30
    go_wp2
    go_ret
    exact ⟨rfl, hC.out.be⟩
  by_cases hv : vs.length = N.length
  rotate_left
  · have d0 : ((u.length : Int) != (P.length : Int)) = false := by simp; omega
    have d1 : ((vs.length : Int) != (N.length : Int)) = true := by simp; omega
    rw [proof_no1 hv]
    clear hv hu
    go_enter Tryz.func30, Tryz.ntmps30
    go_wp2
    go_ret
    exact ⟨rfl, hC.out.be⟩
  have d0 : ((u.length : Int) != (P.length : Int)) = false := by simp; omega
  have d1 : ((vs.length : Int) != (N.length : Int)) = false := by simp; omega
  obtain ⟨ans, hans⟩ : ∃ b, proofB P N cost u vs = b := ⟨_, rfl⟩
  rw [hans]
  have HANS := Lib.hid hans
  have HUP := Lib.hid hu
  have HVN := Lib.hid hv
  have hu1 : u.length ≤ P.length := by omega
  have hu2 : P.length ≤ u.length := by omega
  have hv1 : vs.length ≤ N.length := by omega
  have hv2 : N.length ≤ vs.length := by omega
  clear hans hu hv
  go_enter Tryz.func30, Tryz.ntmps30
  go_wp2
  go_loopw [11, 12] (fun qv iv wr => ∃ (k : Nat) (q : Int), k ≤ u.length ∧ qv = .int .i64 q ∧ iv = .int .i64 k ∧ (-((k : Int) * 1000000000000000) ≤ q ∧ q ≤ 0) ∧ Hid (q = -suP P u k) ∧ Hid (∀ i, i < k → inB (u.getD i 0) 0 1000000000 = true) ∧ Hid (Sy w wr [] [] [])) (fun _ iv _ => u.length - (intOf iv).toNat)
  case atStart => exact ⟨0, 0, Nat.zero_le _, rfl, rfl, ⟨by omega, Int.le_refl _⟩, Lib.hid rfl, Lib.hid (fun i h => absurd h (Nat.not_lt_zero i)), hC⟩
  case round =>
    clear hC
    obtain ⟨k, q, hk, rfl, rfl, hq, hD, hU, hS⟩ := hrel
    by_cases hlt : k < u.length
    · have hkk : (k : Int) < (u.length : Int) := by omega
      have k0 : (0 : Int) ≤ (k : Int) := by omega
      have hkP : k < P.length := by omega
      have hkp : (k : Int) < (P.length : Int) := by omega
      obtain ⟨gu, ou, rfl⟩ := HSU.out.addr (by omega)
      obtain ⟨gp, op, rfl⟩ := HSP.out.addr (by omega)
      have x0 : wr.cell? ⟨gu, ou + k, none⟩ = some (.int .i64 (u.getD k 0)) := by rw [getD_at hlt]; exact (hS.out.sx HSU.out).at1 hlt
      have z0 := ((hS.out.sx HSP.out).at3 hkP).2.1
      have HNU := Lib.hid (fun h => us_no hlt h)
      have HSS := Lib.hid (show suP P u (k + 1) = suP P u k + hA P k * u.getD k 0 from rfl)
      have HPB := Lib.hid ((HGD.out.2.2.1 _ (List.getElem_mem hkP)).2.1)
      rw [hA_at hkP] at HSS
      have HUA := Lib.hid (show ∀ x, u.getD k 0 = x → inB x 0 1000000000 = true → ∀ i, i < k + 1 → inB (u.getD i 0) 0 1000000000 = true from fun x e h i hi => by
        rcases Nat.lt_or_ge i k with h1 | h1
        · exact hU.out i h1
        · rw [show i = k by omega, e]; exact h)
      obtain ⟨x, hx⟩ : ∃ x, u.getD k 0 = x := ⟨_, rfl⟩
      have HUB := Lib.hid (HUA.out x hx)
      rw [hx] at x0 HNU HSS
      clear hx HUA
      generalize P[k].2.1 = pa at *
      cases hin : inB x 0 1000000000
      · have HF := Lib.hid (show proofB P N cost u vs = false from proof_no2 (HNU.out hin))
        have HIA := Lib.hid (fun W => In_any x 0 1000000000 W)
        rw [hin] at HIA
        clear hin
        go_wp2_with ((with_reducible refine (HIA.out _).mono ?_); rintro e w1 ⟨rfl, rfl⟩)
        go_ret
        exact ⟨by rw [← HANS.out, HF.out]; rfl, hS.out.be⟩
      · have hxb := inB_iff.1 hin
        have HUC := Lib.hid (HUB.out hin)
        have HIA := Lib.hid (fun W => In_any x 0 1000000000 W)
        rw [hin] at HIA
        clear hin
        have hpb := HPB.out
        have p0 : 0 ≤ pa * x := Int.mul_nonneg hpb.1 hxb.1
        have p1 : pa * x ≤ 1000000 * 1000000000 := Int.mul_le_mul hpb.2 hxb.2 hxb.1 (by decide)
        have w1 : IntKind.i64.wrap (pa * x) = pa * x := IntWalk.i64_in _ (by omega)
        have w2 : IntKind.i64.wrap (q - pa * x) = q - pa * x := IntWalk.i64_in _ (by omega)
        go_upto_region 9 with ((with_reducible refine (HIA.out _).mono ?_); rintro e w1 ⟨rfl, rfl⟩)
        go_quiet (fail)
        have hS1 := Lib.hid (hS.out.call (below_dN (Below.refl _ _) nq))
        go_wp2
        go_roundw
        case rel => exact ⟨k + 1, q - pa * x, by omega, rfl, by go_num, by omega, Lib.hid (by rw [HSS.out, hD.out]; omega), HUC, hS1⟩
        case measure => simp [intOf]; omega
    · have hkk : ¬ (k : Int) < (u.length : Int) := by omega
      have HUY := Lib.hid (us_yes fun i hi => hU.out i (by omega))
      have HUA := Lib.hid (show ∀ i, i < u.length → 0 ≤ u.getD i 0 ∧ u.getD i 0 ≤ 1000000000 from fun i hi => inB_iff.1 (hU.out i (by omega)))
      have HQ0 := Lib.hid (show q = -suP P u P.length from by rw [hD.out, show k = P.length from by omega])
      have hq2 : -20000000000000000 ≤ q ∧ q ≤ 0 := by omega
      clear hq hD hU
      go_wp2
      go_loopw [11, 13] (fun qv iv wr => ∃ (k : Nat) (r : Int), k ≤ vs.length ∧ qv = .int .i64 r ∧ iv = .int .i64 k ∧ (-20000000000000000 ≤ r ∧ r ≤ (k : Int) * 1000000000000000) ∧ Hid (r = svN N vs k - suP P u P.length) ∧ Hid (∀ i, i < k → inB (vs.getD i 0) 0 1000000000 = true) ∧
        Hid (∀ j, j < k → ∀ i, i < P.length → vs.getD j 0 - u.getD i 0 ≤ unitI (P.getD i ld0) (N.getD j (0, 0))) ∧ Hid (Sy w wr [] [] [])) (fun _ iv _ => vs.length - (intOf iv).toNat)
      case atStart => exact ⟨0, q, Nat.zero_le _, rfl, rfl, by omega, Lib.hid (by rw [HQ0.out]; show _ = (0 : Int) - _; omega), Lib.hid (fun i h => absurd h (Nat.not_lt_zero i)), Lib.hid (fun i h => absurd h (Nat.not_lt_zero i)), hS⟩
      case round =>
        clear hS hkk hlt hk
        obtain ⟨k, r, hk, rfl, rfl, hr, hD, hV, hPA, hS⟩ := hrel
        by_cases hlt : k < vs.length
        · have hkk : (k : Int) < (vs.length : Int) := by omega
          have k0 : (0 : Int) ≤ (k : Int) := by omega
          have hkN : k < N.length := by omega
          have hkn : (k : Int) < (N.length : Int) := by omega
          obtain ⟨gv, ov, rfl⟩ := HSV.out.addr (by omega)
          obtain ⟨gn, on, rfl⟩ := HSN.out.addr (by omega)
          have x0 : wr.cell? ⟨gv, ov + k, none⟩ = some (.int .i64 (vs.getD k 0)) := by rw [getD_at hlt]; exact (hS.out.sx HSV.out).at1 hlt
          have HVX := Lib.hid (show ∀ W, Below w.heap.size w W → W.cell? ⟨gv, ov + k, none⟩ = some (.int .i64 (vs.getD k 0)) from fun W hW => by rw [getD_at hlt]; exact (HSV.out.below hW).at1 hlt)
          have HNK := Lib.hid (fun W (hW : Below w.heap.size w W) => (HSN.out.below hW).at2 hkN)
          have z0 := ((hS.out.sx HSN.out).at2 hkN).2
          have HNU := Lib.hid (fun h => us_no hlt h)
          have HSS := Lib.hid (show svN N vs (k + 1) = svN N vs k + hB N k * vs.getD k 0 from rfl)
          have HPB := Lib.hid ((HGD.out.2.2.2 _ (List.getElem_mem hkN)))
          rw [hB_at hkN] at HSS
          have HNG := Lib.hid (getD_at2 hkN)
          have HUA2 := Lib.hid (show ∀ x, vs.getD k 0 = x → inB x 0 1000000000 = true → ∀ i, i < k + 1 → inB (vs.getD i 0) 0 1000000000 = true from fun x e h i hi => by
            rcases Nat.lt_or_ge i k with h1 | h1
            · exact hV.out i h1
            · rw [show i = k by omega, e]; exact h)
          obtain ⟨v, hx⟩ : ∃ x, vs.getD k 0 = x := ⟨_, rfl⟩
          have HUB := Lib.hid (HUA2.out v hx)
          have HVV := Lib.hid hx
          rw [hx] at x0 HNU HSS HVX
          clear hx HUA2
          generalize N[k] = n at *
          obtain ⟨n0, n1⟩ := n
          dsimp only at z0 HNK HSS HPB
          cases hin : inB v 0 1000000000
          · have HF := Lib.hid (show proofB P N cost u vs = false from proof_no3 (HNU.out hin))
            have HIA := Lib.hid (fun W => In_any v 0 1000000000 W)
            rw [hin] at HIA
            clear hin
            go_wp2_with ((with_reducible refine (HIA.out _).mono ?_); rintro e w1 ⟨rfl, rfl⟩)
            go_ret
            exact ⟨by rw [← HANS.out, HF.out]; rfl, hS.out.be⟩
          · have hxb := inB_iff.1 hin
            have HUC := Lib.hid (HUB.out hin)
            have HIA := Lib.hid (fun W => In_any v 0 1000000000 W)
            rw [hin] at HIA
            clear hin
            have hpb := HPB.out
            have p0 : 0 ≤ n1 * v := Int.mul_nonneg hpb.2.1 hxb.1
            have p1 : n1 * v ≤ 1000000 * 1000000000 := Int.mul_le_mul hpb.2.2 hxb.2 hxb.1 (by decide)
            have w1 : IntKind.i64.wrap (n1 * v) = n1 * v := IntWalk.i64_in _ (by omega)
            have w2 : IntKind.i64.wrap (r + n1 * v) = r + n1 * v := IntWalk.i64_in _ (by omega)
            go_upto_region 15 with ((with_reducible refine (HIA.out _).mono ?_); rintro e w1 ⟨rfl, rfl⟩)
            go_quiet (fail)
            have hS1 := Lib.hid (hS.out.call (below_dN (Below.refl _ _) nq))
            clear hS x0 z0
            go_wp2
            have hUC2 := HUC
            clear HUC
            go_loopw [14] (fun iv wr => ∃ i : Nat, i ≤ u.length ∧ iv = .int .i64 i ∧ Hid (∀ j, j < i → vs.getD k 0 - u.getD j 0 ≤ unitI (P.getD j ld0) (N.getD k (0, 0))) ∧ Hid (Sy w wr [] [] [])) (fun iv _ => u.length - (intOf iv).toNat)
            case atStart => exact ⟨0, Nat.zero_le _, rfl, Lib.hid (fun j h => absurd h (Nat.not_lt_zero j)), hS1⟩
            case round =>
              clear hS1
              obtain ⟨i, hi, rfl, hPI, hS⟩ := hrel
              by_cases hil : i < u.length
              · have hii : (i : Int) < (u.length : Int) := by omega
                have i0 : (0 : Int) ≤ (i : Int) := by omega
                have hiP : i < P.length := by omega
                have hip : (i : Int) < (P.length : Int) := by omega
                obtain ⟨gu, ou, rfl⟩ := HSU.out.addr (by omega)
                obtain ⟨gp, op, rfl⟩ := HSP.out.addr (by omega)
                have HUX := Lib.hid (show ∀ W, Below w.heap.size w W → W.cell? ⟨gu, ou + i, none⟩ = some (.int .i64 (u.getD i 0)) from fun W hW => by rw [getD_at hil]; exact (HSU.out.below hW).at1 hil)
                have HPJ := Lib.hid (fun W (hW : Below w.heap.size w W) => (HSP.out.below hW).at3 hiP)
                have HPG := Lib.hid (getD_at3 hiP)
                have hub := HUA.out i hil
                have HPD := Lib.hid (HGD.out.2.2.1 _ (List.getElem_mem hiP))
                obtain ⟨u0, hu0⟩ : ∃ x, u.getD i 0 = x := ⟨_, rfl⟩
                have HUE := Lib.hid hu0
                rw [hu0] at HUX hub
                clear hu0
                generalize P[i] = p at *
                obtain ⟨p0', p1', p2'⟩ := p
                obtain ⟨p0, hp0⟩ : ∃ x, p0' = x := ⟨_, rfl⟩
                obtain ⟨p1, hp1⟩ : ∃ x, p1' = x := ⟨_, rfl⟩
                obtain ⟨p2, hp2⟩ : ∃ x, p2' = x := ⟨_, rfl⟩
                rw [hp0, hp1, hp2] at HPJ HPG HPD
                clear hp0 hp1 hp2
                have HUC := Lib.hid (fun W => refUnit_any W (p0, p1, p2) (n0, n1) (by have := HPD.out.1; dsimp only at this ⊢; omega) (by have := HPB.out.1; dsimp only at this ⊢; omega) (by have := HPD.out.2.2; dsimp only at this ⊢; omega))
                have HUN := Lib.hid (show unitI (P.getD i ld0) (N.getD k (0, 0)) = unitI (p0, p1, p2) (n0, n1) from by rw [HPG.out, HNG.out])
                generalize unitI (p0, p1, p2) (n0, n1) = un at *
                dsimp only at HPJ HUC
                have wv : IntKind.i64.wrap (v - u0) = v - u0 := IntWalk.i64_in _ (by omega)
                go_upto_region 19 with fail
                refine wp_region_held_drew (S := (fun w' => w'.cell? ⟨gp, op + i * 3, none⟩ = some (.int .i64 p0) ∧ w'.cell? ⟨gp, op + i * 3 + 1, none⟩ = some (.int .i64 p1) ∧ w'.cell? ⟨gp, op + i * 3 + 2, none⟩ = some (.int .i64 p2) ∧ w'.cell? ⟨gn, on + k * 2, none⟩ = some (.int .i64 n0) ∧ w'.cell? ⟨gn, on + k * 2 + 1, none⟩ = some (.int .i64 n1) ∧ w'.cell? ⟨gu, ou + i, none⟩ = some (.int .i64 u0) ∧ w'.cell? ⟨gv, ov + k, none⟩ = some (.int .i64 v) ∧ True)) (by kernel_rfl) ⟨(HPJ.out _ hS.out.drew.be).1, (HPJ.out _ hS.out.drew.be).2.1, (HPJ.out _ hS.out.drew.be).2.2, (HNK.out _ hS.out.drew.be).1, (HNK.out _ hS.out.drew.be).2, (HUX.out _ hS.out.drew.be), (HVX.out _ hS.out.drew.be), trivial⟩ (fun hH => ?_)
                refine wpAnyH_geny (show Sy w _ [] [] [] from hS.out.drew) hH ?_
                intro VR_0 hc hHR_0
                have hVR_0 := Lib.hid hc
                clear hc hH hS
                refine wpAnyH_take (i := 0) (oi := ⟨_, _, _, _, _, _⟩) (v := ?_) rfl (by kernel_rfl) (by kernel_rfl) (by kernel_rfl) (fun _ _ _ h => h) (Or.inl ⟨by rfl, ?_⟩) hHR_0 ?_
                rotate_left
                · intro wS hSw; (try dsimp only at hSw); go_simp; try with_reducible rfl
                try simp only [Act.put, List.setIfInBounds_toArray, List.set_cons_zero, List.set_cons_succ]
                refine wpAnyH_take (i := 1) (oi := ⟨_, _, _, _, _, _⟩) (v := ?_) rfl (by kernel_rfl) (by kernel_rfl) (by kernel_rfl) (fun _ _ _ h => h) (Or.inl ⟨by rfl, ?_⟩) hHR_0 ?_
                rotate_left
                · intro wS hSw; (try dsimp only at hSw); go_simp; try with_reducible rfl
                try simp only [Act.put, List.setIfInBounds_toArray, List.set_cons_zero, List.set_cons_succ]
                refine wpAnyH_take (i := 2) (oi := ⟨_, _, _, _, _, _⟩) (v := ?_) rfl (by kernel_rfl) (by kernel_rfl) (by kernel_rfl) (fun _ _ _ h => h) (Or.inl ⟨by rfl, ?_⟩) hHR_0 ?_
                rotate_left
                · intro wS hSw; (try dsimp only at hSw); go_simp; try with_reducible rfl
                try simp only [Act.put, List.setIfInBounds_toArray, List.set_cons_zero, List.set_cons_succ]
                refine wpAnyH_take (i := 3) (oi := ⟨_, _, _, _, _, _⟩) (v := ?_) rfl (by kernel_rfl) (by kernel_rfl) (by kernel_rfl) (fun _ _ _ h => h) (Or.inl ⟨by rfl, ?_⟩) hHR_0 ?_
                rotate_left
                · intro wS hSw; (try dsimp only at hSw); go_simp; try with_reducible rfl
                try simp only [Act.put, List.setIfInBounds_toArray, List.set_cons_zero, List.set_cons_succ]
                refine wpAnyH_take (i := 4) (oi := ⟨_, _, _, _, _, _⟩) (v := ?_) rfl (by kernel_rfl) (by kernel_rfl) (by kernel_rfl) (fun _ _ _ h => h) (Or.inl ⟨by rfl, ?_⟩) hHR_0 ?_
                rotate_left
                · intro wS hSw; (try dsimp only at hSw); go_simp; try with_reducible rfl
                try simp only [Act.put, List.setIfInBounds_toArray, List.set_cons_zero, List.set_cons_succ]
                refine wpAnyH_take (i := 5) (oi := ⟨_, _, _, _, _, _⟩) (v := ?_) rfl (by kernel_rfl) (by kernel_rfl) (by kernel_rfl) (fun _ _ _ h => h) (Or.inl ⟨by rfl, ?_⟩) hHR_0 ?_
                rotate_left
                · intro wS hSw; (try dsimp only at hSw); go_simp; try with_reducible rfl
                try simp only [Act.put, List.setIfInBounds_toArray, List.set_cons_zero, List.set_cons_succ]
                refine wpAnyH_take (i := 6) (oi := ⟨_, _, _, _, _, _⟩) (v := ?_) rfl (by kernel_rfl) (by kernel_rfl) (by kernel_rfl) (fun _ _ _ h => h) (Or.inl ⟨by rfl, ?_⟩) hHR_0 ?_
                rotate_left
                · intro wS hSw; (try dsimp only at hSw); go_simp; try with_reducible rfl
                try simp only [Act.put, List.setIfInBounds_toArray, List.set_cons_zero, List.set_cons_succ]
                refine wpAnyH_take (i := 7) (oi := ⟨_, _, _, _, _, _⟩) (v := ?_) rfl (by kernel_rfl) (by kernel_rfl) (by kernel_rfl) (fun _ _ _ h => h) (Or.inl ⟨by rfl, ?_⟩) hHR_0 ?_
                rotate_left
                · intro wS hSw; (try dsimp only at hSw); go_simp; try with_reducible rfl
                try simp only [Act.put, List.setIfInBounds_toArray, List.set_cons_zero, List.set_cons_succ]
                refine wpAnyH_take (i := 8) (oi := ⟨_, _, _, _, _, _⟩) (v := ?_) rfl (by kernel_rfl) (by kernel_rfl) (by kernel_rfl) (fun _ _ _ h => h) (Or.inl ⟨by rfl, ?_⟩) hHR_0 ?_
                rotate_left
                · intro wS hSw; (try dsimp only at hSw); go_simp; try with_reducible rfl
                try simp only [Act.put, List.setIfInBounds_toArray, List.set_cons_zero, List.set_cons_succ]
                refine wpAnyH_take (i := 9) (oi := ⟨_, _, _, _, _, _⟩) (v := ?_) rfl (by kernel_rfl) (by kernel_rfl) (by kernel_rfl) (fun _ _ _ h => h) (Or.inl ⟨by rfl, ?_⟩) hHR_0 ?_
                rotate_left
                · intro wS hSw; (try dsimp only at hSw); go_simp; try with_reducible rfl
                try simp only [Act.put, List.setIfInBounds_toArray, List.set_cons_zero, List.set_cons_succ]
                refine wpAnyH_take (i := 10) (oi := ⟨_, _, _, _, _, _⟩) (v := ?_) rfl (by kernel_rfl) (by kernel_rfl) (by kernel_rfl) (fun _ _ _ h => h) (Or.inl ⟨by rfl, ?_⟩) hHR_0 ?_
                rotate_left
                · intro wS hSw; (try dsimp only at hSw); go_simp; try with_reducible rfl
                try simp only [Act.put, List.setIfInBounds_toArray, List.set_cons_zero, List.set_cons_succ]
                refine wpAnyH_take (i := 11) (oi := ⟨_, _, _, _, _, _⟩) (v := ?_) rfl (by kernel_rfl) (by kernel_rfl) (by kernel_rfl) (fun _ _ _ h => h) (Or.inl ⟨by rfl, ?_⟩) hHR_0 ?_
                rotate_left
                · intro wS hSw; (try dsimp only at hSw); go_simp; try with_reducible rfl
                try simp only [Act.put, List.setIfInBounds_toArray, List.set_cons_zero, List.set_cons_succ]
                refine wpAnyH_take (i := 12) (oi := ⟨_, _, _, _, _, _⟩) (v := ?_) rfl (by kernel_rfl) (by kernel_rfl) (by kernel_rfl) (fun _ _ _ h => h) (Or.inl ⟨by rfl, ?_⟩) hHR_0 ?_
                rotate_left
                · intro wS hSw; (try dsimp only at hSw); go_simp; try with_reducible rfl
                try simp only [Act.put, List.setIfInBounds_toArray, List.set_cons_zero, List.set_cons_succ]
                refine wpAnyH_take (i := 13) (oi := ⟨_, _, _, _, _, _⟩) (v := ?_) rfl (by kernel_rfl) (by kernel_rfl) (by kernel_rfl) (fun _ _ _ h => h) (Or.inl ⟨by rfl, ?_⟩) hHR_0 ?_
                rotate_left
                · intro wS hSw; (try dsimp only at hSw); go_simp; try with_reducible rfl
                try simp only [Act.put, List.setIfInBounds_toArray, List.set_cons_zero, List.set_cons_succ]
                refine wpAnyH_take (i := 14) (oi := ⟨_, _, _, _, _, _⟩) (v := ?_) rfl (by kernel_rfl) (by kernel_rfl) (by kernel_rfl) (fun _ _ _ h => h) (Or.inl ⟨by rfl, ?_⟩) hHR_0 ?_
                rotate_left
                · intro wS hSw; (try dsimp only at hSw); go_simp; try with_reducible rfl
                try simp only [Act.put, List.setIfInBounds_toArray, List.set_cons_zero, List.set_cons_succ]
                refine wpAnyH_take (i := 15) (oi := ⟨_, _, _, _, _, _⟩) (v := ?_) rfl (by kernel_rfl) (by kernel_rfl) (by kernel_rfl) (fun _ _ _ h => h) (Or.inl ⟨by rfl, ?_⟩) hHR_0 ?_
                rotate_left
                · intro wS hSw; (try dsimp only at hSw); go_simp; try with_reducible rfl
                try simp only [Act.put, List.setIfInBounds_toArray, List.set_cons_zero, List.set_cons_succ]
                refine wpAnyH_take (i := 16) (oi := ⟨_, _, _, _, _, _⟩) (v := ?_) rfl (by kernel_rfl) (by kernel_rfl) (by kernel_rfl) (fun _ _ _ h => h) (Or.inl ⟨by rfl, ?_⟩) hHR_0 ?_
                rotate_left
                · intro wS hSw; (try dsimp only at hSw); go_simp; try with_reducible rfl
                try simp only [Act.put, List.setIfInBounds_toArray, List.set_cons_zero, List.set_cons_succ]
                refine wpAnyH_ready (rs := [17]) (by kernel_rfl) (by simp) ?_
                refine AllReadyH.cons (o := ⟨_, _, _, _, _, _⟩) rfl (fun Kq hKq => ?_) AllReadyH.nil
                go_simp
                go_at_call 69
                refine (HUC.out _).mono ?_
                rintro e wT ⟨rfl, hb⟩
                (try go_wp2_with fail)
                refine stepY hKq (show Sy w _ [] [] [] from (hVR_0.out.call hb)) (fun _ hX => ⟨(HPJ.out _ hX.be).1, (HPJ.out _ hX.be).2.1, (HPJ.out _ hX.be).2.2, (HNK.out _ hX.be).1, (HNK.out _ hX.be).2, (HUX.out _ hX.be), (HVX.out _ hX.be), trivial⟩) ?_
                intro VR_1 hc hHR_1
                have hVR_1 := Lib.hid hc
                clear hc hKq Kq hVR_0 hb hHR_0
                try simp only [Act.put, List.setIfInBounds_toArray, List.set_cons_zero, List.set_cons_succ]
                refine wpAnyH_take (i := 18) (oi := ⟨_, _, _, _, _, _⟩) (v := ?_) rfl (by kernel_rfl) (by kernel_rfl) (by kernel_rfl) (fun _ _ _ h => h) (Or.inl ⟨by rfl, ?_⟩) hHR_1 ?_
                rotate_left
                · intro wS hSw; (try dsimp only at hSw); go_simp; try with_reducible rfl
                try simp only [Act.put, List.setIfInBounds_toArray, List.set_cons_zero, List.set_cons_succ]
                refine wpAnyH_done (by kernel_rfl) ?_ _
                by_cases hgt : un < v - u0
                · have HF := Lib.hid (show proofB P N cost u vs = false from proof_no4 (pairs_no hiP hkN (by rw [HUE.out, HVV.out, HUN.out]; exact hgt)))
                  have d0 : v - u0 > un := hgt
                  go_wp2
                  go_ret
                  exact ⟨by rw [← HANS.out, HF.out]; rfl, hVR_1.out.be⟩
                · have d0 : ¬ (v - u0 > un) := hgt
                  have HGN := Lib.hid (show vs.getD k 0 - u.getD i 0 ≤ unitI (P.getD i ld0) (N.getD k (0, 0)) from by rw [HUE.out, HVV.out, HUN.out]; omega)
                  go_wp2
                  go_roundw
                  case rel =>
                    refine ⟨i + 1, by omega, by go_num, Lib.hid (fun j hj => ?_), hVR_1⟩
                    rcases Nat.lt_or_ge j i with h | h
                    · exact hPI.out j h
                    · rw [show j = i by omega]; exact HGN.out
                  case measure => simp [intOf]; omega
              · have hii : ¬ (i : Int) < (u.length : Int) := by omega
                have HPK := Lib.hid (show ∀ j, j < k + 1 → ∀ i, i < P.length → vs.getD j 0 - u.getD i 0 ≤ unitI (P.getD i ld0) (N.getD j (0, 0)) from fun j hj m hm => by
                  rcases Nat.lt_or_ge j k with h1 | h1
                  · exact hPA.out j h1 m hm
                  · rw [show j = k by omega]; exact hPI.out m (by omega))
                go_wp2
                go_roundw
                case rel => exact ⟨k + 1, r + n1 * v, by omega, rfl, by go_num, by omega, Lib.hid (by rw [HSS.out, hD.out]; omega), hUC2, HPK, hS⟩
                case measure => simp [intOf]; omega
        · have hkk : ¬ (k : Int) < (vs.length : Int) := by omega
          have HVY := Lib.hid (us_yes fun i hi => hV.out i (by omega))
          have HPY := Lib.hid (pairs_yes (P := P) (N := N) fun j hj => hPA.out j (by omega))
          have HYS := Lib.hid (show decide (r = cost) = ans from by rw [← HANS.out, proof_yes HUP.out HVN.out HUY.out HVY.out HPY.out, hD.out, show k = N.length from by omega])
          clear hD
          go_wp2
          go_ret
          refine ⟨ret_bool (show _ = ans from ?_), hS.out.be⟩
          rw [← HYS.out]
          by_cases h : r = cost <;> simp [h]
end
end Go.Proofs.YteogibpmpppgmaaGreat

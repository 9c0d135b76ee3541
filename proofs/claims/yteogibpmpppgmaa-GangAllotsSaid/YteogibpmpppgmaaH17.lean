/- list: the loads and their cost; Carry -/
import Derived.Test.YteogibpmpppgmaaH16
import Derived.Test.YteogibpmpppgmaaG10
import Derived.Test.YteogibpmpppgmaaH3
namespace Go.Proofs.Yteogibpmpppgmaa
open Go.RowKit Go.Shelf
section
variable (w : World)
def RetLoads (w : World) (P : List I3) (N : List I2) (X : Nat → Nat → Int) (e : Ending) (w' : World) : Prop := ∃ (a : Option Addr) (c : Nat), e = .returned (.tuple #[.slice a (loadsOf P.length N.length X).length c, .int .i64 (costN P.length N.length (costC P N) X)]) ∧
  w'.ownsRow w.heap.size 86 3 (.slice a (loadsOf P.length N.length X).length c) (loadsOf P.length N.length X).length (L3 (loadsOf P.length N.length X)) ∧ Below w.heap.size w w'
set_option maxHeartbeats 8000000 in
set_option maxRecDepth 100000 in
theorem list_any (y : Nat) (a0 a1 a2 a3 : Option Addr) (c0 c1 c2 c3 : Nat) (P : List I3) (N : List I2) (G T : List Int) (X : Nat → Nat → Int) (hY : Yard w y a0 a1 a2 a3 c0 c1 c2 c3 P N G T X) (hG : YGood P N)
    (hX : ∀ i k, i < P.length → k < N.length → 0 ≤ X i k ∧ X i k ≤ 1000000) :
    Calls Try.prog 53 #[.pointer (some ⟨y, 0, none⟩)] w (RetLoads w P N X) := by
  have HY := Lib.hid (fun V (hV : Below w.heap.size w V) => hY.below hV)
  have HGD := Lib.hid hG
  have HX := Lib.hid hX
  have hP20 := hG.1
  have hN20 := hG.2.1
  have HCB := Lib.hid (show ∀ i k, i < P.length → k < N.length → 0 ≤ X i k * costC P N i k ∧ X i k * costC P N i k ≤ 1200000000000 from fun i k hi hk => by
    have h1 := hX i k hi hk
    have h2 := hcost hG i k hi hk
    unfold capN at h2
    exact ⟨Int.mul_nonneg h1.1 h2.1, Int.mul_le_mul (c := 1000000) h1.2 h2.2 h2.1 (by decide)⟩)
  have y0 := hY.y0
  clear hY hG hX
  go_enter Try.func53, Try.ntmps53
  go_wp2
  go_loopw [2, 3, 12] (fun lv cv iv wr => ∃ (i : Nat) (a : Option Addr) (c : Nat), i ≤ P.length ∧ lv = .slice a (loadsOf i N.length X).length c ∧ cv = .int .i64 (costN i N.length (costC P N) X) ∧ iv = .int .i64 i ∧
    Hid (Sy w wr [] [⟨.slice a (loadsOf i N.length X).length c, 86, 3, (loadsOf i N.length X).length, L3 (loadsOf i N.length X)⟩] [])) (fun _ _ iv _ => P.length - (intOf iv).toNat)
  case atStart => exact ⟨0, none, 0, Nat.zero_le _, rfl, rfl, rfl, Lib.hid ((Sy.enter w).onil _ 3)⟩
  case round =>
    clear y0
    obtain ⟨i, a, c, hi, rfl, rfl, rfl, hS⟩ := hrel
    by_cases hlt : i < P.length
    · have y1 := (HY.out _ hS.out.be).y1
      have HLL := Lib.hid (loads_len N.length X i)
      have HCR := Lib.hid (show 0 ≤ costN i N.length (costC P N) X ∧ costN i N.length (costC P N) X ≤ i * 24000000000000 from by
        unfold costN
        refine rsum_abs i fun j hj => ?_
        have h := rsum_abs (f := fun k => X j k * costC P N j k) N.length fun k hk => HCB.out j k (by omega) hk
        have h3 : (N.length : Int) * 1200000000000 ≤ 20 * 1200000000000 := Int.mul_le_mul_of_nonneg_right (by omega) (by decide)
        exact ⟨h.1, Int.le_trans h.2 h3⟩)
      obtain ⟨L, hL⟩ : ∃ L, loadsOf i N.length X = L := ⟨_, rfl⟩
      obtain ⟨K, hK⟩ : ∃ K, costN i N.length (costC P N) X = K := ⟨_, rfl⟩
      rw [hL] at HLL hS
      rw [hK] at HCR
      rw [hL, hK]
      have HLK := Lib.hid (And.intro hL hK)
      clear hL hK
      have hK0 := HCR.out
      have hLb : L.length ≤ 400 := by
        have h1 := HLL.out
        have h2 : i * N.length ≤ 20 * 20 := Nat.mul_le_mul (by omega) hN20
        omega
      have hKb : 0 ≤ K ∧ K ≤ 480000000000000 := by omega
      clear hK0
      go_wp2
      go_loopw [2, 3, 20] (fun lv cv kv wr => ∃ (k : Nat) (a : Option Addr) (c : Nat), k ≤ N.length ∧ lv = .slice a (L ++ (List.range k).flatMap (ldOf X i)).length c ∧ cv = .int .i64 (K + rsum (fun k => X i k * costC P N i k) k) ∧ kv = .int .i64 k ∧
        Hid (Sy w wr [] [⟨.slice a (L ++ (List.range k).flatMap (ldOf X i)).length c, 86, 3, (L ++ (List.range k).flatMap (ldOf X i)).length, L3 (L ++ (List.range k).flatMap (ldOf X i))⟩] [])) (fun _ _ kv _ => N.length - (intOf kv).toNat)
      case atStart => exact ⟨0, a, c, Nat.zero_le _, by simp, by simp [rsum], rfl, by simpa using hS⟩
      case round =>
        clear hS y1
        obtain ⟨k, a, c, hk, rfl, rfl, rfl, hS⟩ := hrel
        by_cases hlk : k < N.length
        · have HRL := Lib.hid (row_len X i k)
          have HRS := Lib.hid (row_succ X i k)
          have HKS := Lib.hid (show rsum (fun k => X i k * costC P N i k) (k + 1) = rsum (fun k => X i k * costC P N i k) k + X i k * costC P N i k from rfl)
          have hKR := rsum_abs (f := fun k => X i k * costC P N i k) k fun j hj => HCB.out i j hlt (by omega)
          have hlM : (L ++ (List.range k).flatMap (ldOf X i)).length ≤ 1000 := by rw [List.length_append]; have := HRL.out; omega
          have hC1 := HCB.out i k hlt hlk
          obtain ⟨M, hM⟩ : ∃ M, (L ++ (List.range k).flatMap (ldOf X i)) = M := ⟨_, rfl⟩
          obtain ⟨R, hR⟩ : ∃ R, rsum (fun k => X i k * costC P N i k) k = R := ⟨_, rfl⟩
          rw [hM] at hS hlM ⊢
          rw [hR] at hKR ⊢
          have HMR := Lib.hid (And.intro hM hR)
          clear hM hR
          have hRb : 0 ≤ R ∧ R ≤ 24000000000000 := by
            have h3 : (k : Int) * 1200000000000 ≤ 20 * 1200000000000 := Int.mul_le_mul_of_nonneg_right (by omega) (by decide)
            exact ⟨hKR.1, Int.le_trans hKR.2 h3⟩
          have d1 := (HY.out _ hS.out.be).yx i k hlt hlk
          rw [← Nat.add_assoc] at d1
          have HXE := Lib.hid (HX.out i k hlt hlk)
          obtain ⟨x, hx⟩ : ∃ x, X i k = x := ⟨_, rfl⟩
          obtain ⟨u, hu⟩ : ∃ u, costC P N i k = u := ⟨_, rfl⟩
          have HXU := Lib.hid (And.intro hx hu)
          rw [hx] at d1
          rw [hx, hu] at hC1
          clear hx hu hKR
          have i0 : (0 : Int) ≤ (i : Int) := by omega
          have i1 : (i : Int) < 20 := by omega
          have k0 : (0 : Int) ≤ (k : Int) := by omega
          have k1 : (k : Int) < 20 := by omega
          have i2 : (i : Int) < (P.length : Int) := by omega
          have k2 : (k : Int) < (N.length : Int) := by omega
          by_cases hx0 : 0 < x
          · have HX0 := Lib.hid hx0
            have wmul : IntKind.i64.wrap (x * u) = x * u := by rw [IntKind.wrap_i64]; omega
            have wadd : IntKind.i64.wrap (K + R + x * u) = K + R + x * u := by rw [IntKind.wrap_i64]; omega
            have HW := Lib.hid (And.intro wmul wadd)
            clear wmul wadd
            go_upto_region 10 with (refine wpList_append_sy (o := ⟨some 39, _, _, _, _, _⟩) rfl (hS.out.onew wr.heap.size #[.int .i64 (i : Int), .int .i64 (k : Int), .int .i64 x] 86 3 1 rfl (by omega) rfl) 0 1 rfl rfl _ _ _ rfl und_Load info_Load rfl (by omega) rfl rfl (by intro u hu; simp at hu; rcases hu with rfl | rfl | rfl <;> rfl) (by omega) (by omega) ?_; intro a3 c3 V hV; have hT := Lib.hid (hV.thin (List.Sublist.refl _) (List.Sublist.cons_cons _ (List.nil_sublist _))); clear hV)
            clear hS d1
            have HP3 := Lib.hid (fun W (hW : Below w.heap.size w W) => by
              have h := (HY.out W hW).sp
              obtain ⟨g, o, e⟩ := h.addr (by omega)
              exact (⟨g, o, e, by rw [e] at h; exact h.at3 hlt⟩ : ∃ g o, a0 = some ⟨g, o, none⟩ ∧ W.cell? ⟨g, o + i * 3, none⟩ = some (.int .i64 P[i].1) ∧ W.cell? ⟨g, o + i * 3 + 1, none⟩ = some (.int .i64 P[i].2.1) ∧ W.cell? ⟨g, o + i * 3 + 2, none⟩ = some (.int .i64 P[i].2.2)))
            obtain ⟨g0, o0, hea, -⟩ := HP3.out _ hT.out.be
            have HN3 := Lib.hid (fun W (hW : Below w.heap.size w W) => by
              have h := (HY.out W hW).sn
              obtain ⟨g, o, e⟩ := h.addr (by omega)
              exact (⟨g, o, e, by rw [e] at h; exact h.at2 hlk⟩ : ∃ g o, a1 = some ⟨g, o, none⟩ ∧ W.cell? ⟨g, o + k * 2, none⟩ = some (.int .i64 N[k].1) ∧ W.cell? ⟨g, o + k * 2 + 1, none⟩ = some (.int .i64 N[k].2)))
            obtain ⟨g1, o1, heb, -⟩ := HN3.out _ hT.out.be
            subst hea
            subst heb
            have HPQ := Lib.hid (And.intro (HGD.out.2.2.1 _ (List.getElem_mem hlt)) (HGD.out.2.2.2 _ (List.getElem_mem hlk)))
            have HUU := Lib.hid (show unitI P[i] N[k] = u from by
              have h := HXU.out.2
              unfold costC at h
              rw [List.getD_eq_getElem?_getD, List.getD_eq_getElem?_getD, List.getElem?_eq_getElem hlt, List.getElem?_eq_getElem hlk] at h
              exact h)
            generalize P[i] = p at *
            generalize N[k] = q at *
            obtain ⟨p0, p1, p2⟩ := p
            obtain ⟨q0, q1⟩ := q
            have HP4 := Lib.hid (fun W (hW : Below w.heap.size w W) => by
              obtain ⟨g, o, e, h⟩ := HP3.out W hW
              cases e
              exact h)
            have HN4 := Lib.hid (fun W (hW : Below w.heap.size w W) => by
              obtain ⟨g, o, e, h⟩ := HN3.out W hW
              cases e
              exact h)
            have HCO := Lib.hid (fun W => by
              have h := costs_any W (p0, p1, p2) (q0, q1) (by have := HPQ.out.1.1; dsimp only at this ⊢; omega) (by have := HPQ.out.2.1; dsimp only at this ⊢; omega) HPQ.out.1.2.2
              rw [HUU.out] at h
              exact h)
            clear HP3 HN3
            dsimp only at HP4 HN4 HCO
            refine wp_region_held_drew (S := (fun w' => w'.cell? ⟨y, 0, none⟩ = some (.slice (some ⟨g0, o0, none⟩) P.length c0) ∧ w'.cell? ⟨y, 1, none⟩ = some (.slice (some ⟨g1, o1, none⟩) N.length c1) ∧ w'.cell? ⟨g0, o0 + i * 3, none⟩ = some (.int .i64 p0) ∧ w'.cell? ⟨g0, o0 + i * 3 + 1, none⟩ = some (.int .i64 p1) ∧ w'.cell? ⟨g0, o0 + i * 3 + 2, none⟩ = some (.int .i64 p2) ∧ w'.cell? ⟨g1, o1 + k * 2, none⟩ = some (.int .i64 q0) ∧ w'.cell? ⟨g1, o1 + k * 2 + 1, none⟩ = some (.int .i64 q1) ∧ True)) (by kernel_rfl) ⟨(HY.out _ hT.out.drew.be).y0, (HY.out _ hT.out.drew.be).y1, (HP4.out _ hT.out.drew.be).1, (HP4.out _ hT.out.drew.be).2.1, (HP4.out _ hT.out.drew.be).2.2, (HN4.out _ hT.out.drew.be).1, (HN4.out _ hT.out.drew.be).2, trivial⟩ (fun hH => ?_)
            refine wpAnyH_geny (show Sy w _ [] [⟨.slice a3 (M.length + 1) c3, 86, 3, M.length + 1, L3 M ++ #[.int .i64 (i : Int), .int .i64 (k : Int), .int .i64 x].toList⟩] [] from hT.out.drew) hH ?_
            intro VC_0 hc hHC_0
            have hVC_0 := Lib.hid hc
            clear hc hH hT
            refine wpAnyH_take (i := 0) (oi := ⟨_, _, _, _, _, _⟩) (v := ?_) rfl (by kernel_rfl) (by kernel_rfl) (by kernel_rfl) (fun _ _ _ h => h) (Or.inl ⟨by rfl, ?_⟩) hHC_0 ?_
            rotate_left
            · intro wS hSw; (try dsimp only at hSw); go_simp; try with_reducible rfl
            try simp only [Act.put, List.setIfInBounds_toArray, List.set_cons_zero, List.set_cons_succ]
            refine wpAnyH_take (i := 1) (oi := ⟨_, _, _, _, _, _⟩) (v := ?_) rfl (by kernel_rfl) (by kernel_rfl) (by kernel_rfl) (fun _ _ _ h => h) (Or.inl ⟨by rfl, ?_⟩) hHC_0 ?_
            rotate_left
            · intro wS hSw; (try dsimp only at hSw); go_simp; try with_reducible rfl
            try simp only [Act.put, List.setIfInBounds_toArray, List.set_cons_zero, List.set_cons_succ]
            refine wpAnyH_take (i := 2) (oi := ⟨_, _, _, _, _, _⟩) (v := ?_) rfl (by kernel_rfl) (by kernel_rfl) (by kernel_rfl) (fun _ _ _ h => h) (Or.inl ⟨by rfl, ?_⟩) hHC_0 ?_
            rotate_left
            · intro wS hSw; (try dsimp only at hSw); go_simp; try with_reducible rfl
            try simp only [Act.put, List.setIfInBounds_toArray, List.set_cons_zero, List.set_cons_succ]
            refine wpAnyH_take (i := 3) (oi := ⟨_, _, _, _, _, _⟩) (v := ?_) rfl (by kernel_rfl) (by kernel_rfl) (by kernel_rfl) (fun _ _ _ h => h) (Or.inl ⟨by rfl, ?_⟩) hHC_0 ?_
            rotate_left
            · intro wS hSw; (try dsimp only at hSw); go_simp; try with_reducible rfl
            try simp only [Act.put, List.setIfInBounds_toArray, List.set_cons_zero, List.set_cons_succ]
            refine wpAnyH_take (i := 4) (oi := ⟨_, _, _, _, _, _⟩) (v := ?_) rfl (by kernel_rfl) (by kernel_rfl) (by kernel_rfl) (fun _ _ _ h => h) (Or.inl ⟨by rfl, ?_⟩) hHC_0 ?_
            rotate_left
            · intro wS hSw; (try dsimp only at hSw); go_simp; try with_reducible rfl
            try simp only [Act.put, List.setIfInBounds_toArray, List.set_cons_zero, List.set_cons_succ]
            refine wpAnyH_take (i := 5) (oi := ⟨_, _, _, _, _, _⟩) (v := ?_) rfl (by kernel_rfl) (by kernel_rfl) (by kernel_rfl) (fun _ _ _ h => h) (Or.inl ⟨by rfl, ?_⟩) hHC_0 ?_
            rotate_left
            · intro wS hSw; (try dsimp only at hSw); go_simp; try with_reducible rfl
            try simp only [Act.put, List.setIfInBounds_toArray, List.set_cons_zero, List.set_cons_succ]
            refine wpAnyH_take (i := 6) (oi := ⟨_, _, _, _, _, _⟩) (v := ?_) rfl (by kernel_rfl) (by kernel_rfl) (by kernel_rfl) (fun _ _ _ h => h) (Or.inl ⟨by rfl, ?_⟩) hHC_0 ?_
            rotate_left
            · intro wS hSw; (try dsimp only at hSw); go_simp; try with_reducible rfl
            try simp only [Act.put, List.setIfInBounds_toArray, List.set_cons_zero, List.set_cons_succ]
            refine wpAnyH_take (i := 7) (oi := ⟨_, _, _, _, _, _⟩) (v := ?_) rfl (by kernel_rfl) (by kernel_rfl) (by kernel_rfl) (fun _ _ _ h => h) (Or.inl ⟨by rfl, ?_⟩) hHC_0 ?_
            rotate_left
            · intro wS hSw; (try dsimp only at hSw); go_simp; try with_reducible rfl
            try simp only [Act.put, List.setIfInBounds_toArray, List.set_cons_zero, List.set_cons_succ]
            refine wpAnyH_take (i := 8) (oi := ⟨_, _, _, _, _, _⟩) (v := ?_) rfl (by kernel_rfl) (by kernel_rfl) (by kernel_rfl) (fun _ _ _ h => h) (Or.inl ⟨by rfl, ?_⟩) hHC_0 ?_
            rotate_left
            · intro wS hSw; (try dsimp only at hSw); go_simp; try with_reducible rfl
            try simp only [Act.put, List.setIfInBounds_toArray, List.set_cons_zero, List.set_cons_succ]
            refine wpAnyH_take (i := 9) (oi := ⟨_, _, _, _, _, _⟩) (v := ?_) rfl (by kernel_rfl) (by kernel_rfl) (by kernel_rfl) (fun _ _ _ h => h) (Or.inl ⟨by rfl, ?_⟩) hHC_0 ?_
            rotate_left
            · intro wS hSw; (try dsimp only at hSw); go_simp; try with_reducible rfl
            try simp only [Act.put, List.setIfInBounds_toArray, List.set_cons_zero, List.set_cons_succ]
            refine wpAnyH_take (i := 10) (oi := ⟨_, _, _, _, _, _⟩) (v := ?_) rfl (by kernel_rfl) (by kernel_rfl) (by kernel_rfl) (fun _ _ _ h => h) (Or.inl ⟨by rfl, ?_⟩) hHC_0 ?_
            rotate_left
            · intro wS hSw; (try dsimp only at hSw); go_simp; try with_reducible rfl
            try simp only [Act.put, List.setIfInBounds_toArray, List.set_cons_zero, List.set_cons_succ]
            refine wpAnyH_take (i := 11) (oi := ⟨_, _, _, _, _, _⟩) (v := ?_) rfl (by kernel_rfl) (by kernel_rfl) (by kernel_rfl) (fun _ _ _ h => h) (Or.inl ⟨by rfl, ?_⟩) hHC_0 ?_
            rotate_left
            · intro wS hSw; (try dsimp only at hSw); go_simp; try with_reducible rfl
            try simp only [Act.put, List.setIfInBounds_toArray, List.set_cons_zero, List.set_cons_succ]
            refine wpAnyH_take (i := 12) (oi := ⟨_, _, _, _, _, _⟩) (v := ?_) rfl (by kernel_rfl) (by kernel_rfl) (by kernel_rfl) (fun _ _ _ h => h) (Or.inl ⟨by rfl, ?_⟩) hHC_0 ?_
            rotate_left
            · intro wS hSw; (try dsimp only at hSw); go_simp; try with_reducible rfl
            try simp only [Act.put, List.setIfInBounds_toArray, List.set_cons_zero, List.set_cons_succ]
            refine wpAnyH_take (i := 13) (oi := ⟨_, _, _, _, _, _⟩) (v := ?_) rfl (by kernel_rfl) (by kernel_rfl) (by kernel_rfl) (fun _ _ _ h => h) (Or.inl ⟨by rfl, ?_⟩) hHC_0 ?_
            rotate_left
            · intro wS hSw; (try dsimp only at hSw); go_simp; try with_reducible rfl
            try simp only [Act.put, List.setIfInBounds_toArray, List.set_cons_zero, List.set_cons_succ]
            refine wpAnyH_take (i := 14) (oi := ⟨_, _, _, _, _, _⟩) (v := ?_) rfl (by kernel_rfl) (by kernel_rfl) (by kernel_rfl) (fun _ _ _ h => h) (Or.inl ⟨by rfl, ?_⟩) hHC_0 ?_
            rotate_left
            · intro wS hSw; (try dsimp only at hSw); go_simp; try with_reducible rfl
            try simp only [Act.put, List.setIfInBounds_toArray, List.set_cons_zero, List.set_cons_succ]
            refine wpAnyH_take (i := 15) (oi := ⟨_, _, _, _, _, _⟩) (v := ?_) rfl (by kernel_rfl) (by kernel_rfl) (by kernel_rfl) (fun _ _ _ h => h) (Or.inl ⟨by rfl, ?_⟩) hHC_0 ?_
            rotate_left
            · intro wS hSw; (try dsimp only at hSw); go_simp; try with_reducible rfl
            try simp only [Act.put, List.setIfInBounds_toArray, List.set_cons_zero, List.set_cons_succ]
            refine wpAnyH_ready (rs := [16]) (by kernel_rfl) (by simp) ?_
            refine AllReadyH.cons (o := ⟨_, _, _, _, _, _⟩) rfl (fun Kq hKq => ?_) AllReadyH.nil
            go_simp
            go_at_call 71
            refine (HCO.out _).mono ?_
            rintro e wT ⟨rfl, hb⟩
            (try go_wp2_with fail)
            refine stepY hKq (show Sy w _ [] [⟨.slice a3 (M.length + 1) c3, 86, 3, M.length + 1, L3 M ++ #[.int .i64 (i : Int), .int .i64 (k : Int), .int .i64 x].toList⟩] [] from (hVC_0.out.call hb)) (fun _ hX => ⟨(HY.out _ hX.be).y0, (HY.out _ hX.be).y1, (HP4.out _ hX.be).1, (HP4.out _ hX.be).2.1, (HP4.out _ hX.be).2.2, (HN4.out _ hX.be).1, (HN4.out _ hX.be).2, trivial⟩) ?_
            intro VC_1 hc hHC_1
            have hVC_1 := Lib.hid hc
            clear hc hKq Kq hVC_0 hb hHC_0
            try simp only [Act.put, List.setIfInBounds_toArray, List.set_cons_zero, List.set_cons_succ]
            refine wpAnyH_take (i := 17) (oi := ⟨_, _, _, _, _, _⟩) (v := ?_) rfl (by kernel_rfl) (by kernel_rfl) (by kernel_rfl) (fun _ _ _ h => h) (Or.inl ⟨by rfl, ?_⟩) hHC_1 ?_
            rotate_left
            · intro wS hSw; (try dsimp only at hSw); go_simp; try with_reducible rfl
            try simp only [Act.put, List.setIfInBounds_toArray, List.set_cons_zero, List.set_cons_succ]
            refine wpAnyH_take (i := 18) (oi := ⟨_, _, _, _, _, _⟩) (v := ?_) rfl (by kernel_rfl) (by kernel_rfl) (by kernel_rfl) (fun _ _ _ h => h) (Or.inl ⟨by rfl, ?_⟩) hHC_1 ?_
            rotate_left
            · intro wS hSw; (try dsimp only at hSw); go_simp; try with_reducible rfl
            try simp only [Act.put, List.setIfInBounds_toArray, List.set_cons_zero, List.set_cons_succ]
            refine wpAnyH_ready (rs := [19]) (by kernel_rfl) (by simp) ?_
            refine AllReadyH.cons (o := ⟨_, _, _, _, _, _⟩) rfl (fun Kq hKq => ?_) AllReadyH.nil
            go_simp
            refine stepY hKq (show Sy w _ [] [⟨.slice a3 (M.length + 1) c3, 86, 3, M.length + 1, L3 M ++ #[.int .i64 (i : Int), .int .i64 (k : Int), .int .i64 x].toList⟩] [] from hVC_1.out) (fun _ hX => ⟨(HY.out _ hX.be).y0, (HY.out _ hX.be).y1, (HP4.out _ hX.be).1, (HP4.out _ hX.be).2.1, (HP4.out _ hX.be).2.2, (HN4.out _ hX.be).1, (HN4.out _ hX.be).2, trivial⟩) ?_
            intro VC_2 hc hHC_2
            have hVC_2 := Lib.hid hc
            clear hc hKq Kq hVC_1 hHC_1
            try simp only [Act.put, List.setIfInBounds_toArray, List.set_cons_zero, List.set_cons_succ]
            refine wpAnyH_done (by kernel_rfl) ?_ _
            try simp only [HW.out.1, HW.out.2]
            go_wp2
            go_roundw
            case rel =>
              refine ⟨k + 1, a3, c3, by omega, ?_, ?_, by go_num, ?_⟩
              · rw [HRS.out, ← List.append_assoc, HMR.out.1]; unfold ldOf; rw [HXU.out.1, if_pos HX0.out, List.length_append]; rfl
              · rw [HKS.out, HMR.out.2, HXU.out.1, HXU.out.2, Int.add_assoc]
              · rw [HRS.out, ← List.append_assoc, HMR.out.1]; unfold ldOf; rw [HXU.out.1, if_pos HX0.out, List.length_append, L3_append]; exact hVC_2
            case measure => simp [intOf]; omega
          · have hx1 : x = 0 := by have := HXE.out.1; rw [HXU.out.1] at this; omega
            have HX0 := Lib.hid hx1
            clear hx1
            go_wp2
            go_roundw
            case rel =>
              refine ⟨k + 1, a, c, by omega, ?_, ?_, by go_num, ?_⟩
              · rw [HRS.out, ← List.append_assoc, HMR.out.1]; unfold ldOf; rw [HXU.out.1, HX0.out, if_neg (by decide), List.append_nil]
              · rw [HKS.out, HMR.out.2, HXU.out.1, HX0.out, Int.zero_mul, Int.add_zero]
              · rw [HRS.out, ← List.append_assoc, HMR.out.1]; unfold ldOf; rw [HXU.out.1, HX0.out, if_neg (by decide), List.append_nil]; exact hS
            case measure => simp [intOf]; omega
        · have hkn : k = N.length := by omega
          have HLS := Lib.hid (show loadsOf (i + 1) N.length X = L ++ (List.range N.length).flatMap (ldOf X i) from by rw [loadsOf_succ, HLK.out.1]; rfl)
          have HKS := Lib.hid (show costN (i + 1) N.length (costC P N) X = K + rsum (fun k => X i k * costC P N i k) N.length from by rw [← HLK.out.2]; rfl)
          subst hkn
          go_wp2
          go_roundw
          case rel =>
            refine ⟨i + 1, a, c, by omega, ?_, ?_, by go_num, ?_⟩
            · rw [HLS.out]
            · rw [HKS.out]
            · rw [HLS.out]; exact hS
          case measure => simp [intOf]; omega
    · obtain rfl : i = P.length := by omega
      go_wp2
      go_ret2
      exact ⟨a, c, rfl, hS.out.gives 0 rfl, hS.out.be⟩
end
end Go.Proofs.Yteogibpmpppgmaa

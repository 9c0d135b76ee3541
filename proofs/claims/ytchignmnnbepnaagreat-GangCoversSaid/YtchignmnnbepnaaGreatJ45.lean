/- list: the loads and their cost; Carry -/
/- Carry -/
/- wakes: what the chapter shows -/
import Derived.Test.YtchignmnnbepnaaGreatJ44
import Derived.Test.YtchignmnnbepnaaGreatJ35
import Derived.Test.YtchignmnnbepnaaGreatJ12
import Derived.Test.YtchignmnnbepnaaGreatJ40
import Derived.Test.YtchignmnnbepnaaGreatJ19
import Derived.Test.YtchignmnnbepnaaGreatJ39
import Derived.Test.YtchignmnnbepnaaGreatJ37
namespace Go.Proofs.YtchignmnnbepnaaGreat
open Go.RowKit Go.Shelf
section
variable (w : World)
def RetLoads (w : World) (P : List I3) (N : List I2) (X : Nat → Nat → Int) (e : Ending) (w' : World) : Prop := ∃ (a : Option Addr) (c : Nat), e = .returned (.tuple #[.slice a (loadsOf P.length N.length X).length c, .int .i64 (costN P.length N.length (costC P N) X)]) ∧
  w'.ownsRow w.heap.size 120 3 (.slice a (loadsOf P.length N.length X).length c) (loadsOf P.length N.length X).length (L3 (loadsOf P.length N.length X)) ∧ Below w.heap.size w w'
set_option maxHeartbeats 8000000 in
set_option maxRecDepth 100000 in
theorem list_any (y : Nat) (a0 a1 a2 a3 : Option Addr) (c0 c1 c2 c3 : Nat) (P : List I3) (N : List I2) (G T : List Int) (X : Nat → Nat → Int) (hY : Yard w y a0 a1 a2 a3 c0 c1 c2 c3 P N G T X) (hG : YGood P N)
    (hX : ∀ i k, i < P.length → k < N.length → 0 ≤ X i k ∧ X i k ≤ 1000000) :
    Calls Tryz.prog 50 #[.pointer (some ⟨y, 0, none⟩)] w (RetLoads w P N X) := by
  have HY := Lib.hid (fun V (hV : Below w.heap.size w V) => hY.below hV)
  have HGD := Lib.hid hG
  have HX := Lib.hid hX
  have hP20 := hG.1
  have hN20 := hG.2.1
  have HCB := Lib.hid (show ∀ i k, i < P.length → k < N.length → 0 ≤ X i k * costC P N i k ∧ X i k * costC P N i k ≤ 1200000000000 from fun i k hi hk => by
    have h1 := hX i k hi hk
    have h2 := hcost hG i k hi hk
    unfold capN at h2
    exact ⟨Int.mul_nonneg h1.1 h2.1, Int.mul_le_mul (c := 1000000) h1.2 h2.2 h2.1 (by decide)⟩)
  have y0 := hY.y0
  clear hY hG hX
  go_enter Tryz.func50, Tryz.ntmps50
  go_wp2
  go_loopw [2, 3, 12] (fun lv cv iv wr => ∃ (i : Nat) (a : Option Addr) (c : Nat), i ≤ P.length ∧ lv = .slice a (loadsOf i N.length X).length c ∧ cv = .int .i64 (costN i N.length (costC P N) X) ∧ iv = .int .i64 i ∧
    Hid (Sy w wr [] [⟨.slice a (loadsOf i N.length X).length c, 120, 3, (loadsOf i N.length X).length, L3 (loadsOf i N.length X)⟩] [])) (fun _ _ iv _ => P.length - (intOf iv).toNat)
  case atStart => exact ⟨0, none, 0, Nat.zero_le _, rfl, rfl, rfl, Lib.hid ((Sy.enter w).onil _ 3)⟩
  case round =>
    clear y0
    obtain ⟨i, a, c, hi, rfl, rfl, rfl, hS⟩ := hrel
    by_cases hlt : i < P.length
    · have y1 := (HY.out _ hS.out.be).y1
      have HLL := Lib.hid (loads_len N.length X i)
      have HCR := Lib.hid (show 0 ≤ costN i N.length (costC P N) X ∧ costN i N.length (costC P N) X ≤ i * 24000000000000 from by
        unfold costN
        refine rsum_abs i fun j hj => ?_
        have h := rsum_abs (f := fun k => X j k * costC P N j k) N.length fun k hk => HCB.out j k (by omega) hk
        have h3 : (N.length : Int) * 1200000000000 ≤ 20 * 1200000000000 := Int.mul_le_mul_of_nonneg_right (by omega) (by decide)
        exact ⟨h.1, Int.le_trans h.2 h3⟩)
      obtain ⟨L, hL⟩ : ∃ L, loadsOf i N.length X = L := ⟨_, rfl⟩
      obtain ⟨K, hK⟩ : ∃ K, costN i N.length (costC P N) X = K := ⟨_, rfl⟩
      rw [hL] at HLL hS
      rw [hK] at HCR
      rw [hL, hK]
      have HLK := Lib.hid (And.intro hL hK)
      clear hL hK
      have hK0 := HCR.out
      have hLb : L.length ≤ 400 := by
        have h1 := HLL.out
        have h2 : i * N.length ≤ 20 * 20 := Nat.mul_le_mul (by omega) hN20
        omega
      have hKb : 0 ≤ K ∧ K ≤ 480000000000000 := by omega
      clear hK0
      go_wp2
      go_loopw [2, 3, 20] (fun lv cv kv wr => ∃ (k : Nat) (a : Option Addr) (c : Nat), k ≤ N.length ∧ lv = .slice a (L ++ (List.range k).flatMap (ldOf X i)).length c ∧ cv = .int .i64 (K + rsum (fun k => X i k * costC P N i k) k) ∧ kv = .int .i64 k ∧
        Hid (Sy w wr [] [⟨.slice a (L ++ (List.range k).flatMap (ldOf X i)).length c, 120, 3, (L ++ (List.range k).flatMap (ldOf X i)).length, L3 (L ++ (List.range k).flatMap (ldOf X i))⟩] [])) (fun _ _ kv _ => N.length - (intOf kv).toNat)
      case atStart => exact ⟨0, a, c, Nat.zero_le _, by simp, by simp [rsum], rfl, by simpa using hS⟩
      case round =>
        clear hS y1
        obtain ⟨k, a, c, hk, rfl, rfl, rfl, hS⟩ := hrel
        by_cases hlk : k < N.length
        · have HRL := Lib.hid (row_len X i k)
          have HRS := Lib.hid (row_succ X i k)
          have HKS := Lib.hid (show rsum (fun k => X i k * costC P N i k) (k + 1) = rsum (fun k => X i k * costC P N i k) k + X i k * costC P N i k from rfl)
          have hKR := rsum_abs (f := fun k => X i k * costC P N i k) k fun j hj => HCB.out i j hlt (by omega)
          have hlM : (L ++ (List.range k).flatMap (ldOf X i)).length ≤ 1000 := by rw [List.length_append]; have := HRL.out; omega
          have hC1 := HCB.out i k hlt hlk
          obtain ⟨M, hM⟩ : ∃ M, (L ++ (List.range k).flatMap (ldOf X i)) = M := ⟨_, rfl⟩
          obtain ⟨R, hR⟩ : ∃ R, rsum (fun k => X i k * costC P N i k) k = R := ⟨_, rfl⟩
          rw [hM] at hS hlM ⊢
          rw [hR] at hKR ⊢
          have HMR := Lib.hid (And.intro hM hR)
          clear hM hR
          have hRb : 0 ≤ R ∧ R ≤ 24000000000000 := by
            have h3 : (k : Int) * 1200000000000 ≤ 20 * 1200000000000 := Int.mul_le_mul_of_nonneg_right (by omega) (by decide)
            exact ⟨hKR.1, Int.le_trans hKR.2 h3⟩
          have d1 := (HY.out _ hS.out.be).yx i k hlt hlk
          rw [← Nat.add_assoc] at d1
          have HXE := Lib.hid (HX.out i k hlt hlk)
          obtain ⟨x, hx⟩ : ∃ x, X i k = x := ⟨_, rfl⟩
          obtain ⟨u, hu⟩ : ∃ u, costC P N i k = u := ⟨_, rfl⟩
          have HXU := Lib.hid (And.intro hx hu)
          rw [hx] at d1
          rw [hx, hu] at hC1
          clear hx hu hKR
          have i0 : (0 : Int) ≤ (i : Int) := by omega
          have i1 : (i : Int) < 20 := by omega
          have k0 : (0 : Int) ≤ (k : Int) := by omega
          have k1 : (k : Int) < 20 := by omega
          have i2 : (i : Int) < (P.length : Int) := by omega
          have k2 : (k : Int) < (N.length : Int) := by omega
          by_cases hx0 : 0 < x
          · have HX0 := Lib.hid hx0
            have wmul : IntKind.i64.wrap (x * u) = x * u := by rw [IntKind.wrap_i64]; omega
            have wadd : IntKind.i64.wrap (K + R + x * u) = K + R + x * u := by rw [IntKind.wrap_i64]; omega
            have HW := Lib.hid (And.intro wmul wadd)
            clear wmul wadd
            go_upto_region 10 with (refine wpList_append_sy (o := ⟨some 39, _, _, _, _, _⟩) rfl (hS.out.onew wr.heap.size #[.int .i64 (i : Int), .int .i64 (k : Int), .int .i64 x] 120 3 1 rfl (by omega) rfl) 0 1 rfl rfl _ _ _ rfl und_Load info_Load rfl (by omega) rfl rfl (by intro u hu; simp at hu; rcases hu with rfl | rfl | rfl <;> rfl) (by omega) (by omega) ?_; intro a3 c3 V hV; have hT := Lib.hid (hV.thin (List.Sublist.refl _) (List.Sublist.cons_cons _ (List.nil_sublist _))); clear hV)
            clear hS d1
            have HP3 := Lib.hid (fun W (hW : Below w.heap.size w W) => by
              have h := (HY.out W hW).sp
              obtain ⟨g, o, e⟩ := h.addr (by omega)
              exact (⟨g, o, e, by rw [e] at h; exact h.at3 hlt⟩ : ∃ g o, a0 = some ⟨g, o, none⟩ ∧ W.cell? ⟨g, o + i * 3, none⟩ = some (.int .i64 P[i].1) ∧ W.cell? ⟨g, o + i * 3 + 1, none⟩ = some (.int .i64 P[i].2.1) ∧ W.cell? ⟨g, o + i * 3 + 2, none⟩ = some (.int .i64 P[i].2.2)))
            obtain ⟨g0, o0, hea, -⟩ := HP3.out _ hT.out.be
            have HN3 := Lib.hid (fun W (hW : Below w.heap.size w W) => by
              have h := (HY.out W hW).sn
              obtain ⟨g, o, e⟩ := h.addr (by omega)
              exact (⟨g, o, e, by rw [e] at h; exact h.at2 hlk⟩ : ∃ g o, a1 = some ⟨g, o, none⟩ ∧ W.cell? ⟨g, o + k * 2, none⟩ = some (.int .i64 N[k].1) ∧ W.cell? ⟨g, o + k * 2 + 1, none⟩ = some (.int .i64 N[k].2)))
            obtain ⟨g1, o1, heb, -⟩ := HN3.out _ hT.out.be
            subst hea
            subst heb
            have HPQ := Lib.hid (And.intro (HGD.out.2.2.1 _ (List.getElem_mem hlt)) (HGD.out.2.2.2 _ (List.getElem_mem hlk)))
            have HUU := Lib.hid (show unitI P[i] N[k] = u from by
              have h := HXU.out.2
              unfold costC at h
              rw [List.getD_eq_getElem?_getD, List.getD_eq_getElem?_getD, List.getElem?_eq_getElem hlt, List.getElem?_eq_getElem hlk] at h
              exact h)
            generalize P[i] = p at *
            generalize N[k] = q at *
            obtain ⟨p0, p1, p2⟩ := p
            obtain ⟨q0, q1⟩ := q
            have HP4 := Lib.hid (fun W (hW : Below w.heap.size w W) => by
              obtain ⟨g, o, e, h⟩ := HP3.out W hW
              cases e
              exact h)
            have HN4 := Lib.hid (fun W (hW : Below w.heap.size w W) => by
              obtain ⟨g, o, e, h⟩ := HN3.out W hW
              cases e
              exact h)
            have HCO := Lib.hid (fun W => by
              have h := costs_any W (p0, p1, p2) (q0, q1) (by have := HPQ.out.1.1; dsimp only at this ⊢; omega) (by have := HPQ.out.2.1; dsimp only at this ⊢; omega) HPQ.out.1.2.2
              rw [HUU.out] at h
              exact h)
            clear HP3 HN3
            dsimp only at HP4 HN4 HCO
            refine wp_region_held_drew (S := (fun w' => w'.cell? ⟨y, 0, none⟩ = some (.slice (some ⟨g0, o0, none⟩) P.length c0) ∧ w'.cell? ⟨y, 1, none⟩ = some (.slice (some ⟨g1, o1, none⟩) N.length c1) ∧ w'.cell? ⟨g0, o0 + i * 3, none⟩ = some (.int .i64 p0) ∧ w'.cell? ⟨g0, o0 + i * 3 + 1, none⟩ = some (.int .i64 p1) ∧ w'.cell? ⟨g0, o0 + i * 3 + 2, none⟩ = some (.int .i64 p2) ∧ w'.cell? ⟨g1, o1 + k * 2, none⟩ = some (.int .i64 q0) ∧ w'.cell? ⟨g1, o1 + k * 2 + 1, none⟩ = some (.int .i64 q1) ∧ True)) (by kernel_rfl) ⟨(HY.out _ hT.out.drew.be).y0, (HY.out _ hT.out.drew.be).y1, (HP4.out _ hT.out.drew.be).1, (HP4.out _ hT.out.drew.be).2.1, (HP4.out _ hT.out.drew.be).2.2, (HN4.out _ hT.out.drew.be).1, (HN4.out _ hT.out.drew.be).2, trivial⟩ (fun hH => ?_)
            refine wpAnyH_geny (show Sy w _ [] [⟨.slice a3 (M.length + 1) c3, 120, 3, M.length + 1, L3 M ++ #[.int .i64 (i : Int), .int .i64 (k : Int), .int .i64 x].toList⟩] [] from hT.out.drew) hH ?_
            intro VC_0 hc hHC_0
            have hVC_0 := Lib.hid hc
            clear hc hH hT
            refine wpAnyH_take (i := 0) (oi := ⟨_, _, _, _, _, _⟩) (v := ?_) rfl (by kernel_rfl) (by kernel_rfl) (by kernel_rfl) (fun _ _ _ h => h) (Or.inl ⟨by rfl, ?_⟩) hHC_0 ?_
            rotate_left
            · intro wS hSw; (try dsimp only at hSw); go_simp; try with_reducible rfl
            try simp only [Act.put, List.setIfInBounds_toArray, List.set_cons_zero, List.set_cons_succ]
            refine wpAnyH_take (i := 1) (oi := ⟨_, _, _, _, _, _⟩) (v := ?_) rfl (by kernel_rfl) (by kernel_rfl) (by kernel_rfl) (fun _ _ _ h => h) (Or.inl ⟨by rfl, ?_⟩) hHC_0 ?_
            rotate_left
            · intro wS hSw; (try dsimp only at hSw); go_simp; try with_reducible rfl
            try simp only [Act.put, List.setIfInBounds_toArray, List.set_cons_zero, List.set_cons_succ]
            refine wpAnyH_take (i := 2) (oi := ⟨_, _, _, _, _, _⟩) (v := ?_) rfl (by kernel_rfl) (by kernel_rfl) (by kernel_rfl) (fun _ _ _ h => h) (Or.inl ⟨by rfl, ?_⟩) hHC_0 ?_
            rotate_left
            · intro wS hSw; (try dsimp only at hSw); go_simp; try with_reducible rfl
            try simp only [Act.put, List.setIfInBounds_toArray, List.set_cons_zero, List.set_cons_succ]
            refine wpAnyH_take (i := 3) (oi := ⟨_, _, _, _, _, _⟩) (v := ?_) rfl (by kernel_rfl) (by kernel_rfl) (by kernel_rfl) (fun _ _ _ h => h) (Or.inl ⟨by rfl, ?_⟩) hHC_0 ?_
            rotate_left
            · intro wS hSw; (try dsimp only at hSw); go_simp; try with_reducible rfl
            try simp only [Act.put, List.setIfInBounds_toArray, List.set_cons_zero, List.set_cons_succ]
            refine wpAnyH_take (i := 4) (oi := ⟨_, _, _, _, _, _⟩) (v := ?_) rfl (by kernel_rfl) (by kernel_rfl) (by kernel_rfl) (fun _ _ _ h => h) (Or.inl ⟨by rfl, ?_⟩) hHC_0 ?_
            rotate_left
            · intro wS hSw; (try dsimp only at hSw); go_simp; try with_reducible rfl
            try simp only [Act.put, List.setIfInBounds_toArray, List.set_cons_zero, List.set_cons_succ]
            refine wpAnyH_take (i := 5) (oi := ⟨_, _, _, _, _, _⟩) (v := ?_) rfl (by kernel_rfl) (by kernel_rfl) (by kernel_rfl) (fun _ _ _ h => h) (Or.inl ⟨by rfl, ?_⟩) hHC_0 ?_
            rotate_left
            · intro wS hSw; (try dsimp only at hSw); go_simp; try with_reducible rfl
            try simp only [Act.put, List.setIfInBounds_toArray, List.set_cons_zero, List.set_cons_succ]
            refine wpAnyH_take (i := 6) (oi := ⟨_, _, _, _, _, _⟩) (v := ?_) rfl (by kernel_rfl) (by kernel_rfl) (by kernel_rfl) (fun _ _ _ h => h) (Or.inl ⟨by rfl, ?_⟩) hHC_0 ?_
            rotate_left
            · intro wS hSw; (try dsimp only at hSw); go_simp; try with_reducible rfl
            try simp only [Act.put, List.setIfInBounds_toArray, List.set_cons_zero, List.set_cons_succ]
            refine wpAnyH_take (i := 7) (oi := ⟨_, _, _, _, _, _⟩) (v := ?_) rfl (by kernel_rfl) (by kernel_rfl) (by kernel_rfl) (fun _ _ _ h => h) (Or.inl ⟨by rfl, ?_⟩) hHC_0 ?_
            rotate_left
            · intro wS hSw; (try dsimp only at hSw); go_simp; try with_reducible rfl
            try simp only [Act.put, List.setIfInBounds_toArray, List.set_cons_zero, List.set_cons_succ]
            refine wpAnyH_take (i := 8) (oi := ⟨_, _, _, _, _, _⟩) (v := ?_) rfl (by kernel_rfl) (by kernel_rfl) (by kernel_rfl) (fun _ _ _ h => h) (Or.inl ⟨by rfl, ?_⟩) hHC_0 ?_
            rotate_left
            · intro wS hSw; (try dsimp only at hSw); go_simp; try with_reducible rfl
            try simp only [Act.put, List.setIfInBounds_toArray, List.set_cons_zero, List.set_cons_succ]
            refine wpAnyH_take (i := 9) (oi := ⟨_, _, _, _, _, _⟩) (v := ?_) rfl (by kernel_rfl) (by kernel_rfl) (by kernel_rfl) (fun _ _ _ h => h) (Or.inl ⟨by rfl, ?_⟩) hHC_0 ?_
            rotate_left
            · intro wS hSw; (try dsimp only at hSw); go_simp; try with_reducible rfl
            try simp only [Act.put, List.setIfInBounds_toArray, List.set_cons_zero, List.set_cons_succ]
            refine wpAnyH_take (i := 10) (oi := ⟨_, _, _, _, _, _⟩) (v := ?_) rfl (by kernel_rfl) (by kernel_rfl) (by kernel_rfl) (fun _ _ _ h => h) (Or.inl ⟨by rfl, ?_⟩) hHC_0 ?_
            rotate_left
            · intro wS hSw; (try dsimp only at hSw); go_simp; try with_reducible rfl
            try simp only [Act.put, List.setIfInBounds_toArray, List.set_cons_zero, List.set_cons_succ]
            refine wpAnyH_take (i := 11) (oi := ⟨_, _, _, _, _, _⟩) (v := ?_) rfl (by kernel_rfl) (by kernel_rfl) (by kernel_rfl) (fun _ _ _ h => h) (Or.inl ⟨by rfl, ?_⟩) hHC_0 ?_
            rotate_left
            · intro wS hSw; (try dsimp only at hSw); go_simp; try with_reducible rfl
            try simp only [Act.put, List.setIfInBounds_toArray, List.set_cons_zero, List.set_cons_succ]
            refine wpAnyH_take (i := 12) (oi := ⟨_, _, _, _, _, _⟩) (v := ?_) rfl (by kernel_rfl) (by kernel_rfl) (by kernel_rfl) (fun _ _ _ h => h) (Or.inl ⟨by rfl, ?_⟩) hHC_0 ?_
            rotate_left
            · intro wS hSw; (try dsimp only at hSw); go_simp; try with_reducible rfl
            try simp only [Act.put, List.setIfInBounds_toArray, List.set_cons_zero, List.set_cons_succ]
            refine wpAnyH_take (i := 13) (oi := ⟨_, _, _, _, _, _⟩) (v := ?_) rfl (by kernel_rfl) (by kernel_rfl) (by kernel_rfl) (fun _ _ _ h => h) (Or.inl ⟨by rfl, ?_⟩) hHC_0 ?_
            rotate_left
            · intro wS hSw; (try dsimp only at hSw); go_simp; try with_reducible rfl
            try simp only [Act.put, List.setIfInBounds_toArray, List.set_cons_zero, List.set_cons_succ]
            refine wpAnyH_take (i := 14) (oi := ⟨_, _, _, _, _, _⟩) (v := ?_) rfl (by kernel_rfl) (by kernel_rfl) (by kernel_rfl) (fun _ _ _ h => h) (Or.inl ⟨by rfl, ?_⟩) hHC_0 ?_
            rotate_left
            · intro wS hSw; (try dsimp only at hSw); go_simp; try with_reducible rfl
            try simp only [Act.put, List.setIfInBounds_toArray, List.set_cons_zero, List.set_cons_succ]
            refine wpAnyH_take (i := 15) (oi := ⟨_, _, _, _, _, _⟩) (v := ?_) rfl (by kernel_rfl) (by kernel_rfl) (by kernel_rfl) (fun _ _ _ h => h) (Or.inl ⟨by rfl, ?_⟩) hHC_0 ?_
            rotate_left
            · intro wS hSw; (try dsimp only at hSw); go_simp; try with_reducible rfl
            try simp only [Act.put, List.setIfInBounds_toArray, List.set_cons_zero, List.set_cons_succ]
            refine wpAnyH_ready (rs := [16]) (by kernel_rfl) (by simp) ?_
            refine AllReadyH.cons (o := ⟨_, _, _, _, _, _⟩) rfl (fun Kq hKq => ?_) AllReadyH.nil
            go_simp
            go_at_call 81
            refine (HCO.out _).mono ?_
            rintro e wT ⟨rfl, hb⟩
            (try go_wp2_with fail)
            refine stepY hKq (show Sy w _ [] [⟨.slice a3 (M.length + 1) c3, 120, 3, M.length + 1, L3 M ++ #[.int .i64 (i : Int), .int .i64 (k : Int), .int .i64 x].toList⟩] [] from (hVC_0.out.call hb)) (fun _ hX => ⟨(HY.out _ hX.be).y0, (HY.out _ hX.be).y1, (HP4.out _ hX.be).1, (HP4.out _ hX.be).2.1, (HP4.out _ hX.be).2.2, (HN4.out _ hX.be).1, (HN4.out _ hX.be).2, trivial⟩) ?_
            intro VC_1 hc hHC_1
            have hVC_1 := Lib.hid hc
            clear hc hKq Kq hVC_0 hb hHC_0
            try simp only [Act.put, List.setIfInBounds_toArray, List.set_cons_zero, List.set_cons_succ]
            refine wpAnyH_take (i := 17) (oi := ⟨_, _, _, _, _, _⟩) (v := ?_) rfl (by kernel_rfl) (by kernel_rfl) (by kernel_rfl) (fun _ _ _ h => h) (Or.inl ⟨by rfl, ?_⟩) hHC_1 ?_
            rotate_left
            · intro wS hSw; (try dsimp only at hSw); go_simp; try with_reducible rfl
            try simp only [Act.put, List.setIfInBounds_toArray, List.set_cons_zero, List.set_cons_succ]
            refine wpAnyH_take (i := 18) (oi := ⟨_, _, _, _, _, _⟩) (v := ?_) rfl (by kernel_rfl) (by kernel_rfl) (by kernel_rfl) (fun _ _ _ h => h) (Or.inl ⟨by rfl, ?_⟩) hHC_1 ?_
            rotate_left
            · intro wS hSw; (try dsimp only at hSw); go_simp; try with_reducible rfl
            try simp only [Act.put, List.setIfInBounds_toArray, List.set_cons_zero, List.set_cons_succ]
            refine wpAnyH_ready (rs := [19]) (by kernel_rfl) (by simp) ?_
            refine AllReadyH.cons (o := ⟨_, _, _, _, _, _⟩) rfl (fun Kq hKq => ?_) AllReadyH.nil
            go_simp
            refine stepY hKq (show Sy w _ [] [⟨.slice a3 (M.length + 1) c3, 120, 3, M.length + 1, L3 M ++ #[.int .i64 (i : Int), .int .i64 (k : Int), .int .i64 x].toList⟩] [] from hVC_1.out) (fun _ hX => ⟨(HY.out _ hX.be).y0, (HY.out _ hX.be).y1, (HP4.out _ hX.be).1, (HP4.out _ hX.be).2.1, (HP4.out _ hX.be).2.2, (HN4.out _ hX.be).1, (HN4.out _ hX.be).2, trivial⟩) ?_
            intro VC_2 hc hHC_2
            have hVC_2 := Lib.hid hc
            clear hc hKq Kq hVC_1 hHC_1
            try simp only [Act.put, List.setIfInBounds_toArray, List.set_cons_zero, List.set_cons_succ]
            refine wpAnyH_done (by kernel_rfl) ?_ _
            try simp only [HW.out.1, HW.out.2]
            go_wp2
            go_roundw
            case rel =>
              refine ⟨k + 1, a3, c3, by omega, ?_, ?_, by go_num, ?_⟩
              · rw [HRS.out, ← List.append_assoc, HMR.out.1]; unfold ldOf; rw [HXU.out.1, if_pos HX0.out, List.length_append]; rfl
              · rw [HKS.out, HMR.out.2, HXU.out.1, HXU.out.2, Int.add_assoc]
              · rw [HRS.out, ← List.append_assoc, HMR.out.1]; unfold ldOf; rw [HXU.out.1, if_pos HX0.out, List.length_append, L3_append]; exact hVC_2
            case measure => simp [intOf]; omega
          · have hx1 : x = 0 := by have := HXE.out.1; rw [HXU.out.1] at this; omega
            have HX0 := Lib.hid hx1
            clear hx1
            go_wp2
            go_roundw
            case rel =>
              refine ⟨k + 1, a, c, by omega, ?_, ?_, by go_num, ?_⟩
              · rw [HRS.out, ← List.append_assoc, HMR.out.1]; unfold ldOf; rw [HXU.out.1, HX0.out, if_neg (by decide), List.append_nil]
              · rw [HKS.out, HMR.out.2, HXU.out.1, HX0.out, Int.zero_mul, Int.add_zero]
              · rw [HRS.out, ← List.append_assoc, HMR.out.1]; unfold ldOf; rw [HXU.out.1, HX0.out, if_neg (by decide), List.append_nil]; exact hS
            case measure => simp [intOf]; omega
        · have hkn : k = N.length := by omega
          have HLS := Lib.hid (show loadsOf (i + 1) N.length X = L ++ (List.range N.length).flatMap (ldOf X i) from by rw [loadsOf_succ, HLK.out.1]; rfl)
          have HKS := Lib.hid (show costN (i + 1) N.length (costC P N) X = K + rsum (fun k => X i k * costC P N i k) N.length from by rw [← HLK.out.2]; rfl)
          subst hkn
          go_wp2
          go_roundw
          case rel =>
            refine ⟨i + 1, a, c, by omega, ?_, ?_, by go_num, ?_⟩
            · rw [HLS.out]
            · rw [HKS.out]
            · rw [HLS.out]; exact hS
          case measure => simp [intOf]; omega
    · obtain rfl : i = P.length := by omega
      go_wp2
      go_ret2
      exact ⟨a, c, rfl, hS.out.gives 0 rfl, hS.out.be⟩
end
end Go.Proofs.YtchignmnnbepnaaGreat
namespace Go.Proofs.YtchignmnnbepnaaGreat
open Go.RowKit Go.Shelf

theorem sum_rsum {α : Type} (f : α → Int) (d : α) (l : List α) : ∀ k, k ≤ l.length → sumBy f (l.take k) = rsum (fun i => f (l.getD i d)) k
  | 0, _ => by simp [sumBy, rsum, lsum_nil]
  | k + 1, h => by
    rw [sumBy_take f l k (by omega), sum_rsum f d l k (by omega)]
    show _ = rsum _ k + f (l.getD k d)
    rw [List.getD_eq_getElem?_getD, List.getElem?_eq_getElem (by omega)]
    rfl
theorem sum_rsum_all {α : Type} (f : α → Int) (d : α) (l : List α) : sumBy f l = rsum (fun i => f (l.getD i d)) l.length := by
  have := sum_rsum f d l l.length (Nat.le_refl _)
  rwa [List.take_length] at this
theorem enough_rsum {P : List I3} {N : List I2} (h : enoughB P N = true) : rsum (hB N) N.length ≤ rsum (hA P) P.length := by
  have := of_decide_eq_true h
  rw [sum_rsum_all (fun x : I2 => x.2) (0, 0), sum_rsum_all (fun x : I3 => x.2.1) (0, 0, 0)] at this
  exact this
theorem yardErr_zero {P : List I3} {N : List I2} (h : yardErr P N = 0) : YGood P N ∧ enoughB P N = true := by
  unfold yardErr at h
  cases hy : yardBad P N
  · rw [hy] at h
    cases he : enoughB P N
    · rw [he] at h; cases h
    · exact ⟨yard_good hy, rfl⟩
  · rw [hy] at h; cases h
def RetCarry (w : World) (P : List I3) (N : List I2) (e : Ending) (w' : World) : Prop := ∃ (X G T : List Int) (a : Option Addr) (c : Nat),
  YInv P.length N.length (hA P) (hB N) (costC P N) (XF X) (fun i => G.getD i 0) (fun k => T.getD k 0) ∧ (∀ k, k < N.length → T.getD k 0 = hB N k) ∧
  e = .returned (.tuple #[.slice a (loadsOf P.length N.length (XF X)).length c, .int .i64 (costN P.length N.length (costC P N) (XF X)), .int .i64 0]) ∧
  w'.ownsRow w.heap.size 120 3 (.slice a (loadsOf P.length N.length (XF X)).length c) (loadsOf P.length N.length (XF X)).length (L3 (loadsOf P.length N.length (XF X))) ∧ Below w.heap.size w w'
theorem yinv_small {P : List I3} {N : List I2} {X : Nat → Nat → Int} {G T : Nat → Int} (hG : YGood P N) (Y : YInv P.length N.length (hA P) (hB N) (costC P N) X G T) : ∀ i k, i < P.length → k < N.length → 0 ≤ X i k ∧ X i k ≤ 1000000 := fun i k hi hk => by
  have h1 := Y.x0 i k hi hk
  have h2 := Y.xle hi hk
  have h3 := (hG.2.2.1 _ (List.getElem_mem hi)).2.1
  rw [hA_at hi] at h2
  omega
section
variable (w : World)
set_option maxHeartbeats 1000000 in
theorem carry_ok (a a' : Option Addr) (n c n' c' : Nat) (P : List I3) (N : List I2) (hs : Sx 3 w a n c (L3 P)) (hs' : Sx 2 w a' n' c' (L2 N)) (he : yardErr P N = 0) :
    Calls Tryz.prog 23 #[.slice a n c, .slice a' n' c'] w (RetCarry w P N) := by
  obtain ⟨hG, hE⟩ := yardErr_zero he
  obtain rfl := hs.n3
  obtain rfl := hs'.n2
  have HE := Lib.hid (yardError_any w a a' _ c _ c' P N hs hs')
  rw [he] at HE
  have HL := Lib.hid (fun V (hV : Below w.heap.size w V) => least_any V a a' c c' P N (hs.below hV) (hs'.below hV) hG (enough_rsum hE))
  have HG := Lib.hid hG
  clear hs hs' he hG hE
  go_enter Tryz.func23, Tryz.ntmps23
  go_wp2_with fail
  refine HE.out.mono ?_
  rintro e w1 ⟨rfl, hb⟩
  have hC := Lib.hid ((Sy.enter w).call hb)
  clear hb HE
  go_wp2_with fail
  refine (HL.out _ hC.out.be).mono ?_
  rintro e w2 ⟨y, g2, g3, X, G, T, rfl, hY, hI, hT, hb⟩
  have hD := Lib.hid (hC.out.call hb)
  have HI := Lib.hid (And.intro hI hT)
  have HLS := Lib.hid (list_any w2 y a a' (some ⟨g2, 0, none⟩) (some ⟨g3, 0, none⟩) c c' P.length N.length P N G T (XF X) hY HG.out (yinv_small HG.out hI))
  clear hb hY hI hT hC HL
  go_wp2_with fail
  refine HLS.out.mono ?_
  rintro e w3 ⟨a3, c3, rfl, hr, hb⟩
  have hF := Lib.hid (hD.out.adopt hb hr)
  clear hb hr hD HLS
  go_wp2
  go_ret3
  exact ⟨X, G, T, a3, c3, HI.out.1, HI.out.2, rfl, hF.out.gives 0 rfl, hF.out.be⟩
end
end Go.Proofs.YtchignmnnbepnaaGreat
namespace Go.Proofs.YtchignmnnbepnaaGreat
open Go.RowKit

def teamL : List WL := [(⟨#[97, 110, 110]⟩, 2000, 600), (⟨#[98, 111, 98]⟩, 1500, 500)]
def framesL : List Int := [3000, 6000, 8000]
theorem days_shown : daysOf framesL 10000 (pacesOf teamL) = 3 := by
  have hR : RightF framesL 10000 := ⟨by decide, by decide, by decide⟩
  have hP : RightP (pacesOf teamL) := ⟨by decide, by decide⟩
  refine (daysOf_eq hR hP (d := 3) (by decide) (fun k h1 h2 => ?_)).symm
  have : k = 1 ∨ k = 2 := by omega
  rcases this with rfl | rfl <;> decide
theorem stints_shown : stintsOf (endsOf framesL 10000) (pacesOf teamL) ((3 : Nat) : Int) = [(0, 0, 6000), (1, 6000, 10000)] := by decide
theorem right_shown : rightB 10000 framesL teamL = true := by kernel_rfl
theorem share_shown {order : List Nat} (h : Ordered 100 [1, 1, 1] order) : shared 100 [1, 1, 1] order = [34, 33, 33] := by
  rw [← shared_pennies (by decide) h]
  decide
def pilesL : List I3 := [(0, 5, 0), (10, 5, 0)]
def needsL : List I2 := [(4, 4), (9, 3)]
theorem carry_shown {X G T : List Int} (Y : YInv pilesL.length needsL.length (hA pilesL) (hB needsL) (costC pilesL needsL) (XF X) (fun i => G.getD i 0) (fun k => T.getD k 0)) (hT : ∀ k, k < needsL.length → T.getD k 0 = hB needsL k) :
    loadsOf pilesL.length needsL.length (XF X) = [(0, 0, 4), (1, 1, 3)] ∧ costN pilesL.length needsL.length (costC pilesL needsL) (XF X) = 19 := by
  obtain ⟨p0, p1, hf, h0, h1, h2⟩ := Y.pot
  have c00 : costC pilesL needsL 0 0 = 4 := by decide
  have c01 : costC pilesL needsL 0 1 = 9 := by decide
  have c10 : costC pilesL needsL 1 0 = 6 := by decide
  have c11 : costC pilesL needsL 1 1 = 1 := by decide
  have a0 : hA pilesL 0 = 5 := rfl
  have a1 : hA pilesL 1 = 5 := rfl
  have b0 : hB needsL 0 = 4 := rfl
  have b1 : hB needsL 1 = 3 := rfl
  have r0 : G.getD 0 0 = 0 + XF X 0 0 + XF X 0 1 := Y.row 0 (by decide)
  have r1 : G.getD 1 0 = 0 + XF X 1 0 + XF X 1 1 := Y.row 1 (by decide)
  have t0 : T.getD 0 0 = 0 + XF X 0 0 + XF X 1 0 := Y.col 0 (by decide)
  have t1 : T.getD 1 0 = 0 + XF X 0 1 + XF X 1 1 := Y.col 1 (by decide)
  have x00 := Y.x0 0 0 (by decide) (by decide)
  have x01 := Y.x0 0 1 (by decide) (by decide)
  have x10 := Y.x0 1 0 (by decide) (by decide)
  have x11 := Y.x0 1 1 (by decide) (by decide)
  have T0 := hT 0 (by decide)
  have T1 := hT 1 (by decide)
  have f00 := hf.fwd 0 0 (by decide) (by decide)
  have f01 := hf.fwd 0 1 (by decide) (by decide)
  have f10 := hf.fwd 1 0 (by decide) (by decide)
  have f11 := hf.fwd 1 1 (by decide) (by decide)
  have g00 := hf.bwd 0 0 (by decide) (by decide)
  have g01 := hf.bwd 0 1 (by decide) (by decide)
  have g10 := hf.bwd 1 0 (by decide) (by decide)
  have g11 := hf.bwd 1 1 (by decide) (by decide)
  have q0 := h0 0 (by decide)
  have q1 := h0 1 (by decide)
  have s0 : G.getD 0 0 < hA pilesL 0 → p0 0 = 0 := h2 0 (by decide)
  have s1 : G.getD 1 0 < hA pilesL 1 → p0 1 = 0 := h2 1 (by decide)
  rw [c00] at f00 g00
  rw [c01] at f01 g01
  rw [c10] at f10 g10
  rw [c11] at f11 g11
  rw [a0] at s0
  rw [a1] at s1
  rw [b0] at T0
  rw [b1] at T1
  have ga0 : G.getD 0 0 ≤ hA pilesL 0 := Y.ga 0 (by decide)
  have ga1 : G.getD 1 0 ≤ hA pilesL 1 := Y.ga 1 (by decide)
  rw [a0] at ga0
  rw [a1] at ga1
  clear hf h0 h1 h2 Y hT
  generalize G.getD 0 0 = G0 at *
  generalize G.getD 1 0 = G1 at *
  generalize T.getD 0 0 = T0' at *
  generalize T.getD 1 0 = T1' at *
  have z10 : XF X 1 0 = 0 := by
    apply Classical.byContradiction
    intro h
    have e1 := g10 (by omega)
    have e2 : ¬ G0 < 5 := fun h3 => by have := s0 h3; omega
    have e3 := g01 (by omega)
    omega
  have z01 : XF X 0 1 = 0 := by
    apply Classical.byContradiction
    intro h
    have e1 := g01 (by omega)
    have e2 : ¬ G1 < 5 := fun h3 => by have := s1 h3; omega
    omega
  have z00 : XF X 0 0 = 4 := by omega
  have z11 : XF X 1 1 = 3 := by omega
  constructor
  · have e : ∀ i k, ldOf (XF X) i k = if 0 < XF X i k then [((i : Int), (k : Int), XF X i k)] else [] := fun _ _ => rfl
    show (ldOf (XF X) 0 0 ++ (ldOf (XF X) 0 1 ++ [])) ++ ((ldOf (XF X) 1 0 ++ (ldOf (XF X) 1 1 ++ [])) ++ []) = _
    rw [e, e, e, e, z00, z01, z10, z11]
    rfl
  · show 0 + (0 + XF X 0 0 * costC pilesL needsL 0 0 + XF X 0 1 * costC pilesL needsL 0 1) + (0 + XF X 1 0 * costC pilesL needsL 1 0 + XF X 1 1 * costC pilesL needsL 1 1) = 19
    rw [z00, z01, z10, z11, c00, c01, c10, c11]
    rfl
def usesL : List I2 := [(0, 3), (1, 4), (3, 5)]
theorem allot_shown {order : List Nat} (h : InOrder usesL order) : allotRun usesL order = ([0, 1, 0], 2, 1) := by
  have hl : order.length = 3 := by rw [h.1.length_eq]; rfl
  match order, hl, h with
  | [a, b, c], _, h =>
    have ha : a < 3 := by have := (h.1.mem_iff (a := a)).1 (by simp); simpa [usesL] using this
    have hb : b < 3 := by have := (h.1.mem_iff (a := b)).1 (by simp); simpa [usesL] using this
    have hc : c < 3 := by have := (h.1.mem_iff (a := c)).1 (by simp); simpa [usesL] using this
    have h1 := List.pairwise_cons.1 h.2
    have h2 := List.pairwise_cons.1 h1.2
    have e1 := h1.1 b (by simp)
    have e2 := h2.1 c (by simp)
    have h3 : a = 0 ∧ b = 1 ∧ c = 2 := by
      have ha' : a = 0 ∨ a = 1 ∨ a = 2 := by omega
      have hb' : b = 0 ∨ b = 1 ∨ b = 2 := by omega
      have hc' : c = 0 ∨ c = 1 ∨ c = 2 := by omega
      rcases ha' with rfl | rfl | rfl <;> rcases hb' with rfl | rfl | rfl <;> first | exact absurd e1 (by decide) | (rcases hc' with rfl | rfl | rfl <;> first | exact absurd e2 (by decide) | exact ⟨rfl, rfl, rfl⟩)
    obtain ⟨rfl, rfl, rfl⟩ := h3
    decide
section
variable (w : World)
set_option maxRecDepth 100000 in
set_option maxHeartbeats 1000000 in
theorem team_any : Calls Tryz.prog 21 #[] w (RetRow w 57 3 2 (LW teamL)) := by
  have hC := Lib.hid ((Sy.enter w).onew w.heap.size #[.string ⟨#[97, 110, 110]⟩, .int .i64 2000, .int .i64 600, .string ⟨#[98, 111, 98]⟩, .int .i64 1500, .int .i64 500] 57 3 2 rfl (by omega) rfl)
  go_enter Tryz.func21, Tryz.ntmps21
  go_wp2
  go_ret
  exact ⟨_, _, rfl, hC.out.gives 0 rfl, hC.out.be⟩
theorem team_names : ∀ x ∈ teamL, x.1.size ≤ maxLen := by decide
theorem trips_shown : sumBy (tripsOf 2) [((0 : Int), (0 : Int), (4 : Int)), (1, 1, 3)] = 4 := by decide
theorem days_ok2 (a a' : Option Addr) (c c' : Nat) (hs : Sx 1 w a 3 c (L1 framesL)) (hs' : Sx 3 w a' 2 c' (LW teamL)) : Calls Tryz.prog 20 #[.int .i64 10000, .slice a 3 c, .slice a' 2 c'] w fun e w' => ∃ a c, e = .returned (.tuple #[.int .i64 3, .slice a 2 c, .int .i64 0]) ∧ w'.ownsRow w.heap.size 59 3 (.slice a 2 c) 2 (L3 [(0, 0, 6000), (1, 6000, 10000)]) ∧ Below w.heap.size w w' := by
  have h := days_ok w a a' 3 c 2 c' 10000 framesL teamL hs hs' team_names right_shown
  unfold RetDays at h
  rw [days_shown, stints_shown] at h
  exact h
theorem share_ok2 (a : Option Addr) (c : Nat) (hs : Sx 1 w a 3 c (L1 [1, 1, 1])) : Calls Tryz.prog 22 #[.int .i64 100, .slice a 3 c] w fun e w' => ∃ a c, e = .returned (.tuple #[.slice a 3 c, .int .i64 0]) ∧ w'.ownsRow w.heap.size 3 1 (.slice a 3 c) 3 (L1 [34, 33, 33]) ∧ Below w.heap.size w w' := by
  refine (share_ok w a 3 c 100 [1, 1, 1] hs (by decide) (by decide)).mono ?_
  rintro e w' ⟨order, a', c', ho, rfl, hr, hb⟩
  rw [share_shown ho] at hr
  exact ⟨a', c', rfl, hr, hb⟩
theorem carry_ok2 (a a' : Option Addr) (c c' : Nat) (hs : Sx 3 w a 2 c (L3 pilesL)) (hs' : Sx 2 w a' 2 c' (L2 needsL)) : Calls Tryz.prog 23 #[.slice a 2 c, .slice a' 2 c'] w fun e w' => ∃ a c, e = .returned (.tuple #[.slice a 2 c, .int .i64 19, .int .i64 0]) ∧ w'.ownsRow w.heap.size 120 3 (.slice a 2 c) 2 (L3 [(0, 0, 4), (1, 1, 3)]) ∧ Below w.heap.size w w' := by
  refine (carry_ok w a a' 2 c 2 c' pilesL needsL hs hs' (by decide)).mono ?_
  rintro e w' ⟨X, G, T, a4, c4, hY, hT, rfl, hr, hb⟩
  obtain ⟨e1, e2⟩ := carry_shown hY hT
  rw [e1] at hr
  rw [e1, e2]
  exact ⟨a4, c4, rfl, hr, hb⟩
theorem allot_ok2 (a : Option Addr) (c : Nat) (hs : Sx 2 w a 3 c (L2 usesL)) : Calls Tryz.prog 25 #[.slice a 3 c] w fun e w' => ∃ a c, e = .returned (.tuple #[.slice a 3 c, .int .i64 2, .int .i64 1, .int .i64 0]) ∧ w'.ownsRow w.heap.size 3 1 (.slice a 3 c) 3 (L1 [0, 1, 0]) ∧ Below w.heap.size w w' := by
  refine (allot_ok w a 3 c usesL hs (by decide) (by decide) (sorts_small (by decide) (by decide))).mono ?_
  rintro e w' ⟨order, a', c', ho, rfl, hr, hb⟩
  rw [allot_shown ho] at hr
  rw [allot_shown ho]
  exact ⟨a', c', rfl, hr, hb⟩
set_option maxRecDepth 100000 in
set_option maxHeartbeats 4000000 in
theorem wakes_any : Calls Tryz.prog 6 #[] w (Gives (.bool true) w) := by
  have hA := Lib.hid ((Sy.enter w).onew w.heap.size #[.int .i64 3000, .int .i64 6000, .int .i64 8000] 3 1 3 rfl (by omega) rfl)
  go_enter Tryz.func6, Tryz.ntmps6
  go_wp2_with fail
  refine (team_any _).mono ?_
  rintro e W1 ⟨a1, c1, rfl, hr, hb⟩
  have hB := Lib.hid (hA.out.adopt hb hr)
  clear hr hb hA
  go_wp2_with fail
  refine (days_ok2 W1 _ _ _ _ (hB.out.osx 0 rfl) (hB.out.osx 1 rfl)).mono ?_
  rintro e W2 ⟨aS, cS, rfl, hr, hb⟩
  have hC : Hid (Sy w W2 [] [⟨.slice aS 2 cS, 59, 3, 2, L3 [(0, 0, 6000), (1, 6000, 10000)]⟩] []) := Lib.hid (((hB.out.thin (os' := []) (List.nil_sublist _) (List.nil_sublist _))).adopt hb hr)
  clear hr hb hB
  have hD := Lib.hid (hC.out.onew W2.heap.size #[.int .i64 1, .int .i64 1, .int .i64 1] 3 1 3 rfl (by omega) rfl)
  go_wp2_with fail
  refine (share_ok2 _ _ _ (hD.out.osx 1 rfl)).mono ?_
  rintro e W3 ⟨aP, cP, rfl, hr, hb⟩
  have hE : Hid (Sy w W3 [] [⟨.slice aS 2 cS, 59, 3, 2, L3 [(0, 0, 6000), (1, 6000, 10000)]⟩, ⟨.slice aP 3 cP, 3, 1, 3, L1 [34, 33, 33]⟩] []) := Lib.hid (((hD.out.thin (os' := [⟨.slice aS 2 cS, 59, 3, 2, L3 [(0, 0, 6000), (1, 6000, 10000)]⟩]) (List.nil_sublist _) (List.Sublist.cons_cons _ (List.nil_sublist _)))).adopt hb hr)
  clear hr hb hD hC
  have hF := Lib.hid ((hE.out.onew W3.heap.size #[.int .i64 0, .int .i64 5, .int .i64 0, .int .i64 10, .int .i64 5, .int .i64 0] 73 3 2 rfl (by omega) rfl).onew (W3.heap.size + 1) #[.int .i64 4, .int .i64 4, .int .i64 9, .int .i64 3] 76 2 2 (by simp) (by omega) rfl)
  go_wp2_with fail
  refine (carry_ok2 _ _ _ _ _ (hF.out.osx 2 rfl) (hF.out.osx 3 rfl)).mono ?_
  rintro e W4 ⟨aL, cL, rfl, hr, hb⟩
  have hG : Hid (Sy w W4 [] [⟨.slice aS 2 cS, 59, 3, 2, L3 [(0, 0, 6000), (1, 6000, 10000)]⟩, ⟨.slice aP 3 cP, 3, 1, 3, L1 [34, 33, 33]⟩, ⟨.slice aL 2 cL, 120, 3, 2, L3 [(0, 0, 4), (1, 1, 3)]⟩] []) := Lib.hid (((hF.out.thin (os' := [⟨.slice aS 2 cS, 59, 3, 2, L3 [(0, 0, 6000), (1, 6000, 10000)]⟩, ⟨.slice aP 3 cP, 3, 1, 3, L1 [34, 33, 33]⟩]) (List.nil_sublist _) (List.Sublist.cons_cons _ (List.Sublist.cons_cons _ (List.nil_sublist _))))).adopt hb hr)
  clear hr hb hF hE
  go_wp2_with fail
  refine (trips_ok W4 aL 2 cL _ 2 (hG.out.osx 2 rfl) (by omega) (by omega) (by omega) (by decide)).mono ?_
  rw [trips_shown]
  rintro e W5 ⟨rfl, hb⟩
  have hH := Lib.hid (hG.out.call hb)
  clear hb hG
  have hI := Lib.hid (hH.out.onew W5.heap.size #[.int .i64 0, .int .i64 3, .int .i64 1, .int .i64 4, .int .i64 3, .int .i64 5] 83 2 3 rfl (by omega) rfl)
  go_wp2_with fail
  refine (allot_ok2 _ _ _ (hI.out.osx 3 rfl)).mono ?_
  rintro e W6 ⟨aN, cN, rfl, hr, hb⟩
  have hJ : Hid (Sy w W6 [] [⟨.slice aS 2 cS, 59, 3, 2, L3 [(0, 0, 6000), (1, 6000, 10000)]⟩, ⟨.slice aP 3 cP, 3, 1, 3, L1 [34, 33, 33]⟩, ⟨.slice aN 3 cN, 3, 1, 3, L1 [0, 1, 0]⟩] []) := Lib.hid (((hI.out.thin (os' := [⟨.slice aS 2 cS, 59, 3, 2, L3 [(0, 0, 6000), (1, 6000, 10000)]⟩, ⟨.slice aP 3 cP, 3, 1, 3, L1 [34, 33, 33]⟩]) (List.nil_sublist _) (List.Sublist.cons_cons _ (List.Sublist.cons_cons _ (List.nil_sublist _))))).adopt hb hr)
  clear hr hb hI hH
  obtain ⟨gS, rfl, _⟩ := hJ.out.oaddr 0 rfl (by omega)
  have x0 := hJ.out.rcell 0 rfl (k := 0) (u := .int .i64 0) rfl
  have x1 := hJ.out.rcell 0 rfl (k := 1) (u := .int .i64 0) rfl
  have x2 := hJ.out.rcell 0 rfl (k := 2) (u := .int .i64 6000) rfl
  go_upto_region 6 with fail
  refine wp_region_lit ?_
  dsimp only [List.append, List.toList_toArray]
  have hK := Lib.hid (hJ.out.onew W6.heap.size #[.int .i64 34, .int .i64 33, .int .i64 33] 3 1 3 rfl (by omega) rfl)
  go_wp2_with fail
  clear x0 x1 x2
  refine (ints_any _ _ _ _ _ _ [34, 33, 33] [34, 33, 33] _ (hK.out.osx 1 rfl) (hK.out.osx 3 rfl)).mono ?_
  rintro e W7 ⟨rfl, hb⟩
  have hM : Hid (Sy w W7 [] [⟨.slice aN 3 cN, 3, 1, 3, L1 [0, 1, 0]⟩] []) := Lib.hid ((hK.out.call hb).thin (List.nil_sublist _) (List.Sublist.cons _ (List.Sublist.cons _ (List.Sublist.cons_cons _ (List.nil_sublist _)))))
  have hN := Lib.hid (hM.out.onew W7.heap.size #[.int .i64 0, .int .i64 1, .int .i64 0] 3 1 3 rfl (by omega) rfl)
  clear hb hK hJ
  rw [show decide (([34, 33, 33] : List Int) = [34, 33, 33]) = true from rfl]
  go_wp2_with fail
  refine (ints_any _ _ _ _ _ _ [0, 1, 0] [0, 1, 0] _ (hN.out.osx 0 rfl) (hN.out.osx 1 rfl)).mono ?_
  rintro e W8 ⟨rfl, hb⟩
  have hO := Lib.hid (hN.out.call hb)
  clear hb hN hM
  rw [show decide (([0, 1, 0] : List Int) = [0, 1, 0]) = true from rfl]
  go_wp2
  go_ret
  exact ⟨rfl, hO.out.be⟩
end
end Go.Proofs.YtchignmnnbepnaaGreat

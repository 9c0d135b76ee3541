/- the reference's names, gangs and frames -/
import Derived.Test.YteogibpmpppgmaaGreatH12
import Derived.Test.YteogibpmpppgmaaGreatG12
import Derived.Test.YteogibpmpppgmaaGreatH4
namespace Go.Proofs.YteogibpmpppgmaaGreat
open Go.RowKit

theorem okB_iff {b : Nat} : okB b = true ↔ (97 ≤ (b : Int) ∧ (b : Int) ≤ 122) ∨ (48 ≤ (b : Int) ∧ (b : Int) ≤ 57) := by
  unfold okB
  simp
  omega
theorem named_no {s : ByteArray} {k : Nat} (hk : k < s.size) (h : ¬ ((97 ≤ (s[k].toNat : Int) ∧ (s[k].toNat : Int) ≤ 122) ∨ (48 ≤ (s[k].toNat : Int) ∧ (s[k].toNat : Int) ≤ 57))) : namedB s = false := by
  cases hn : namedB s
  · rfl
  · exact absurd (okB_iff.1 ((named_iff.1 hn).2.2 k hk)) h
theorem named_end {s : ByteArray} (h : ∀ j (hj : j < s.size), okB s[j].toNat = true) : namedB s = (decide (1 ≤ s.size) && decide (s.size ≤ 16)) := by
  rw [Bool.eq_iff_iff, named_iff, Bool.and_eq_true, decide_eq_true_eq, decide_eq_true_eq]
  exact ⟨fun x => ⟨x.1, x.2.1⟩, fun x => ⟨x.1, x.2, h⟩⟩
set_option maxHeartbeats 1000000 in
set_option maxRecDepth 100000 in
theorem refNamed_any (s : ByteArray) (w : World) (hs : s.size ≤ maxLen) :
    Calls Tryz.prog 62 #[.string s] w fun e w' => e = .returned (.bool (namedB s)) ∧ w' = w := by
  unfold maxLen at hs
  go_enter Tryz.func62, Tryz.ntmps62
  go_wp2
  go_loop [3] (fun i => ∃ k : Nat, k ≤ s.size ∧ i = .int .i64 k ∧ Hid (∀ j (hj : j < s.size), j < k → okB s[j].toNat = true)) (fun i => s.size - (intOf i).toNat)
  case atStart => exact ⟨0, Nat.zero_le _, rfl, Lib.hid (fun j _ hj => absurd hj (Nat.not_lt_zero j))⟩
  case round =>
    obtain ⟨k, hk, rfl, HJ⟩ := hrel
    by_cases hlt : k < s.size
    · have HN := Lib.hid (named_no (s := s) hlt)
      have HY := Lib.hid (show ((97 ≤ (s[k].toNat : Int) ∧ (s[k].toNat : Int) ≤ 122) ∨ (48 ≤ (s[k].toNat : Int) ∧ (s[k].toNat : Int) ≤ 57)) → okB s[k].toNat = true from fun h => okB_iff.2 h)
      have HR := Lib.hid (show ∀ j (hj : j < s.size), j < k + 1 → okB s[k].toNat = true → okB s[j].toNat = true from fun j hj h1 h2 => by
        rcases Nat.lt_or_ge j k with h | h
        · exact HJ.out j hj h
        · obtain rfl : j = k := by omega
          exact h2)
      clear HJ
      by_cases h1 : (s[k].toNat : Int) < 97
      · by_cases h3 : (s[k].toNat : Int) < 48
        · have HG := Lib.hid (HN.out (by omega))
          go_wp2
          go_ret
          exact ⟨ret_bool HG.out.symm, rfl⟩
        · by_cases h4 : 57 < (s[k].toNat : Int)
          · have HG := Lib.hid (HN.out (by omega))
            go_wp2
            go_ret
            exact ⟨ret_bool HG.out.symm, rfl⟩
          · have HG := Lib.hid (HY.out (by omega))
            go_wp2
            go_round
            case rel => exact ⟨k + 1, by omega, by go_num, Lib.hid (fun j hj h => HR.out j hj h HG.out)⟩
            case measure => simp [intOf]; omega
      · have h3 : ¬ (s[k].toNat : Int) < 48 := by omega
        have h4 : 57 < (s[k].toNat : Int) := by omega
        by_cases h2 : 122 < (s[k].toNat : Int)
        · have HG := Lib.hid (HN.out (by omega))
          go_wp2
          go_ret
          exact ⟨ret_bool HG.out.symm, rfl⟩
        · have HG := Lib.hid (HY.out (by omega))
          go_wp2
          go_round
          case rel => exact ⟨k + 1, by omega, by go_num, Lib.hid (fun j hj h => HR.out j hj h HG.out)⟩
          case measure => simp [intOf]; omega
    · have HG := Lib.hid (named_end (s := s) fun j hj => HJ.out j hj (by omega))
      clear HJ
      by_cases h1 : 1 ≤ s.size
      · by_cases h2 : s.size ≤ 16
        · go_wp2
          go_ret
          exact ⟨ret_bool (by rw [HG.out, decide_eq_true h1, decide_eq_true h2]; simp; omega), rfl⟩
        · go_wp2
          go_ret
          exact ⟨ret_bool (by rw [HG.out, decide_eq_true h1, decide_eq_false h2]; simp; omega), rfl⟩
      · go_wp2
        go_ret
        exact ⟨ret_bool (by rw [HG.out, decide_eq_false h1]; rfl), rfl⟩
section
variable (w : World)
theorem gang_no {l : List WL} {k : Nat} (hk : k < l.length) (h : badW (l.take k) l[k] = true) : gangB l = false := by
  unfold gangB
  have : ((List.range l.length).all fun i => !badW (l.take i) (l.getD i (⟨#[]⟩, 0, 0))) = false := by
    rw [List.all_eq_false]
    exact ⟨k, List.mem_range.2 hk, by rw [List.getD_eq_getElem?_getD, List.getElem?_eq_getElem hk]; simpa using h⟩
  rw [this, Bool.and_false]
theorem gang_end {l : List WL} (h : ∀ i (hi : i < l.length), badW (l.take i) l[i] = false) : gangB l = inB l.length 1 12 := by
  unfold gangB
  have : ((List.range l.length).all fun i => !badW (l.take i) (l.getD i (⟨#[]⟩, 0, 0))) = true := by
    rw [List.all_eq_true]
    intro i hi
    have hi := List.mem_range.1 hi
    rw [List.getD_eq_getElem?_getD, List.getElem?_eq_getElem hi]
    simpa using h i hi
  rw [this, Bool.and_true]
set_option maxHeartbeats 4000000 in
set_option maxRecDepth 100000 in
theorem refGang_any (a : Option Addr) (n c : Nat) (l : List WL) (hs : Sx 3 w a n c (LW l)) (hn : ∀ x ∈ l, x.1.size ≤ maxLen) : Calls Tryz.prog 15 #[.slice a n c] w (Gives (.bool (gangB l)) w) := by
  have hlen := hs.nW
  have hm : l.length ≤ 9223372036854775807 := by have := hs.cap; unfold maxLen at this; omega
  have HS := Lib.hid hs
  have HZ := Lib.hid hn
  obtain rfl : l.length = n := hlen.symm
  clear hs hlen hn
  go_enter Tryz.func15, Tryz.ntmps15
  go_wp2
  go_loopw [3] (fun iv wr => ∃ k : Nat, k ≤ l.length ∧ iv = .int .i64 k ∧ Hid (∀ i (h : i < l.length), i < k → badW (l.take i) l[i] = false) ∧ Hid (Sy w wr [] [] [])) (fun iv _ => l.length - (intOf iv).toNat)
  case atStart => exact ⟨0, Nat.zero_le _, rfl, Lib.hid (fun i _ h => absurd h (Nat.not_lt_zero i)), Lib.hid (Sy.enter w)⟩
  case round =>
    obtain ⟨k, hk, rfl, hI, hC⟩ := hrel
    by_cases hlt : k < l.length
    · obtain ⟨g0, o0, rfl⟩ := HS.out.addr (by omega)
      obtain ⟨x0, x1, x2⟩ := (hC.out.sx HS.out).atW hlt
      have HX := Lib.hid (fun V (hV : Below w.heap.size w V) => ((HS.out.below hV).atW hlt).1)
      have HE := Lib.hid (show ∀ i (h : i < l.length), i < k + 1 → badW (l.take k) l[k] = false → badW (l.take i) l[i] = false from fun i h h1 h2 => by
        rcases Nat.lt_or_ge i k with h3 | h3
        · exact hI.out i h h3
        · obtain rfl : i = k := by omega
          exact h2)
      have HNO := Lib.hid (gang_no hlt)
      have HSZ := Lib.hid (HZ.out _ (List.getElem_mem hlt))
      have HAN := Lib.hid (show ∀ t (ht : t < l.length), t < k → (l[t].1.toList == l[k].1.toList) = true → badW (l.take k) l[k] = true from fun t ht htk h => by
        unfold badW
        rw [show (l.take k).any (fun o => o.1.toList == l[k].1.toList) = true from List.any_eq_true.2 ⟨l[t], List.mem_take_iff_getElem.2 ⟨t, by omega, rfl⟩, h⟩]
        rfl)
      have HOK := Lib.hid (show (∀ t (ht : t < l.length), t < k → (l[t].1.toList == l[k].1.toList) = false) → badW (l.take k) l[k] = (!namedB l[k].1 || !inB l[k].2.1 1 20000 || !inB l[k].2.2 0 1000000) from fun h => by
        unfold badW
        rw [show (l.take k).any (fun o => o.1.toList == l[k].1.toList) = false from List.any_eq_false.2 fun x hx => by
          obtain ⟨t, ht, rfl⟩ := List.mem_take_iff_getElem.1 hx
          rw [h t (by omega) (by omega)]; simp]
        rfl)
      have HBD := Lib.hid (show (!namedB l[k].1 || !inB l[k].2.1 1 20000 || !inB l[k].2.2 0 1000000) = true → badW (l.take k) l[k] = true from fun h => by
        unfold badW
        cases (l.take k).any (fun o => o.1.toList == l[k].1.toList)
        · exact h
        · rfl)
      clear hI
      generalize badW (l.take k) l[k] = bw at *
      generalize l[k] = x at *
      obtain ⟨u0, u1, u2⟩ := x
      dsimp only at x0 x1 x2 HSZ HAN HOK HBD
      have HNM := Lib.hid (fun W => refNamed_any u0 W HSZ.out)
      clear HSZ
      cases h1 : namedB u0
      · have HG := Lib.hid (HNO.out (HBD.out (by rw [h1]; rfl)))
        rw [h1] at HNM
        clear h1 HOK HAN HE HBD HNO
        go_wp2_with ((with_reducible refine (HNM.out _).mono ?_); rintro e w1 ⟨rfl, rfl⟩)
        go_ret
        exact ⟨ret_bool HG.out.symm, hC.out.be⟩
      · cases h2 : inB u1 1 20000
        · have HG := Lib.hid (HNO.out (HBD.out (by rw [h2]; simp)))
          rw [h1] at HNM
          clear h1 HOK HAN HE HBD HNO
          go_wp2_with (first | ((with_reducible refine (HNM.out _).mono ?_); rintro e w1 ⟨rfl, rfl⟩) | ((with_reducible refine (In_any _ _ _ _).mono ?_); rintro e w1 ⟨rfl, rfl⟩))
          go_ret
          exact ⟨ret_bool HG.out.symm, hC.out.be⟩
        · cases h3 : inB u2 0 1000000
          · have HG := Lib.hid (HNO.out (HBD.out (by rw [h3]; simp)))
            rw [h1] at HNM
            clear h1 HOK HAN HE HBD HNO
            go_wp2_with (first | ((with_reducible refine (HNM.out _).mono ?_); rintro e w1 ⟨rfl, rfl⟩) | ((with_reducible refine (In_any _ _ _ _).mono ?_); rintro e w1 ⟨rfl, rfl⟩))
            go_ret
            exact ⟨ret_bool HG.out.symm, hC.out.be⟩
          · rw [h1] at HNM
            have HF := Lib.hid (show (∀ t (ht : t < l.length), t < k → (l[t].1.toList == u0.toList) = false) → bw = false from fun h => (HOK.out h).trans (by rw [h1, h2, h3]; rfl))
            clear h1 HOK HBD
            go_wp2_with (first | ((with_reducible refine (HNM.out _).mono ?_); rintro e w1 ⟨rfl, rfl⟩) | ((with_reducible refine (In_any _ _ _ _).mono ?_); rintro e w1 ⟨rfl, rfl⟩))
            go_loopw [4] (fun jv wr => ∃ j : Nat, j ≤ k ∧ jv = .int .i64 j ∧ Hid (∀ t (ht : t < l.length), t < j → (l[t].1.toList == u0.toList) = false) ∧ Hid (Sy w wr [] [] [])) (fun jv _ => k - (intOf jv).toNat)
            case atStart => exact ⟨0, Nat.zero_le _, rfl, Lib.hid (fun t _ h => absurd h (Nat.not_lt_zero t)), hC⟩
            case round =>
              clear hC x0 x1 x2
              obtain ⟨j, hj, rfl, hT, hC⟩ := hrel
              by_cases hjk : j < k
              · obtain ⟨y0, -, -⟩ := (hC.out.sx HS.out).atW (show j < l.length by omega)
                have x0 := HX.out _ hC.out.be
                have HA2 := Lib.hid (HAN.out j (by omega) hjk)
                have HT2 := Lib.hid (show (l[j].1.toList == u0.toList) = false → ∀ t (ht : t < l.length), t < j + 1 → (l[t].1.toList == u0.toList) = false from fun h t ht h1 => by
                  rcases Nat.lt_or_ge t j with h3 | h3
                  · exact hT.out t ht h3
                  · obtain rfl : t = j := by omega
                    exact h)
                clear hT
                generalize l[j].1 = v0 at *
                cases h4 : (v0.toList == u0.toList)
                · have HT3 := Lib.hid (HT2.out h4)
                  go_wp2
                  go_quiet (fail)
                  have hS1 := Lib.hid (hC.out.call (below_dN (Below.refl _ _) nq))
                  go_wp2
                  go_roundw
                  case rel => exact ⟨j + 1, by omega, by go_num, HT3, hS1⟩
                  case measure => simp [intOf]; omega
                · have HG := Lib.hid (HNO.out (HA2.out h4))
                  go_wp2
                  go_quiet (fail)
                  have hS1 := Lib.hid (hC.out.call (below_dN (Below.refl _ _) nq))
                  go_wp2
                  go_ret
                  exact ⟨ret_bool HG.out.symm, hS1.out.be⟩
              · have HG := Lib.hid (HF.out fun t ht h => hT.out t ht (by omega))
                clear hT
                go_wp2
                go_roundw
                case rel => exact ⟨k + 1, by omega, by go_num, Lib.hid (fun i h h1 => HE.out i h h1 HG.out), hC⟩
                case measure => simp [intOf]; omega
    · have HG := Lib.hid (gang_end fun i hi => hI.out i hi (by omega))
      clear hI
      go_wp2_with ((with_reducible refine (In_any _ _ _ _).mono ?_); rintro e w1 ⟨rfl, rfl⟩)
      go_ret
      exact ⟨ret_bool HG.out.symm, hC.out.be⟩
def framesB (L : Int) (F : List Int) : Bool := inB L 1 100000 && decide (F.length ≤ 60) && ascB 0 L F
theorem rightB_split (L : Int) (F : List Int) (l : List WL) : rightB L F l = (gangB l && framesB L F) := by
  unfold rightB framesB
  cases inB L 1 100000 <;> cases decide (F.length ≤ 60) <;> cases gangB l <;> cases ascB 0 L F <;> rfl
set_option maxHeartbeats 4000000 in
set_option maxRecDepth 100000 in
theorem refFrames_any (a : Option Addr) (n c : Nat) (L : Int) (F : List Int) (hs : Sx 1 w a n c (L1 F)) : Calls Tryz.prog 16 #[.int .i64 L, .slice a n c] w (Gives (.bool (framesB L F)) w) := by
  have hlen := hs.n1
  have hm : F.length ≤ 9223372036854775807 := by have := hs.cap; unfold maxLen at this; omega
  have HS := Lib.hid hs
  obtain rfl : F.length = n := hlen.symm
  clear hs hlen
  have HNO := Lib.hid (show ascB 0 L F = false → framesB L F = false from fun h => by unfold framesB; rw [h, Bool.and_false])
  have HYS := Lib.hid (show ascB 0 L F = true → framesB L F = (inB L 1 100000 && decide (F.length ≤ 60)) from fun h => by unfold framesB; rw [h, Bool.and_true])
  go_enter Tryz.func16, Tryz.ntmps16
  go_wp2
  go_loopw [5] (fun iv wr => ∃ k : Nat, k ≤ F.length ∧ iv = .int .i64 k ∧ Hid (ascB 0 L F = ascB (lastF F k) L (F.drop k) ∧ 0 ≤ lastF F k) ∧ Hid (Sy w wr [] [] [])) (fun iv _ => F.length - (intOf iv).toNat)
  case atStart => exact ⟨0, Nat.zero_le _, rfl, Lib.hid ⟨rfl, Int.le_refl _⟩, Lib.hid (Sy.enter w)⟩
  case round =>
    obtain ⟨k, hk, rfl, hI, hC⟩ := hrel
    by_cases hlt : k < F.length
    · obtain ⟨g0, o0, rfl⟩ := HS.out.addr (by omega)
      have x0 := (hC.out.sx HS.out).at1 hlt
      have HD := Lib.hid (hI.out.1.trans (ascB_drop hlt))
      have HL1 := Lib.hid (show lastF F (k + 1) = F[k] by unfold lastF; rw [if_neg (by omega), Nat.add_sub_cancel, getD_at hlt])
      have hl0 := hI.out.2
      by_cases hk0 : k = 0
      · have hkn : decide (0 < k) = false := decide_eq_false (by omega)
        have hz : lastF F k = 0 := by unfold lastF; rw [if_pos hk0]
        rw [hz] at HD
        have HK0 := Lib.hid hk0
        generalize F[k] = f at *
        clear hI hz hk0
        by_cases h1 : f ≤ 0
        · have HG := Lib.hid (HNO.out (by rw [HD.out, show decide (0 < f) = false from decide_eq_false (by omega)]; rfl))
          go_wp2
          go_quiet (fail)
          have hS1 := Lib.hid (hC.out.call (below_dN (Below.refl _ _) nq))
          go_wp2
          go_ret
          exact ⟨ret_bool HG.out.symm, hS1.out.be⟩
        · have d1 := decide_eq_false h1
          by_cases h2 : L ≤ f
          · have HG := Lib.hid (HNO.out (by rw [HD.out, show decide (f < L) = false from decide_eq_false (by omega)]; simp))
            go_wp2
            go_quiet (fail)
            have hS1 := Lib.hid (hC.out.call (below_dN (Below.refl _ _) nq))
            go_wp2
            go_ret
            exact ⟨ret_bool HG.out.symm, hS1.out.be⟩
          · have d2 := decide_eq_false h2
            have HG := Lib.hid (show ascB 0 L F = ascB (lastF F (k + 1)) L (F.drop (k + 1)) by
              rw [HD.out, show decide (0 < f) = true from decide_eq_true (by omega), show decide (f < L) = true from decide_eq_true (by omega)]; rfl)
            go_wp2
            go_quiet (fail)
            have hS1 := Lib.hid (hC.out.call (below_dN (Below.refl _ _) nq))
            go_wp2
            go_roundw
            case rel => exact ⟨k + 1, by omega, by go_num, Lib.hid ⟨HG.out, by rw [HL1.out]; omega⟩, hS1⟩
            case measure => simp [intOf]; omega
      · have hkp : (0 : Int) < (k : Int) := by omega
        have hkn : decide (0 < k) = true := decide_eq_true (by omega)
        have hk1 : k - 1 < F.length := by omega
        have y0 := (hC.out.sx HS.out).at1 hk1
        have hc1 : (k : Int) - 1 = ((k - 1 : Nat) : Int) := by omega
        have hz : lastF F k = F[k - 1] := by unfold lastF; rw [if_neg hk0, getD_at hk1]
        rw [hz] at HD hl0
        generalize F[k] = f at *
        generalize F[k - 1] = q at *
        clear hI hz
        by_cases h1 : f ≤ 0
        · have HG := Lib.hid (HNO.out (by rw [HD.out, show decide (q < f) = false from decide_eq_false (by omega)]; rfl))
          go_wp2
          go_quiet (fail)
          have hS1 := Lib.hid (hC.out.call (below_dN (Below.refl _ _) nq))
          go_wp2
          go_ret
          exact ⟨ret_bool HG.out.symm, hS1.out.be⟩
        · have d1 := decide_eq_false h1
          by_cases h2 : L ≤ f
          · have HG := Lib.hid (HNO.out (by rw [HD.out, show decide (f < L) = false from decide_eq_false (by omega)]; simp))
            go_wp2
            go_quiet (fail)
            have hS1 := Lib.hid (hC.out.call (below_dN (Below.refl _ _) nq))
            go_wp2
            go_ret
            exact ⟨ret_bool HG.out.symm, hS1.out.be⟩
          · have d2 := decide_eq_false h2
            by_cases h3 : f ≤ q
            · have HG := Lib.hid (HNO.out (by rw [HD.out, show decide (q < f) = false from decide_eq_false (by omega)]; rfl))
              go_wp2
              go_quiet (fail)
              have hS1 := Lib.hid (hC.out.call (below_dN (Below.refl _ _) nq))
              go_wp2
              go_ret
              exact ⟨ret_bool HG.out.symm, hS1.out.be⟩
            · have d3 := decide_eq_false h3
              have HG := Lib.hid (show ascB 0 L F = ascB (lastF F (k + 1)) L (F.drop (k + 1)) by
                rw [HD.out, show decide (q < f) = true from decide_eq_true (by omega), show decide (f < L) = true from decide_eq_true (by omega)]; rfl)
              go_wp2
              go_quiet (fail)
              have hS1 := Lib.hid (hC.out.call (below_dN (Below.refl _ _) nq))
              go_wp2
              go_roundw
              case rel => exact ⟨k + 1, by omega, by go_num, Lib.hid ⟨HG.out, by rw [HL1.out]; omega⟩, hS1⟩
              case measure => simp [intOf]; omega
    · have HG := Lib.hid (HYS.out (by rw [hI.out.1, List.drop_eq_nil_of_le (by omega)]; rfl))
      clear hI
      cases hl : inB L 1 100000
      · go_wp2_with ((with_reducible refine (In_any _ _ _ _).mono ?_); rintro e w1 ⟨rfl, rfl⟩)
        go_ret
        exact ⟨ret_bool (by rw [HG.out, hl]; rfl), hC.out.be⟩
      · by_cases h6 : F.length ≤ 60
        · go_wp2_with ((with_reducible refine (In_any _ _ _ _).mono ?_); rintro e w1 ⟨rfl, rfl⟩)
          go_ret
          exact ⟨ret_bool (by rw [HG.out, hl, decide_eq_true h6]; simp; omega), hC.out.be⟩
        · go_wp2_with ((with_reducible refine (In_any _ _ _ _).mono ?_); rintro e w1 ⟨rfl, rfl⟩)
          go_ret
          exact ⟨ret_bool (by rw [HG.out, hl, decide_eq_false h6]; simp; omega), hC.out.be⟩
end
end Go.Proofs.YteogibpmpppgmaaGreat

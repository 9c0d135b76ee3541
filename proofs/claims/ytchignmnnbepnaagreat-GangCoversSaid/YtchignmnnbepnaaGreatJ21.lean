/- the reference's names, gangs and frames -/
/- the reference's range, width and courses of a sheet -/
import Derived.Test.YtchignmnnbepnaaGreatJ19
import Derived.Test.YtchignmnnbepnaaGreatJ20
import Derived.Test.YtchignmnnbepnaaGreatJ17
import Derived.Test.YtchignmnnbepnaaGreatJ12
namespace Go.Proofs.YtchignmnnbepnaaGreat
open Go.RowKit

theorem okB_iff {b : Nat} : okB b = true ↔ (97 ≤ (b : Int) ∧ (b : Int) ≤ 122) ∨ (48 ≤ (b : Int) ∧ (b : Int) ≤ 57) := by
  unfold okB
  simp
  omega
theorem named_no {s : ByteArray} {k : Nat} (hk : k < s.size) (h : ¬ ((97 ≤ (s[k].toNat : Int) ∧ (s[k].toNat : Int) ≤ 122) ∨ (48 ≤ (s[k].toNat : Int) ∧ (s[k].toNat : Int) ≤ 57))) : namedB s = false := by
  cases hn : namedB s
  · rfl
  · exact absurd (okB_iff.1 ((named_iff.1 hn).2.2 k hk)) h
theorem named_end {s : ByteArray} (h : ∀ j (hj : j < s.size), okB s[j].toNat = true) : namedB s = (decide (1 ≤ s.size) && decide (s.size ≤ 16)) := by
  rw [Bool.eq_iff_iff, named_iff, Bool.and_eq_true, decide_eq_true_eq, decide_eq_true_eq]
  exact ⟨fun x => ⟨x.1, x.2.1⟩, fun x => ⟨x.1, x.2, h⟩⟩
set_option maxHeartbeats 1000000 in
set_option maxRecDepth 100000 in
theorem refNamed_any (s : ByteArray) (w : World) (hs : s.size ≤ maxLen) :
    Calls Tryz.prog 34 #[.string s] w fun e w' => e = .returned (.bool (namedB s)) ∧ w' = w := by
  unfold maxLen at hs
  go_enter Tryz.func34, Tryz.ntmps34
  go_wp2
  go_loop [3] (fun i => ∃ k : Nat, k ≤ s.size ∧ i = .int .i64 k ∧ Hid (∀ j (hj : j < s.size), j < k → okB s[j].toNat = true)) (fun i => s.size - (intOf i).toNat)
  case atStart => exact ⟨0, Nat.zero_le _, rfl, Lib.hid (fun j _ hj => absurd hj (Nat.not_lt_zero j))⟩
  case round =>
    obtain ⟨k, hk, rfl, HJ⟩ := hrel
    by_cases hlt : k < s.size
    · have HN := Lib.hid (named_no (s := s) hlt)
      have HY := Lib.hid (show ((97 ≤ (s[k].toNat : Int) ∧ (s[k].toNat : Int) ≤ 122) ∨ (48 ≤ (s[k].toNat : Int) ∧ (s[k].toNat : Int) ≤ 57)) → okB s[k].toNat = true from fun h => okB_iff.2 h)
      have HR := Lib.hid (show ∀ j (hj : j < s.size), j < k + 1 → okB s[k].toNat = true → okB s[j].toNat = true from fun j hj h1 h2 => by
        rcases Nat.lt_or_ge j k with h | h
        · exact HJ.out j hj h
        · obtain rfl : j = k := by omega
          exact h2)
      clear HJ
      by_cases h1 : (s[k].toNat : Int) < 97
      · by_cases h3 : (s[k].toNat : Int) < 48
        · have HG := Lib.hid (HN.out (by omega))
          go_wp2
          go_ret
          exact ⟨ret_bool HG.out.symm, rfl⟩
        · by_cases h4 : 57 < (s[k].toNat : Int)
          · have HG := Lib.hid (HN.out (by omega))
            go_wp2
            go_ret
            exact ⟨ret_bool HG.out.symm, rfl⟩
          · have HG := Lib.hid (HY.out (by omega))
            go_wp2
            go_round
            case rel => exact ⟨k + 1, by omega, by go_num, Lib.hid (fun j hj h => HR.out j hj h HG.out)⟩
            case measure => simp [intOf]; omega
      · have h3 : ¬ (s[k].toNat : Int) < 48 := by omega
        have h4 : 57 < (s[k].toNat : Int) := by omega
        by_cases h2 : 122 < (s[k].toNat : Int)
        · have HG := Lib.hid (HN.out (by omega))
          go_wp2
          go_ret
          exact ⟨ret_bool HG.out.symm, rfl⟩
        · have HG := Lib.hid (HY.out (by omega))
          go_wp2
          go_round
          case rel => exact ⟨k + 1, by omega, by go_num, Lib.hid (fun j hj h => HR.out j hj h HG.out)⟩
          case measure => simp [intOf]; omega
    · have HG := Lib.hid (named_end (s := s) fun j hj => HJ.out j hj (by omega))
      clear HJ
      by_cases h1 : 1 ≤ s.size
      · by_cases h2 : s.size ≤ 16
        · go_wp2
          go_ret
          exact ⟨ret_bool (by rw [HG.out, decide_eq_true h1, decide_eq_true h2]; simp; omega), rfl⟩
        · go_wp2
          go_ret
          exact ⟨ret_bool (by rw [HG.out, decide_eq_true h1, decide_eq_false h2]; simp; omega), rfl⟩
      · go_wp2
        go_ret
        exact ⟨ret_bool (by rw [HG.out, decide_eq_false h1]; rfl), rfl⟩
section
variable (w : World)
theorem gang_no {l : List WL} {k : Nat} (hk : k < l.length) (h : badW (l.take k) l[k] = true) : gangB l = false := by
  unfold gangB
  have : ((List.range l.length).all fun i => !badW (l.take i) (l.getD i (⟨#[]⟩, 0, 0))) = false := by
    rw [List.all_eq_false]
    exact ⟨k, List.mem_range.2 hk, by rw [List.getD_eq_getElem?_getD, List.getElem?_eq_getElem hk]; simpa using h⟩
  rw [this, Bool.and_false]
theorem gang_end {l : List WL} (h : ∀ i (hi : i < l.length), badW (l.take i) l[i] = false) : gangB l = inB l.length 1 12 := by
  unfold gangB
  have : ((List.range l.length).all fun i => !badW (l.take i) (l.getD i (⟨#[]⟩, 0, 0))) = true := by
    rw [List.all_eq_true]
    intro i hi
    have hi := List.mem_range.1 hi
    rw [List.getD_eq_getElem?_getD, List.getElem?_eq_getElem hi]
    simpa using h i hi
  rw [this, Bool.and_true]
set_option maxHeartbeats 4000000 in
set_option maxRecDepth 100000 in
theorem refGang_any (a : Option Addr) (n c : Nat) (l : List WL) (hs : Sx 3 w a n c (LW l)) (hn : ∀ x ∈ l, x.1.size ≤ maxLen) : Calls Tryz.prog 11 #[.slice a n c] w (Gives (.bool (gangB l)) w) := by
  have hlen := hs.nW
  have hm : l.length ≤ 9223372036854775807 := by have := hs.cap; unfold maxLen at this; omega
  have HS := Lib.hid hs
  have HZ := Lib.hid hn
  obtain rfl : l.length = n := hlen.symm
  clear hs hlen hn
  go_enter Tryz.func11, Tryz.ntmps11
  go_wp2
  go_loopw [3] (fun iv wr => ∃ k : Nat, k ≤ l.length ∧ iv = .int .i64 k ∧ Hid (∀ i (h : i < l.length), i < k → badW (l.take i) l[i] = false) ∧ Hid (Sy w wr [] [] [])) (fun iv _ => l.length - (intOf iv).toNat)
  case atStart => exact ⟨0, Nat.zero_le _, rfl, Lib.hid (fun i _ h => absurd h (Nat.not_lt_zero i)), Lib.hid (Sy.enter w)⟩
  case round =>
    obtain ⟨k, hk, rfl, hI, hC⟩ := hrel
    by_cases hlt : k < l.length
    · obtain ⟨g0, o0, rfl⟩ := HS.out.addr (by omega)
      obtain ⟨x0, x1, x2⟩ := (hC.out.sx HS.out).atW hlt
      have HX := Lib.hid (fun V (hV : Below w.heap.size w V) => ((HS.out.below hV).atW hlt).1)
      have HE := Lib.hid (show ∀ i (h : i < l.length), i < k + 1 → badW (l.take k) l[k] = false → badW (l.take i) l[i] = false from fun i h h1 h2 => by
        rcases Nat.lt_or_ge i k with h3 | h3
        · exact hI.out i h h3
        · obtain rfl : i = k := by omega
          exact h2)
      have HNO := Lib.hid (gang_no hlt)
      have HSZ := Lib.hid (HZ.out _ (List.getElem_mem hlt))
      have HAN := Lib.hid (show ∀ t (ht : t < l.length), t < k → (l[t].1.toList == l[k].1.toList) = true → badW (l.take k) l[k] = true from fun t ht htk h => by
        unfold badW
        rw [show (l.take k).any (fun o => o.1.toList == l[k].1.toList) = true from List.any_eq_true.2 ⟨l[t], List.mem_take_iff_getElem.2 ⟨t, by omega, rfl⟩, h⟩]
        rfl)
      have HOK := Lib.hid (show (∀ t (ht : t < l.length), t < k → (l[t].1.toList == l[k].1.toList) = false) → badW (l.take k) l[k] = (!namedB l[k].1 || !inB l[k].2.1 1 20000 || !inB l[k].2.2 0 1000000) from fun h => by
        unfold badW
        rw [show (l.take k).any (fun o => o.1.toList == l[k].1.toList) = false from List.any_eq_false.2 fun x hx => by
          obtain ⟨t, ht, rfl⟩ := List.mem_take_iff_getElem.1 hx
          rw [h t (by omega) (by omega)]; simp]
        rfl)
      have HBD := Lib.hid (show (!namedB l[k].1 || !inB l[k].2.1 1 20000 || !inB l[k].2.2 0 1000000) = true → badW (l.take k) l[k] = true from fun h => by
        unfold badW
        cases (l.take k).any (fun o => o.1.toList == l[k].1.toList)
        · exact h
        · rfl)
      clear hI
      generalize badW (l.take k) l[k] = bw at *
      generalize l[k] = x at *
      obtain ⟨u0, u1, u2⟩ := x
      dsimp only at x0 x1 x2 HSZ HAN HOK HBD
      have HNM := Lib.hid (fun W => refNamed_any u0 W HSZ.out)
      clear HSZ
      cases h1 : namedB u0
      · have HG := Lib.hid (HNO.out (HBD.out (by rw [h1]; rfl)))
        rw [h1] at HNM
        clear h1 HOK HAN HE HBD HNO
        go_wp2_with ((with_reducible refine (HNM.out _).mono ?_); rintro e w1 ⟨rfl, rfl⟩)
        go_ret
        exact ⟨ret_bool HG.out.symm, hC.out.be⟩
      · cases h2 : inB u1 1 20000
        · have HG := Lib.hid (HNO.out (HBD.out (by rw [h2]; simp)))
          rw [h1] at HNM
          clear h1 HOK HAN HE HBD HNO
          go_wp2_with (first | ((with_reducible refine (HNM.out _).mono ?_); rintro e w1 ⟨rfl, rfl⟩) | ((with_reducible refine (In_any _ _ _ _).mono ?_); rintro e w1 ⟨rfl, rfl⟩))
          go_ret
          exact ⟨ret_bool HG.out.symm, hC.out.be⟩
        · cases h3 : inB u2 0 1000000
          · have HG := Lib.hid (HNO.out (HBD.out (by rw [h3]; simp)))
            rw [h1] at HNM
            clear h1 HOK HAN HE HBD HNO
            go_wp2_with (first | ((with_reducible refine (HNM.out _).mono ?_); rintro e w1 ⟨rfl, rfl⟩) | ((with_reducible refine (In_any _ _ _ _).mono ?_); rintro e w1 ⟨rfl, rfl⟩))
            go_ret
            exact ⟨ret_bool HG.out.symm, hC.out.be⟩
          · rw [h1] at HNM
            have HF := Lib.hid (show (∀ t (ht : t < l.length), t < k → (l[t].1.toList == u0.toList) = false) → bw = false from fun h => (HOK.out h).trans (by rw [h1, h2, h3]; rfl))
            clear h1 HOK HBD
            go_wp2_with (first | ((with_reducible refine (HNM.out _).mono ?_); rintro e w1 ⟨rfl, rfl⟩) | ((with_reducible refine (In_any _ _ _ _).mono ?_); rintro e w1 ⟨rfl, rfl⟩))
            go_loopw [4] (fun jv wr => ∃ j : Nat, j ≤ k ∧ jv = .int .i64 j ∧ Hid (∀ t (ht : t < l.length), t < j → (l[t].1.toList == u0.toList) = false) ∧ Hid (Sy w wr [] [] [])) (fun jv _ => k - (intOf jv).toNat)
            case atStart => exact ⟨0, Nat.zero_le _, rfl, Lib.hid (fun t _ h => absurd h (Nat.not_lt_zero t)), hC⟩
            case round =>
              clear hC x0 x1 x2
              obtain ⟨j, hj, rfl, hT, hC⟩ := hrel
              by_cases hjk : j < k
              · obtain ⟨y0, -, -⟩ := (hC.out.sx HS.out).atW (show j < l.length by omega)
                have x0 := HX.out _ hC.out.be
                have HA2 := Lib.hid (HAN.out j (by omega) hjk)
                have HT2 := Lib.hid (show (l[j].1.toList == u0.toList) = false → ∀ t (ht : t < l.length), t < j + 1 → (l[t].1.toList == u0.toList) = false from fun h t ht h1 => by
                  rcases Nat.lt_or_ge t j with h3 | h3
                  · exact hT.out t ht h3
                  · obtain rfl : t = j := by omega
                    exact h)
                clear hT
                generalize l[j].1 = v0 at *
                cases h4 : (v0.toList == u0.toList)
                · have HT3 := Lib.hid (HT2.out h4)
                  go_wp2
                  go_quiet (fail)
                  have hS1 := Lib.hid (hC.out.call (below_dN (Below.refl _ _) nq))
                  go_wp2
                  go_roundw
                  case rel => exact ⟨j + 1, by omega, by go_num, HT3, hS1⟩
                  case measure => simp [intOf]; omega
                · have HG := Lib.hid (HNO.out (HA2.out h4))
                  go_wp2
                  go_quiet (fail)
                  have hS1 := Lib.hid (hC.out.call (below_dN (Below.refl _ _) nq))
                  go_wp2
                  go_ret
                  exact ⟨ret_bool HG.out.symm, hS1.out.be⟩
              · have HG := Lib.hid (HF.out fun t ht h => hT.out t ht (by omega))
                clear hT
                go_wp2
                go_roundw
                case rel => exact ⟨k + 1, by omega, by go_num, Lib.hid (fun i h h1 => HE.out i h h1 HG.out), hC⟩
                case measure => simp [intOf]; omega
    · have HG := Lib.hid (gang_end fun i hi => hI.out i hi (by omega))
      clear hI
      go_wp2_with ((with_reducible refine (In_any _ _ _ _).mono ?_); rintro e w1 ⟨rfl, rfl⟩)
      go_ret
      exact ⟨ret_bool HG.out.symm, hC.out.be⟩
end
end Go.Proofs.YtchignmnnbepnaaGreat
namespace Go.Proofs.YtchignmnnbepnaaGreat
open Go.RowKit
set_option maxHeartbeats 400000 in
theorem in6_any (x lo hi : Int) (w : World) : Calls Tryz.prog 71 #[.int .i64 x, .int .i64 lo, .int .i64 hi] w fun e w' => e = .returned (.bool (inB x lo hi)) ∧ w' = w := by
  unfold inB
  by_cases h1 : lo ≤ x <;> by_cases h2 : x ≤ hi
  all_goals
    go_enter Tryz.func71, Tryz.ntmps71
    go_wp2
    go_ret
    exact ⟨ret_bool (by simp [h1, h2]), rfl⟩
section
variable (w : World)
set_option maxHeartbeats 4000000 in
set_option maxRecDepth 100000 in
theorem rwidth_any (s : Sht) (z : Int) (hb : 0 ≤ s.batter ∧ s.batter ≤ 500) (hz : 0 ≤ z ∧ z ≤ 3000) (hB : 0 ≤ s.base ∧ s.base ≤ 3000) :
    Calls Tryz.prog 72 #[aS s, .int .i64 z] w (Gives (.int .i64 (widthI s z)) w) := by
  obtain ⟨p0, p1, p2, p3⟩ := width_bd hb hz
  have HE := Lib.hid (show widthI s z = s.base - 2 * (s.batter * z).tdiv 1000 from rfl)
  obtain ⟨V, hV⟩ : ∃ V, aS s = V := ⟨_, rfl⟩
  have HV := Lib.hid (show V.cells = (cS s).toArray by rw [← hV]; rfl)
  rw [hV]
  clear hV
  go_enter Tryz.func72, Tryz.ntmps72
  go_wp2_with (refine wpList_bx (o := ⟨some 2, _, _, _, _, _⟩) rfl (Sy.enter w) _ _ rfl (cS s).toArray HV.out ?_; intro b V2 h2; have hC := Lib.hid h2; clear h2; have x1 : V2.cell? ⟨b, 1, none⟩ = some (.int .i64 s.base) := hC.out.cell 0 1 rfl rfl; have x2 : V2.cell? ⟨b, 2, none⟩ = some (.int .i64 s.batter) := hC.out.cell 0 2 rfl rfl)
  go_ret
  exact ⟨ret_int HE.out.symm, hC.out.be⟩
theorem und_RCourse : Tryz.prog.underlying 141 = some (.slice 175) := Tryz.underlying141
theorem info_RCourse : (Tryz.prog.info? 175).map (fun i => (i.zero, i.size, i.bytes)) = some (some (.agg #[.int .i64 0, .int .i64 0]), 2, 16) := by kernel_rfl
theorem L2_snoc2 (l : List I2) (a b : Int) : L2 (l ++ [(a, b)]) = L2 l ++ [.int .i64 a, .int .i64 b] := by rw [L2_append]; rfl
set_option maxHeartbeats 16000000 in
set_option maxRecDepth 100000 in
theorem rcourses_any (s : Sht) (hs : Sx 1 w s.ha s.hn s.hc (L1 s.hs)) (hn : 0 < s.hn) (hh : ∀ h ∈ s.hs, 1 ≤ h ∧ h ≤ 1000) (hH : 1 ≤ s.height ∧ s.height ≤ 3000) (hL : 1 ≤ s.least) :
    Calls Tryz.prog 73 #[aS s] w (RetRow w 175 2 (coursesL s.hs s.height s.least).length (L2 (coursesL s.hs s.height s.least))) := by
  have hlen := hs.n1
  have hcap := hs.cap
  unfold maxLen at hcap
  obtain ⟨g0, o0, e0⟩ := hs.addr hn
  have HS := Lib.hid (show Sx 1 w (some ⟨g0, o0, none⟩) s.hn s.hc (L1 s.hs) by rw [← e0]; exact hs)
  have HH := Lib.hid hh
  have HL := Lib.hid hL
  have E0 := Lib.hid e0
  obtain ⟨V, hV⟩ : ∃ V, aS s = V := ⟨_, rfl⟩
  have HV := Lib.hid (show V.cells = (cS s).toArray by rw [← hV]; rfl)
  rw [hV]
  have hH0 := hH.1
  have hH1 := hH.2
  clear hV hs hh e0 hL hH
  go_enter Tryz.func73, Tryz.ntmps73
  go_wp2_with (refine wpList_bx (o := ⟨some 1, _, _, _, _, _⟩) rfl (Sy.enter w) _ _ rfl (cS s).toArray HV.out ?_; intro b V2 h2; have hC := Lib.hid h2; clear h2)
  go_loopw [3, 4, 5] (fun ov zv iv wr => ∃ (k j : Nat) (z : Int) (out : List I2) (a : Option Addr) (c : Nat), ov = .slice a k c ∧ zv = .int .i64 z ∧ iv = .int .i64 j ∧ Hid (j = min k (s.hs.length - 1)) ∧ Hid (Laying s.hs s.height out k z) ∧ Hid (Sy w wr [(b, (cS s).toArray, 53)] [⟨.slice a k c, 175, 2, k, L2 out⟩] [])) (fun _ zv _ _ => 4000 - (intOf zv).toNat)
  case atStart => exact ⟨0, 0, 0, [], none, 0, rfl, rfl, rfl, Lib.hid (by simp), Lib.hid (laying_start _ (by omega)), Lib.hid (hC.out.onil _ 2)⟩
  case round =>
    clear hC
    obtain ⟨k, j, z, out, a, c, rfl, rfl, rfl, HJ, HLY, hC⟩ := hrel
    have hkz := HLY.out.2.1
    have hzH := HLY.out.2.2.1
    obtain ⟨j', hj, hje, hat⟩ := hAt_in (hs := s.hs) (k := k) (by omega)
    have hjj : j' = j := by rw [hje, HJ.out]
    subst hjj
    have hin := HH.out s.hs[j'] (List.getElem_mem hj)
    have x3 : wr.cell? ⟨b, 3, none⟩ = some (.int .i64 s.height) := hC.out.cell 0 3 rfl rfl
    have x5 : wr.cell? ⟨b, 5, none⟩ = some (.slice (some ⟨g0, o0, none⟩) s.hn s.hc) := by rw [← E0.out]; exact hC.out.cell 0 5 rfl rfl
    have y0 : wr.cell? ⟨g0, o0 + j', none⟩ = some (.int .i64 (hAt s.hs k)) := by
      have h := (hC.out.sx HS.out).at1 hj
      rw [hat]
      exact h
    have HY0 := Lib.hid (show ∀ W4, Sy w W4 [(b, (cS s).toArray, 53)] [⟨.slice a k c, 175, 2, k, L2 out⟩] [] → W4.cell? ⟨g0, o0 + j', none⟩ = some (.int .i64 (hAt s.hs k)) from fun W4 h4 => by
      have h := (h4.sx HS.out).at1 hj
      rw [hat]
      exact h)
    have HY1 := Lib.hid (show ∀ W4, Below w.heap.size w W4 → W4.cell? ⟨g0, o0 + j', none⟩ = some (.int .i64 (hAt s.hs k)) from fun W4 h4 => by
      have h := (HS.out.below h4).at1 hj
      rw [hat]
      exact h)
    have HJ2 := Lib.hid (show (j' : Int) + 1 < (s.hs.length : Int) → j' + 1 = min (k + 1) (s.hs.length - 1) from fun h => by omega)
    have HJ3 := Lib.hid (show ¬ (j' : Int) + 1 < (s.hs.length : Int) → j' = min (k + 1) (s.hs.length - 1) from fun h => by omega)
    have i0 : (0 : Int) ≤ (j' : Int) := by omega
    have i1 : (j' : Int) < (s.hs.length : Int) := by omega
    have HST := Lib.hid (fun h1 ht => laying_step HLY.out hH1 h1 ht)
    have HEN := Lib.hid (fun ht => laying_end HLY.out hH1 ht)
    have hol : out.length = k := HLY.out.1
    rw [← hat] at hin
    clear hje hat hj HJ
    generalize hAt s.hs k = h at *
    obtain ⟨hi1, hi2⟩ := hin
    by_cases hT : s.height < z + h
    · have HCD := Lib.hid (fun l => courses_done (least := l) (HEN.out hT))
      clear HST HEN HLY
      have HOL := Lib.hid hol
      clear hol
      go_upto_region 3 with fail
      go_quiet (fail)
      have hC2 := Lib.hid (hC.out.call (below_dN (Below.refl _ _) nq))
      go_upto_region 8 with fail
      refine wp_geny hC2.out ?_
      intro W3 hc
      have hC := Lib.hid hc
      clear hc hC2
      have x3 : W3.cell? ⟨b, 3, none⟩ = some (.int .i64 s.height) := hC.out.cell 0 3 rfl rfl
      have x5 : W3.cell? ⟨b, 5, none⟩ = some (.slice (some ⟨g0, o0, none⟩) s.hn s.hc) := by rw [← E0.out]; exact hC.out.cell 0 5 rfl rfl
      have x6 : W3.cell? ⟨b, 6, none⟩ = some (.int .i64 s.least) := hC.out.cell 0 6 rfl rfl
      have ks : (k : Int) ≤ 3000 := by omega
      by_cases hz : z = s.height
      · have HCE := Lib.hid (show coursesL s.hs s.height s.least = out by rw [HCD.out, if_pos hz])
        have hzz : s.height - z = 0 := by omega
        have hl1 := HL.out
        clear HCD
        as_aux_lemma =>
        go_wp2
        go_ret
        refine ⟨a, c, ?_, ?_, hC.out.be⟩
        · rw [HCE.out, HOL.out]; rfl
        · rw [HCE.out, HOL.out]; exact hC.out.gives 0 rfl
      · have HCE := Lib.hid (HCD.out s.least)
        rw [if_neg hz] at HCE
        have hzz : (s.height - z == 0) = false := beq_eq_false_iff_ne.2 (by omega)
        clear HCD
        by_cases hl : s.least ≤ s.height - z
        · rw [if_pos (.inl hl)] at HCE
          as_aux_lemma =>
          go_wp2_with (refine wpList_append_sy (o := ⟨some 67, _, _, _, _, _⟩) rfl (hC.out.onew W3.heap.size #[.int .i64 z, .int .i64 s.height] 175 2 1 rfl (by omega) rfl) 0 1 rfl rfl _ _ _ rfl und_RCourse info_RCourse rfl (by omega) rfl rfl (by intro u hu; simp at hu; rcases hu with rfl | rfl <;> rfl) (by omega) (by omega) ?_; intro a3 c3 V3 hV3; have hJ := Lib.hid hV3; clear hV3)
          go_ret
          refine ⟨a3, c3, ?_, ?_, hJ.out.be⟩
          · rw [HCE.out, List.length_append, HOL.out]; rfl
          · rw [HCE.out, List.length_append, HOL.out, L2_snoc2]; exact hJ.out.gives 0 rfl
        · by_cases hk0 : k = 0
          · rw [if_pos (.inr (List.length_eq_zero_iff.1 (by rw [HOL.out]; exact hk0)))] at HCE
            have hkb : ((k : Int) == 0) = true := beq_iff_eq.2 (by omega)
            clear hk0
            as_aux_lemma =>
            go_wp2_with (refine wpList_append_sy (o := ⟨some 67, _, _, _, _, _⟩) rfl (hC.out.onew W3.heap.size #[.int .i64 z, .int .i64 s.height] 175 2 1 rfl (by omega) rfl) 0 1 rfl rfl _ _ _ rfl und_RCourse info_RCourse rfl (by omega) rfl rfl (by intro u hu; simp at hu; rcases hu with rfl | rfl <;> rfl) (by omega) (by omega) ?_; intro a3 c3 V3 hV3; have hJ := Lib.hid hV3; clear hV3)
            go_ret
            refine ⟨a3, c3, ?_, ?_, hJ.out.be⟩
            · rw [HCE.out, List.length_append, HOL.out]; rfl
            · rw [HCE.out, List.length_append, HOL.out, L2_snoc2]; exact hJ.out.gives 0 rfl
          · rw [if_neg (fun hh => hh.elim hl (fun he => hk0 (by rw [← HOL.out, he]; rfl)))] at HCE
            have hkb : ((k : Int) == 0) = false := beq_eq_false_iff_ne.2 (by omega)
            obtain ⟨g1, rfl, _⟩ := hC.out.oaddr 0 rfl (by omega)
            have hk1 : 1 ≤ (k : Int) := by omega
            obtain ⟨front, last, rfl⟩ : ∃ front last, out = front ++ [last] := by
              rcases List.eq_nil_or_concat out with h0 | ⟨f0, l0, h0⟩
              · exact absurd (by rw [← HOL.out, h0]; rfl) hk0
              · exact ⟨f0, l0, by rw [h0, List.concat_eq_append]⟩
            obtain ⟨l1, l2⟩ := last
            have hfl : front.length = k - 1 := by have h := HOL.out; rw [List.length_append] at h; simp at h; omega
            have y1 : W3.cell? ⟨g1, (k - 1) * 2 + 1, none⟩ = some (.int .i64 l2) := hC.out.rcell 0 rfl (by
              rw [L2_snoc2, List.getElem?_append_right (by rw [L2_len, hfl]; omega), L2_len, hfl, show (k - 1) * 2 + 1 - (k - 1) * 2 = 1 by omega]
              rfl)
            have y2 := hC.out.rfree 0 rfl ((k - 1) * 2 + 1)
            have hS := Lib.hid (hC.out.ostore 0 rfl ((k - 1) * 2 + 1) (.int .i64 s.height))
            have HLS := Lib.hid (show (L2 (front ++ [(l1, l2)])).set ((k - 1) * 2 + 1) (.int .i64 s.height) = L2 (front ++ [(l1, s.height)]) by
              rw [L2_snoc2, L2_snoc2, List.set_append_right _ _ (by rw [L2_len, hfl]; omega), L2_len, hfl, show (k - 1) * 2 + 1 - (k - 1) * 2 = 1 by omega]
              rfl)
            rw [show (front ++ [(l1, l2)]).dropLast = front by simp, show ((front ++ [(l1, l2)]).getLastD (0, 0)).1 = l1 by simp] at HCE
            have HFL := Lib.hid hfl
            clear hfl
            as_aux_lemma =>
            go_wp2
            go_ret
            refine ⟨some ⟨g1, 0, none⟩, c, ?_, ?_, hS.out.be⟩
            · rw [HCE.out, List.length_append, HFL.out, show k - 1 + [(l1, s.height)].length = k by simp; omega]
              rfl
            · rw [HCE.out, List.length_append, HFL.out, show k - 1 + [(l1, s.height)].length = k by simp; omega]
              have h := hS.out.gives 0 rfl
              rw [HLS.out] at h
              exact h
    · have HNX := Lib.hid (HST.out hi1 hT)
      clear HST HEN HLY
      go_upto_region 3 with fail
      go_quiet (fail)
      have hC2 := Lib.hid (hC.out.call (below_dN (Below.refl _ _) nq))
      go_upto_region 4 with fail
      refine wp_geny hC2.out ?_
      intro W3 hc
      have hC := Lib.hid hc
      clear hc hC2
      have x3 : W3.cell? ⟨b, 3, none⟩ = some (.int .i64 s.height) := hC.out.cell 0 3 rfl rfl
      have x5 : W3.cell? ⟨b, 5, none⟩ = some (.slice (some ⟨g0, o0, none⟩) s.hn s.hc) := by rw [← E0.out]; exact hC.out.cell 0 5 rfl rfl
      have y0 : W3.cell? ⟨g0, o0 + j', none⟩ = some (.int .i64 h) := HY0.out _ hC.out
      by_cases hj2 : (j' : Int) + 1 < (s.hs.length : Int)
      · have HJN := Lib.hid (HJ2.out hj2)
        clear HJ2 HJ3
        go_wp2_with (refine wpList_append_sy (o := ⟨some 28, _, _, _, _, _⟩) rfl (hC.out.onew W3.heap.size #[.int .i64 z, .int .i64 (z + h)] 175 2 1 rfl (by omega) rfl) 0 1 rfl rfl _ _ _ rfl und_RCourse info_RCourse rfl (by omega) rfl rfl (by intro u hu; simp at hu; rcases hu with rfl | rfl <;> rfl) (by omega) (by omega) ?_; intro a3 c3 V3 hV3; have hJ := Lib.hid (hV3.thin (List.Sublist.refl _) (List.Sublist.cons_cons _ (List.nil_sublist _))); clear hV3; have z3 : V3.cell? ⟨b, 3, none⟩ = some (.int .i64 s.height) := hJ.out.cell 0 3 rfl rfl; have z5 : V3.cell? ⟨b, 5, none⟩ = some (.slice (some ⟨g0, o0, none⟩) s.hn s.hc) := by { rw [← E0.out]; exact hJ.out.cell 0 5 rfl rfl }; have z0 := HY1.out _ hJ.out.be)
        go_roundw
        case rel => exact ⟨k + 1, j' + 1, z + h, out ++ [(z, z + h)], a3, c3, rfl, rfl, by go_num, HJN, HNX, by rw [L2_snoc2]; exact hJ⟩
        case measure => simp [intOf]; omega
      · have HJN := Lib.hid (HJ3.out hj2)
        clear HJ2 HJ3
        go_wp2_with (refine wpList_append_sy (o := ⟨some 28, _, _, _, _, _⟩) rfl (hC.out.onew W3.heap.size #[.int .i64 z, .int .i64 (z + h)] 175 2 1 rfl (by omega) rfl) 0 1 rfl rfl _ _ _ rfl und_RCourse info_RCourse rfl (by omega) rfl rfl (by intro u hu; simp at hu; rcases hu with rfl | rfl <;> rfl) (by omega) (by omega) ?_; intro a3 c3 V3 hV3; have hJ := Lib.hid (hV3.thin (List.Sublist.refl _) (List.Sublist.cons_cons _ (List.nil_sublist _))); clear hV3; have z3 : V3.cell? ⟨b, 3, none⟩ = some (.int .i64 s.height) := hJ.out.cell 0 3 rfl rfl; have z5 : V3.cell? ⟨b, 5, none⟩ = some (.slice (some ⟨g0, o0, none⟩) s.hn s.hc) := by { rw [← E0.out]; exact hJ.out.cell 0 5 rfl rfl }; have z0 := HY1.out _ hJ.out.be)
        go_roundw
        case rel => exact ⟨k + 1, j', z + h, out ++ [(z, z + h)], a3, c3, rfl, rfl, rfl, HJN, HNX, by rw [L2_snoc2]; exact hJ⟩
        case measure => simp [intOf]; omega
end
end Go.Proofs.YtchignmnnbepnaaGreat

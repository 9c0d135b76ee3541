/- the law GangFair, walked -/
import Derived.Test.YteogibpmpppgmaaK7
namespace Go.Proofs.Yteogibpmpppgmaa
open Go.RowKit

def Fair (s : Int) (l Z : List Int) : Prop := Z.length = l.length ∧ lsum Z = s ∧ (∀ k, k < l.length → lsum (Z.take (k + 1)) = lsum (Z.take k) + Z.getD k 0) ∧ (∀ k, 0 ≤ lsum (Z.take k) ∧ lsum (Z.take k) ≤ s) ∧
  (∀ i, i < l.length → (0 ≤ Z.getD i 0 ∧ Z.getD i 0 ≤ s) ∧ Z.getD i 0 * lsum l - s * l.getD i 0 < lsum l ∧ -lsum l < Z.getD i 0 * lsum l - s * l.getD i 0) ∧
  (∀ i k, i < l.length → k < l.length → l.getD k 0 < l.getD i 0 → Z.getD k 0 ≤ Z.getD i 0)
theorem fair_shared {s : Int} {l : List Int} {order : List Nat} (hs0 : 0 ≤ s) (hl : ∀ x ∈ l, 0 ≤ x ∧ x ≤ 1000000) (hA : 0 < lsum l) (ho : Ordered s l order) : Fair s l (shared s l order) := by
  have hlen : (shared s l order).length = l.length := shared_len
  have hsum : lsum (shared s l order) = s := shared_sum hA ho
  have h0 : ∀ i, i < l.length → 0 ≤ (shared s l order).getD i 0 := fun i hi => by
    rw [shared_at ho hi]
    have hx := hl _ (List.getElem_mem hi)
    rw [getD_at hi]
    have : 0 ≤ s * l[i] / lsum l := Int.ediv_nonneg (Int.mul_nonneg hs0 hx.1) (by omega)
    split <;> omega
  have hn : ∀ x ∈ shared s l order, 0 ≤ x := fun x hx => by
    obtain ⟨i, hi, rfl⟩ := List.getElem_of_mem hx
    have := h0 i (by omega)
    rwa [getD_at hi] at this
  have hst : ∀ k, k < l.length → lsum ((shared s l order).take (k + 1)) = lsum ((shared s l order).take k) + (shared s l order).getD k 0 := fun k hk => by
    rw [List.take_succ_eq_append_getElem (by omega), lsum_snoc, getD_at (by omega)]
  have htk : ∀ k, 0 ≤ lsum ((shared s l order).take k) ∧ lsum ((shared s l order).take k) ≤ s := fun k => by
    have h1 := lsum_nonneg (l := (shared s l order).take k) fun x hx => hn x (List.mem_of_mem_take hx)
    have h2 := lsum_nonneg (l := (shared s l order).drop k) fun x hx => hn x (List.mem_of_mem_drop hx)
    have h3 := lsum_append ((shared s l order).take k) ((shared s l order).drop k)
    rw [List.take_append_drop, hsum] at h3
    omega
  refine ⟨hlen, hsum, hst, htk, fun i hi => ⟨⟨h0 i hi, ?_⟩, shared_off hA ho hi⟩, fun i k hi hk h => shared_mono hs0 hA ho hi hk h⟩
  have h1 := hst i hi
  have h2 := htk i
  have h3 := htk (i + 1)
  omega
section
variable (w : World)
set_option maxRecDepth 100000 in
set_option maxHeartbeats 8000000 in
theorem gangFair_walk (s : Int) (a : Option Addr) (n c : Nat) (l : List Int) (hs : Sx 1 w a n c (L1 l)) (_ : -9223372036854775808 ≤ s ∧ s < 9223372036854775808) : Calls Try.prog 6 #[.int .i64 s, .slice a n c] w (Gives (.bool true) w) := by
  have hcap := hs.cap
  unfold maxLen at hcap
  obtain rfl := hs.n1
  have HW := Lib.hid wakes_any
  have HS := Lib.hid hs
  clear hs
  have HSA := Lib.hid (fun W => In_any s 0 1000000000 W)
  have hcases : (l.length : Int) > 60 ∨ (¬ (l.length : Int) > 60 ∧ inB s 0 1000000000 = false) ∨ (¬ (l.length : Int) > 60 ∧ inB s 0 1000000000 = true) := by
    by_cases h : (l.length : Int) > 60
    · exact .inl h
    · cases inB s 0 1000000000
      · exact .inr (.inl ⟨h, rfl⟩)
      · exact .inr (.inr ⟨h, rfl⟩)
  rcases hcases with h60 | ⟨h60, hin⟩ | ⟨h60, hin⟩
  · clear HSA
    go_enter Try.func6, Try.ntmps6
    go_wp2_with fail
    refine (HW.out _).mono ?_
    rintro e V ⟨rfl, hb⟩
    have hC := Lib.hid ((Sy.enter w).call hb)
    clear hb
    go_wp2
    go_ret
    exact ⟨rfl, hC.out.be⟩
  · rw [hin] at HSA
    clear hin
    go_enter Try.func6, Try.ntmps6
    go_wp2_with fail
    refine (HSA.out _).mono ?_
    rintro e w1 ⟨rfl, rfl⟩
    go_wp2_with fail
    refine (HW.out _).mono ?_
    rintro e V ⟨rfl, hb⟩
    have hC := Lib.hid ((Sy.enter w1).call hb)
    clear hb
    go_wp2
    go_ret
    exact ⟨rfl, hC.out.be⟩
  · have HIN := Lib.hid hin
    have hsb := inB_iff.1 hin
    rw [hin] at HSA
    clear hin
    go_enter Try.func6, Try.ntmps6
    go_wp2_with fail
    refine (HSA.out _).mono ?_
    rintro e w1 ⟨rfl, hw1⟩
    have hC : Hid (Sy w w1 [] [] []) := Lib.hid (by rw [hw1]; exact Sy.enter w)
    clear hw1
    go_wp2
    go_loopw [5, 6] (fun tv iv wr => ∃ (k : Nat) (q : Int), k ≤ l.length ∧ (0 ≤ q ∧ q ≤ (k : Int) * 1000000) ∧ tv = .int .i64 q ∧ iv = .int .i64 k ∧
      Hid (((l.take k).any fun n => !inB n 0 1000000) = false ∧ q = lsum (l.take k)) ∧ Hid (Sy w wr [] [] [])) (fun _ iv _ => l.length - (intOf iv).toNat)
    case atStart => exact ⟨0, 0, Nat.zero_le _, ⟨Int.le_refl _, Int.le_refl _⟩, rfl, rfl, Lib.hid ⟨rfl, rfl⟩, hC⟩
    case round =>
      clear hC
      obtain ⟨k, q, hk, hq, rfl, rfl, hR, hC⟩ := hrel
      by_cases hlt : k < l.length
      · have hkk : (k : Int) < (l.length : Int) := by omega
        have k0 : (0 : Int) ≤ (k : Int) := by omega
        obtain ⟨g0, o0, rfl⟩ := HS.out.addr (by omega)
        have x0 := (hC.out.sx HS.out).at1 hlt
        have HBT := Lib.hid (anyOut_take hlt)
        have HLS := Lib.hid (show lsum (l.take (k + 1)) = lsum (l.take k) + l[k] from by rw [List.take_succ_eq_append_getElem hlt, lsum_snoc])
        generalize l[k] = x at *
        cases hin : inB x 0 1000000
        · have HIA := Lib.hid (fun W => In_any x 0 1000000 W)
          rw [hin] at HIA
          clear hin
          go_wp2_with fail
          refine (HIA.out _).mono ?_
          rintro e w2 ⟨rfl, hw2⟩
          have hD : Hid (Sy w w2 [] [] []) := Lib.hid (by rw [hw2]; exact hC.out)
          clear hw2
          go_wp2_with fail
          refine (HW.out _).mono ?_
          rintro e V ⟨rfl, hb⟩
          have hE := Lib.hid (hD.out.call hb)
          clear hb
          go_wp2
          go_ret
          exact ⟨rfl, hE.out.be⟩
        · have hxb := inB_iff.1 hin
          have HIA := Lib.hid (fun W => In_any x 0 1000000 W)
          rw [hin] at HIA
          have HR2 := Lib.hid (show ((l.take (k + 1)).any fun n => !inB n 0 1000000) = false ∧ q + x = lsum (l.take (k + 1)) from ⟨by rw [HBT.out, hR.out.1, hin]; rfl, by rw [HLS.out, hR.out.2]⟩)
          clear hin
          have wq : IntKind.i64.wrap (q + x) = q + x := by rw [IntKind.wrap_i64]; omega
          go_wp2_with ((with_reducible refine (HIA.out _).mono ?_); rintro e w1 ⟨rfl, rfl⟩)
          go_roundw
          case rel => exact ⟨k + 1, q + x, by omega, by omega, rfl, by go_num, HR2, hC⟩
          case measure => simp [intOf]; omega
      · have hkk : ¬ (k : Int) < (l.length : Int) := by omega
        have ht : l.take k = l := List.take_of_length_le (by omega)
        rw [ht] at hR
        clear ht
        obtain ⟨h4, h5⟩ := hR.out
        have hbf : shareBad s l = false := by unfold shareBad; rw [HIN.out, h4, decide_eq_false (show ¬ 60 < l.length by omega)]; rfl
        obtain ⟨_, _, hli, _⟩ := share_parts hbf
        have HBF := Lib.hid hbf
        have HLI := Lib.hid hli
        have HQ := Lib.hid h5
        have HSH := Lib.hid (share_any wr a l.length c s l (hC.out.sx HS.out))
        clear h4 h5 hbf hli hR
        go_wp2_with fail
        refine HSH.out.mono ?_
        rintro e W1 ⟨a1, n1, c1, en, xs, rfl, hO, hB⟩
        have HO := Lib.hid hO
        have hbe := Lib.hid hB.be
        rcases hO with ⟨h, _⟩ | ⟨_, hz, hn0, he⟩ | ⟨_, hp, hn0, he, order, ho, hxs⟩
        · rw [HBF.out] at h; cases h
        · subst he hn0
          obtain rfl : q = 0 := by rw [HQ.out]; exact hz
          have hD := Lib.hid (hC.out.call hbe.out)
          clear hB HO HSH hbe hz
          go_wp2_with fail
          refine (HW.out _).mono ?_
          rintro e V ⟨rfl, hb⟩
          have hE := Lib.hid (hD.out.call hb)
          clear hb
          go_wp2
          go_ret
          exact ⟨rfl, hE.out.be⟩
        · have hF := fair_shared hsb.1 HLI.out hp ho
          rw [← hxs] at hF
          unfold Fair at hF
          rw [← HQ.out] at hF hp
          obtain ⟨f1, f2, f3, f4, f5, f6⟩ := hF
          have F1 := Lib.hid f1
          have F2 := Lib.hid f2
          have F3 := Lib.hid f3
          have F4 := Lib.hid f4
          have F5 := Lib.hid f5
          have F6 := Lib.hid f6
          subst he hn0
          have hD : Hid (Sy w W1 [] [⟨.slice a1 l.length c1, 3, 1, l.length, L1 xs⟩] []) := Lib.hid (hC.out.adopt hbe.out ((hB.gives 0 rfl)))
          clear hB HO HSH hbe ho hxs f1 f2 f3 f4 f5 f6 hC
          have hq1 : q ≤ 60000000 := by omega
          have hqb : (q == 0) = false := by simp; omega
          have hpos : 0 < l.length := by
            rcases Nat.eq_zero_or_pos l.length with h | h
            · exfalso; omega
            · exact h
          obtain ⟨g, o, rfl⟩ := HS.out.addr hpos
          obtain ⟨g1, rfl, _⟩ := hD.out.oaddr 0 rfl hpos
          have wq : IntKind.i64.wrap (-q) = -q := by rw [IntKind.wrap_i64]; omega
          clear hq hkk hlt hk
          go_wp2
          go_loopw [9, 10] (fun gv iv wr => ∃ k : Nat, k ≤ l.length ∧ gv = .int .i64 (lsum (xs.take k)) ∧ iv = .int .i64 k ∧ Hid (Sy w wr [] [⟨.slice (some ⟨g1, 0, none⟩) l.length c1, 3, 1, l.length, L1 xs⟩] [])) (fun _ iv _ => l.length - (intOf iv).toNat)
          case atStart => exact ⟨0, Nat.zero_le _, rfl, rfl, hD⟩
          case round =>
            clear hD
            obtain ⟨k, hk, rfl, rfl, hD⟩ := hrel
            by_cases hlt : k < l.length
            · have hkk : (k : Int) < (l.length : Int) := by omega
              have k0 : (0 : Int) ≤ (k : Int) := by omega
              have x0 : wr.cell? ⟨g, o + k, none⟩ = some (.int .i64 (l.getD k 0)) := by rw [getD_at hlt]; exact (hD.out.sx HS.out).at1 hlt
              have y0 : wr.cell? ⟨g1, k, none⟩ = some (.int .i64 (xs.getD k 0)) := hD.out.rcell 0 rfl (by unfold L1; rw [List.getElem?_map, List.getD_eq_getElem?_getD, List.getElem?_eq_getElem (by rw [F1.out]; exact hlt)]; rfl)
              have HST := Lib.hid (F3.out k hlt)
              have ht0 := F4.out k
              have ht1 := F4.out (k + 1)
              rw [HST.out] at ht1
              obtain ⟨⟨z0, z1⟩, z2, z3⟩ := F5.out k hlt
              have HMO := Lib.hid (fun m hm => F6.out k m hlt hm)
              have hxb := HLI.out _ (List.getElem_mem hlt)
              rw [← getD_at hlt] at hxb
              generalize l.getD k 0 = x at *
              generalize xs.getD k 0 = z at *
              generalize lsum (xs.take k) = gs at *
              have p0 : 0 ≤ z * q := Int.mul_nonneg z0 (by omega)
              have p1 : z * q ≤ 1000000000 * 60000000 := Int.mul_le_mul (by omega) hq1 (by omega) (by decide)
              have p2 : 0 ≤ s * x := Int.mul_nonneg hsb.1 hxb.1
              have p3 : s * x ≤ 1000000000 * 1000000 := Int.mul_le_mul hsb.2 hxb.2 hxb.1 (by decide)
              have w1 : IntKind.i64.wrap (z * q) = z * q := IntWalk.i64_in _ (by omega)
              have w2 : IntKind.i64.wrap (s * x) = s * x := IntWalk.i64_in _ (by omega)
              have w3 : IntKind.i64.wrap (z * q - s * x) = z * q - s * x := IntWalk.i64_in _ (by omega)
              have w4 : IntKind.i64.wrap (gs + z) = gs + z := by rw [IntKind.wrap_i64]; omega
              go_upto_region 20 with fail
              go_quiet (fail)
              have hE := Lib.hid (hD.out.call (below_dN (Below.refl _ _) nq))
              generalize wr.drewN nq = wq0 at *
              clear hD x0 y0
              have b1 : ¬ (z * q - s * x ≥ q) := by omega
              have b2 : ¬ (z * q - s * x ≤ -q) := by omega
              go_wp2
              go_loopw [12] (fun mv wr => ∃ m : Nat, m ≤ l.length ∧ mv = .int .i64 m ∧ Hid (Sy w wr [] [⟨.slice (some ⟨g1, 0, none⟩) l.length c1, 3, 1, l.length, L1 xs⟩] [])) (fun mv _ => l.length - (intOf mv).toNat)
              case atStart => exact ⟨0, Nat.zero_le _, rfl, hE⟩
              case round =>
                clear hE
                obtain ⟨m, hm, rfl, hD⟩ := hrel
                by_cases hml : m < l.length
                · have hmm : (m : Int) < (l.length : Int) := by omega
                  have m0 : (0 : Int) ≤ (m : Int) := by omega
                  have HXK := Lib.hid (show wr.cell? ⟨g, o + k, none⟩ = some (.int .i64 (l.getD k 0)) from by rw [getD_at hlt]; exact (hD.out.sx HS.out).at1 hlt)
                  have x0 := HXK.out
                  have x1 : wr.cell? ⟨g, o + m, none⟩ = some (.int .i64 (l.getD m 0)) := by rw [getD_at hml]; exact (hD.out.sx HS.out).at1 hml
                  have y0 : wr.cell? ⟨g1, k, none⟩ = some (.int .i64 (xs.getD k 0)) := hD.out.rcell 0 rfl (by unfold L1; rw [List.getElem?_map, List.getD_eq_getElem?_getD, List.getElem?_eq_getElem (by rw [F1.out]; exact hlt)]; rfl)
                  have y1 : wr.cell? ⟨g1, m, none⟩ = some (.int .i64 (xs.getD m 0)) := hD.out.rcell 0 rfl (by unfold L1; rw [List.getElem?_map, List.getD_eq_getElem?_getD, List.getElem?_eq_getElem (by rw [F1.out]; exact hml)]; rfl)
                  have HM := Lib.hid (F6.out k m hlt hml)
                  clear HXK
                  generalize l.getD k 0 = xk at *
                  generalize xs.getD k 0 = zk at *
                  generalize l.getD m 0 = xm at *
                  generalize xs.getD m 0 = zm at *
                  by_cases hgt : xm < xk
                  · have hle := HM.out hgt
                    have c1b : decide (xk > xm) = true := decide_eq_true hgt
                    have c2b : decide (zk < zm) = false := decide_eq_false (by omega)
                    go_upto_region 26 with fail
                    go_quiet (fail)
                    have hE := Lib.hid (hD.out.call (below_dN (Below.refl _ _) nq))
                    go_wp2
                    go_roundw
                    case rel => exact ⟨m + 1, by omega, by go_num, hE⟩
                    case measure => simp [intOf]; omega
                  · have c1b : decide (xk > xm) = false := decide_eq_false hgt
                    go_upto_region 26 with fail
                    go_quiet (fail)
                    have hE := Lib.hid (hD.out.call (below_dN (Below.refl _ _) nq))
                    go_wp2
                    go_roundw
                    case rel => exact ⟨m + 1, by omega, by go_num, hE⟩
                    case measure => simp [intOf]; omega
                · have hmm : ¬ (m : Int) < (l.length : Int) := by omega
                  go_wp2
                  go_roundw
                  case rel => exact ⟨k + 1, by omega, by rw [HST.out], by go_num, hD⟩
                  case measure => simp [intOf]; omega
            · have hkk : ¬ (k : Int) < (l.length : Int) := by omega
              have ht : xs.take k = xs := List.take_of_length_le (by rw [F1.out]; omega)
              rw [ht, F2.out]
              clear ht
              go_wp2_with fail
              refine (HW.out _).mono ?_
              rintro e V ⟨rfl, hb⟩
              have hE := Lib.hid (hD.out.call hb)
              clear hb
              go_wp2
              go_ret
              exact ⟨rfl, hE.out.be⟩
end
end Go.Proofs.Yteogibpmpppgmaa

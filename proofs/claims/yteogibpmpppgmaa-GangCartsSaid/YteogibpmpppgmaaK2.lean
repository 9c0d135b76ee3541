/- the law GangTrips, walked -/
import Derived.Test.YteogibpmpppgmaaK1
namespace Go.Proofs.Yteogibpmpppgmaa
open Go.RowKit

/-- what gang.Trips answers -/
def tripsAns (n : Nat) (l : List I3) (cart : Int) : Int × Int := if cart < 1 then (0, 3) else if 400 < n ∨ tripsBad l = true then (0, 2) else (sumBy (tripsOf cart) l, 0)
theorem trips_any (w : World) (a : Option Addr) (n c : Nat) (l : List I3) (cart : Int) (hs : Sx 3 w a n c (L3 l)) (hcm : cart ≤ 9223372036854775807) (hm : n ≤ 9223372036854775807) : Calls Try.prog 15 #[.slice a n c, .int .i64 cart] w (Gives (.tuple #[.int .i64 (tripsAns n l cart).1, .int .i64 (tripsAns n l cart).2]) w) := by
  unfold tripsAns
  by_cases h1 : cart < 1
  · rw [if_pos h1]; exact trips_less w a n c cart h1
  · rw [if_neg h1]
    by_cases h2 : 400 < n
    · rw [if_pos (.inl h2)]; exact trips_long w a n c cart (by omega) h2 hm
    · cases hb : tripsBad l
      · rw [if_neg (by simp; omega)]; exact trips_ok w a n c l cart hs (by omega) hcm (by omega) hb
      · rw [if_pos (.inr rfl)]; exact trips_bad w a n c l cart hs (by omega) (by omega) hb
theorem bad_take {l : List I3} {k : Nat} (h : k < l.length) : tripsBad (l.take (k + 1)) = (tripsBad (l.take k) || !inB l[k].2.2 1 1000000) := by
  unfold tripsBad
  rw [List.take_succ_eq_append_getElem h, List.any_append]
  simp
theorem bad_of_take {l : List I3} {k : Nat} (h : tripsBad (l.take k) = true) : tripsBad l = true := by
  unfold tripsBad at h ⊢
  obtain ⟨x, hx, hb⟩ := List.any_eq_true.1 h
  exact List.any_eq_true.2 ⟨x, List.mem_of_mem_take hx, hb⟩
section
variable (w : World)
set_option maxRecDepth 100000 in
set_option maxHeartbeats 4000000 in
theorem gangTrips_walk (a : Option Addr) (n c : Nat) (l : List I3) (cart : Int) (hs : Sx 3 w a n c (L3 l)) (hc0 : -9223372036854775808 ≤ cart ∧ cart < 9223372036854775808) : Calls Try.prog 4 #[.slice a n c, .int .i64 cart] w (Gives (.bool true) w) := by
  have hcap := hs.cap
  unfold maxLen at hcap
  obtain rfl := hs.n3
  have HW := Lib.hid wakes_any
  have HS := Lib.hid hs
  clear hs
  by_cases h1 : (40 < l.length ∧ l.length ≤ 400) ∨ 410 < l.length
  · rcases h1 with ⟨h1, h2⟩ | h1
    · have g1 : ((l.length : Int) > 40) := by omega
      have g2 : ((l.length : Int) ≤ 400) := by omega
      go_enter Try.func4, Try.ntmps4
      go_wp2_with fail
      refine (HW.out _).mono ?_
      rintro e V ⟨rfl, hb⟩
      have hC := Lib.hid ((Sy.enter w).call hb)
      clear hb
      go_wp2
      go_ret
      exact ⟨rfl, hC.out.be⟩
    · have g1 : ((l.length : Int) > 40) := by omega
      have g2 : ¬ ((l.length : Int) ≤ 400) := by omega
      have g3 : ((l.length : Int) > 410) := by omega
      go_enter Try.func4, Try.ntmps4
      go_wp2_with fail
      refine (HW.out _).mono ?_
      rintro e V ⟨rfl, hb⟩
      have hC := Lib.hid ((Sy.enter w).call hb)
      clear hb
      go_wp2
      go_ret
      exact ⟨rfl, hC.out.be⟩
  · have HCV := Lib.hid (conv_Load a l.length c l w HS.out (by omega))
    have g1 : ((l.length : Int) > 40 ∧ (l.length : Int) > 400 ∨ ¬ (l.length : Int) > 40) := by omega
    have g3 : ¬ ((l.length : Int) > 410) := by omega
    clear h1
    have key : ∀ (tn te : Int) (W : World), (te, tn) = ((tripsAns l.length l cart).2, (tripsAns l.length l cart).1) → True := fun _ _ _ _ => trivial
    clear key
    have HTR := Lib.hid (fun W (a : Option Addr) (c : Nat) (h : Sx 3 W a l.length c (L3 l)) => trips_any W a l.length c l cart h (by omega) (by omega))
    obtain ⟨tn, htn⟩ : ∃ tn, (tripsAns l.length l cart).1 = tn := ⟨_, rfl⟩
    obtain ⟨te, hte⟩ : ∃ te, (tripsAns l.length l cart).2 = te := ⟨_, rfl⟩
    rw [htn, hte] at HTR
    have HA := Lib.hid (show tripsAns l.length l cart = (tn, te) from by rw [← htn, ← hte])
    clear htn hte
    have hcart : cart ≤ 9223372036854775807 := by omega
    rcases g1 with ⟨g1, g2⟩ | g1
    all_goals
      go_enter Try.func4, Try.ntmps4
      go_wp2_with fail
      refine HCV.out.mono ?_
      rintro e W1 ⟨a1, c1, rfl, hr, hb⟩
      have hB := Lib.hid ((Sy.enter w).adopt hb hr)
      clear hr hb HCV
      go_wp2_with fail
      refine (HTR.out W1 a1 c1 (hB.out.osx 0 rfl)).mono ?_
      rintro e W2 ⟨rfl, hb⟩
      have hC : Hid (Sy w W2 [] [] []) := Lib.hid ((hB.out.call hb).thin (List.Sublist.refl _) (List.nil_sublist _))
      clear hb hB HTR
      by_cases hc1 : cart < 1
      · have hA := HA.out
        unfold tripsAns at hA
        rw [if_pos hc1] at hA
        cases hA
        rcases Nat.eq_zero_or_pos l.length with h0 | h0
        all_goals
          first | have h00 : ¬ (0 : Int) < (l.length : Int) := by omega | have h00 : (0 : Int) < (l.length : Int) := by omega
          go_wp2
          refine wp_loop_once ?_
          go_wp2_with fail
          refine (HW.out _).mono ?_
          rintro e V ⟨rfl, hb⟩
          have hD := Lib.hid (hC.out.call hb)
          clear hb
          go_wp2
          go_ret
          exact ⟨rfl, hD.out.be⟩
      · by_cases hl4 : 400 < l.length
        · try (exfalso; omega)
          all_goals
            have hA := HA.out
            unfold tripsAns at hA
            rw [if_neg hc1, if_pos (.inl hl4)] at hA
            cases hA
            have h00 : (0 : Int) < (l.length : Int) := by omega
            have h01 : (l.length : Int) > 400 := by omega
            go_wp2
            refine wp_loop_once ?_
            go_wp2_with fail
            refine (HW.out _).mono ?_
            rintro e V ⟨rfl, hb⟩
            have hD := Lib.hid (hC.out.call hb)
            clear hb
            go_wp2
            go_ret
            exact ⟨rfl, hD.out.be⟩
        · try (exfalso; omega)
          all_goals
            have HC1 := Lib.hid hc1
            have h01 : ¬ (l.length : Int) > 400 := by omega
            have hc2 : 1 ≤ cart := by omega
            have hcz : ¬ cart = 0 := by omega
            go_wp2
            go_loopw [7, 8, 9] (fun wv tv iv wr => ∃ (k : Nat) (wn q : Int), k ≤ l.length ∧ wv = .int .i64 wn ∧ tv = .int .i64 q ∧ iv = .int .i64 k ∧ Hid ((wn = 0 ∧ tripsBad (l.take k) = false ∧ q = sumBy (tripsOf cart) (l.take k)) ∨ (wn = 2 ∧ tripsBad l = true)) ∧ Hid (Sy w wr [] [] [])) (fun _ _ iv _ => l.length - (intOf iv).toNat)
            case atStart => exact ⟨0, 0, 0, Nat.zero_le _, rfl, rfl, rfl, Lib.hid (.inl ⟨rfl, rfl, rfl⟩), hC⟩
            case round =>
              clear hC
              obtain ⟨k, wn, q, hk, rfl, rfl, rfl, hR, hC⟩ := hrel
              rcases hR.out with ⟨rfl, hbk, rfl⟩ | ⟨rfl, hbad⟩
              · by_cases hlt : k < l.length
                · have hkk : (k : Int) < (l.length : Int) := by omega
                  have k0 : (0 : Int) ≤ (k : Int) := by omega
                  obtain ⟨g0, o0, rfl⟩ := HS.out.addr (by omega)
                  obtain ⟨_, _, x2⟩ := (hC.out.sx HS.out).at3 hlt
                  have HBT := Lib.hid (bad_take hlt)
                  have HST := Lib.hid (sumBy_take (tripsOf cart) l k hlt)
                  have HBK := Lib.hid hbk
                  have hq : 0 ≤ sumBy (tripsOf cart) (l.take k) ∧ sumBy (tripsOf cart) (l.take k) ≤ l.length * 1000000 := by
                    have h := trips_bd hc2 hbk k
                    rw [List.take_take, Nat.min_self, List.length_take] at h
                    omega
                  have HXE := Lib.hid (show ∀ x, l[k].2.2 = x → tripsOf cart l[k] = (x - 1) / cart + 1 from fun x h => by unfold tripsOf; rw [h])
                  obtain ⟨x, hx⟩ : ∃ x, l[k].2.2 = x := ⟨_, rfl⟩
                  have HX := Lib.hid (HXE.out x hx)
                  rw [hx] at x2 HBT
                  clear hx HXE hR hbk
                  obtain ⟨q, hqq⟩ : ∃ q, sumBy (tripsOf cart) (l.take k) = q := ⟨_, rfl⟩
                  rw [hqq] at hq HST ⊢
                  clear hqq
                  cases hin : inB x 1 1000000
                  · have HIN := Lib.hid hin
                    rw [hin] at HBT
                    have HIA := Lib.hid (fun W => In_any x 1 1000000 W)
                    rw [hin] at HIA
                    clear hin
                    go_wp2_with ((with_reducible refine (HIA.out _).mono ?_); rintro e w1 ⟨rfl, rfl⟩)
                    go_roundw
                    case rel => exact ⟨k + 1, 2, q, by omega, rfl, rfl, by go_num, Lib.hid (.inr ⟨rfl, bad_of_take (by rw [HBT.out]; simp)⟩), hC⟩
                    case measure => simp [intOf]; omega
                  · have hxb := inB_iff.1 hin
                    rw [hin] at HBT
                    have HIA := Lib.hid (fun W => In_any x 1 1000000 W)
                    rw [hin] at HIA
                    clear hin
                    have ed : x.tdiv cart = x / cart := Int.tdiv_eq_ediv_of_nonneg (by omega)
                    have em : x.tmod cart = x % cart := Int.tmod_eq_emod_of_nonneg (by omega)
                    have hd0 : 0 ≤ x / cart := Int.ediv_nonneg (by omega) (by omega)
                    have hd1 : x / cart ≤ x := div_le (by omega)
                    have HTT := Lib.hid (trips_ref (x := x) hc2)
                    generalize x / cart = d at *
                    have wq : IntKind.i64.wrap (q + d) = q + d := by rw [IntKind.wrap_i64]; omega
                    have wq1 : IntKind.i64.wrap (q + d + 1) = q + d + 1 := by rw [IntKind.wrap_i64]; omega
                    have wd : IntKind.i64.wrap d = d := by rw [IntKind.wrap_i64]; omega
                    have hm0 := Int.emod_nonneg x hcz
                    have hm1 := Int.emod_lt_of_pos x (show 0 < cart by omega)
                    by_cases hm : x % cart = 0
                    · have HM := Lib.hid hm
                      rw [hm] at em
                      clear hm hm0 hm1
                      go_wp2_with ((with_reducible refine (HIA.out _).mono ?_); rintro e w1 ⟨rfl, rfl⟩)
                      go_roundw
                      case rel =>
                        refine ⟨k + 1, 0, q + d, by omega, rfl, rfl, by go_num, Lib.hid (.inl ⟨rfl, by rw [HBT.out, HBK.out]; rfl, ?_⟩), hC⟩
                        rw [HST.out, HX.out, ← HTT.out, if_pos HM.out]; omega
                      case measure => simp [intOf]; omega
                    · have HM := Lib.hid hm
                      have wm : IntKind.i64.wrap (x % cart) = x % cart := by rw [IntKind.wrap_i64]; omega
                      have hmb : (x % cart == 0) = false := by simpa using hm
                      clear hm
                      go_wp2_with ((with_reducible refine (HIA.out _).mono ?_); rintro e w1 ⟨rfl, rfl⟩)
                      go_roundw
                      case rel =>
                        refine ⟨k + 1, 0, q + d + 1, by omega, rfl, rfl, by go_num, Lib.hid (.inl ⟨rfl, by rw [HBT.out, HBK.out]; rfl, ?_⟩), hC⟩
                        rw [HST.out, HX.out, ← HTT.out, if_neg HM.out]; omega
                      case measure => simp [intOf]; omega
                · have hkk : ¬ (k : Int) < (l.length : Int) := by omega
                  have hA := HA.out
                  have ht : l.take k = l := List.take_of_length_le (by omega)
                  rw [ht] at hbk ⊢
                  unfold tripsAns at hA
                  rw [if_neg (show ¬ cart < 1 by omega), if_neg (by rw [hbk]; simp; omega)] at hA
                  have htn : tn = sumBy (tripsOf cart) l := by cases hA; rfl
                  have hte : te = 0 := by cases hA; rfl
                  subst hte
                  rw [← htn]
                  have HTN := Lib.hid htn
                  clear htn hA hR ht hbk
                  go_wp2_with fail
                  refine (HW.out _).mono ?_
                  rintro e V ⟨rfl, hb⟩
                  have hD := Lib.hid (hC.out.call hb)
                  clear hb
                  go_wp2
                  go_ret
                  exact ⟨rfl, hD.out.be⟩
              · have hA := HA.out
                unfold tripsAns at hA
                rw [if_neg (show ¬ cart < 1 by omega), if_pos (.inr hbad)] at hA
                cases hA
                clear hbad hR
                rcases Nat.lt_or_ge k l.length with h0 | h0
                all_goals
                  first | have h00 : ¬ (k : Int) < (l.length : Int) := by omega | have h00 : (k : Int) < (l.length : Int) := by omega
                  go_wp2_with fail
                  refine (HW.out _).mono ?_
                  rintro e V ⟨rfl, hb⟩
                  have hD := Lib.hid (hC.out.call hb)
                  clear hb
                  go_wp2
                  go_ret
                  exact ⟨rfl, hD.out.be⟩
end
end Go.Proofs.Yteogibpmpppgmaa

/- the law GangCarts, walked -/
import Derived.Test.YteogibpmpppgmaaK2
namespace Go.Proofs.Yteogibpmpppgmaa
open Go.RowKit

theorem div_anti {x a b : Int} (h0 : 0 ≤ x) (h1 : 1 ≤ a) (h2 : a ≤ b) : x / b ≤ x / a := by
  have e1 : b * (x / b) + x % b = x := Int.mul_ediv_add_emod x b
  have e3 := Int.emod_nonneg x (show b ≠ 0 by omega)
  have e5 : 0 ≤ x / b := Int.ediv_nonneg h0 (by omega)
  have e6 : a * (x / b) ≤ b * (x / b) := Int.mul_le_mul_of_nonneg_right h2 e5
  exact (Int.le_ediv_iff_mul_le (by omega)).2 (by rw [Int.mul_comm]; omega)
theorem sum_mono {α : Type} {f g : α → Int} : ∀ {l : List α}, (∀ x ∈ l, f x ≤ g x) → sumBy f l ≤ sumBy g l
  | [], _ => Int.le_refl _
  | x :: l, h => by
    unfold sumBy
    rw [List.map_cons, List.map_cons, lsum_cons, lsum_cons]
    have h1 := h x (List.mem_cons_self ..)
    have h2 := sum_mono (l := l) fun y hy => h y (List.mem_cons_of_mem _ hy)
    unfold sumBy at h2
    omega
theorem sum_ones {α : Type} {f : α → Int} : ∀ {l : List α}, (∀ x ∈ l, f x = 1) → sumBy f l = l.length
  | [], _ => rfl
  | x :: l, h => by
    unfold sumBy
    rw [List.map_cons, lsum_cons, h x (List.mem_cons_self ..)]
    have h2 := sum_ones (l := l) fun y hy => h y (List.mem_cons_of_mem _ hy)
    unfold sumBy at h2
    rw [h2, List.length_cons]
    omega
theorem good_amounts {l : List I3} (h : tripsBad l = false) : ∀ x ∈ l, 1 ≤ x.2.2 ∧ x.2.2 ≤ 1000000 := fun x hx => by
  have h1 := List.any_eq_false.1 h x hx
  simp only [Bool.not_eq_true, Bool.not_eq_false'] at h1
  exact inB_iff.1 h1
theorem trips_less_cart {l : List I3} (h : tripsBad l = false) {a b : Int} (h1 : 1 ≤ a) (h2 : a ≤ b) : sumBy (tripsOf b) l ≤ sumBy (tripsOf a) l :=
  sum_mono fun x hx => by
    have := good_amounts h x hx
    unfold tripsOf
    have := div_anti (x := x.2.2 - 1) (by omega) h1 h2
    omega
theorem trips_great {l : List I3} (h : tripsBad l = false) : sumBy (tripsOf 1000000) l = l.length :=
  sum_ones fun x hx => by
    have := good_amounts h x hx
    unfold tripsOf
    rw [div_small (by omega) (by omega)]; rfl
section
variable (w : World)
set_option maxRecDepth 100000 in
set_option maxHeartbeats 4000000 in
theorem gangCarts_walk (a : Option Addr) (n c : Nat) (l : List I3) (cart more : Int) (hs : Sx 3 w a n c (L3 l)) (h1 : 0 ≤ cart ∧ cart < 65536) (h2 : 0 ≤ more ∧ more < 65536) : Calls Try.prog 8 #[.slice a n c, .int .u16 cart, .int .u16 more] w (Gives (.bool true) w) := by
  have hcap := hs.cap
  unfold maxLen at hcap
  obtain rfl := hs.n3
  have HW := Lib.hid wakes_any
  have HS := Lib.hid hs
  clear hs
  by_cases h40 : 40 < l.length
  · have g1 : ((l.length : Int) > 40) := by omega
    go_enter Try.func8, Try.ntmps8
    go_wp2_with fail
    refine (HW.out _).mono ?_
    rintro e V ⟨rfl, hb⟩
    have hC := Lib.hid ((Sy.enter w).call hb)
    clear hb
    go_wp2
    go_ret
    exact ⟨rfl, hC.out.be⟩
  · have g1 : ¬ ((l.length : Int) > 40) := by omega
    go_enter Try.func8, Try.ntmps8
    go_wp2
    go_loop [7] (fun iv => ∃ k : Nat, k ≤ l.length ∧ iv = .int .i64 k ∧ Hid (tripsBad (l.take k) = false)) (fun iv => l.length - (intOf iv).toNat)
    case atStart => exact ⟨0, Nat.zero_le _, rfl, Lib.hid rfl⟩
    case round =>
      obtain ⟨k, hk, rfl, hR⟩ := hrel
      by_cases hlt : k < l.length
      · obtain ⟨g0, o0, rfl⟩ := HS.out.addr (by omega)
        obtain ⟨_, _, x2⟩ := HS.out.at3 hlt
        have HBT := Lib.hid (bad_take hlt)
        generalize l[k].2.2 = x at *
        have HIA := Lib.hid (fun W => In_any x 1 1000000 W)
        cases hin : inB x 1 1000000
        · rw [hin] at HIA
          clear hin
          go_wp2_with ((with_reducible refine (HIA.out _).mono ?_); rintro e w1 ⟨rfl, rfl⟩)
          refine (HW.out _).mono ?_
          rintro e V ⟨rfl, hb⟩
          have hC := Lib.hid ((Sy.enter _).call hb)
          clear hb
          go_wp2
          go_ret
          exact ⟨rfl, hC.out.be⟩
        · rw [hin] at HIA HBT
          clear hin
          go_wp2_with ((with_reducible refine (HIA.out _).mono ?_); rintro e w1 ⟨rfl, rfl⟩)
          go_round
          case rel => exact ⟨k + 1, by omega, by go_num, Lib.hid (by rw [HBT.out, hR.out]; rfl)⟩
          case measure => simp [intOf]; omega
      · have hb : tripsBad l = false := by
          have h := hR.out
          rw [List.take_of_length_le (by omega)] at h
          exact h
        have hkk : ¬ (k : Int) < (l.length : Int) := by omega
        have HCV := Lib.hid (conv_Load a l.length c l w HS.out (by omega))
        have HTR := Lib.hid (fun W (a : Option Addr) (c : Nat) (h : Sx 3 W a l.length c (L3 l)) (q : Int) (hq : 1 ≤ q) (hq2 : q ≤ 9223372036854775807) => trips_ok W a l.length c l q h hq hq2 (by omega) hb)
        have HLE := Lib.hid (trips_less_cart hb (a := 1 + cart) (b := 1 + cart + more) (by omega) (by omega))
        have HGR := Lib.hid (trips_great hb)
        have w1 : IntKind.i64.wrap (1 + cart) = 1 + cart := by rw [IntKind.wrap_i64]; omega
        have w2 : IntKind.i64.wrap (1 + cart + more) = 1 + cart + more := by rw [IntKind.wrap_i64]; omega
        have w3 : IntKind.i64.wrap cart = cart := by rw [IntKind.wrap_i64]; omega
        have w4 : IntKind.i64.wrap more = more := by rw [IntKind.wrap_i64]; omega
        clear hb hR
        go_wp2_with fail
        refine HCV.out.mono ?_
        rintro e W1 ⟨a1, c1, rfl, hr, hb⟩
        have hB := Lib.hid ((Sy.enter _).adopt hb hr)
        clear hr hb HCV
        go_wp2_with fail
        refine (HTR.out W1 a1 c1 (hB.out.osx 0 rfl) (1 + cart) (by omega) (by omega)).mono ?_
        rintro e W2 ⟨rfl, hb⟩
        have hC := Lib.hid (hB.out.call hb)
        clear hb hB
        go_wp2_with fail
        refine (HTR.out W2 a1 c1 (hC.out.osx 0 rfl) (1 + cart + more) (by omega) (by omega)).mono ?_
        rintro e W3 ⟨rfl, hb⟩
        have hD := Lib.hid (hC.out.call hb)
        clear hb hC
        go_wp2_with fail
        refine (HTR.out W3 a1 c1 (hD.out.osx 0 rfl) 1000000 (by omega) (by omega)).mono ?_
        rintro e W4 ⟨rfl, hb⟩
        have hE := Lib.hid (hD.out.call hb)
        clear hb hD
        rw [HGR.out]
        have hle := HLE.out
        generalize sumBy (tripsOf (1 + cart)) l = t1 at *
        generalize sumBy (tripsOf (1 + cart + more)) l = t2 at *
        go_wp2_with fail
        refine (HW.out _).mono ?_
        rintro e V ⟨rfl, hb⟩
        have hF := Lib.hid (hE.out.call hb)
        clear hb
        go_wp2
        go_ret
        exact ⟨rfl, hF.out.be⟩
end
end Go.Proofs.Yteogibpmpppgmaa

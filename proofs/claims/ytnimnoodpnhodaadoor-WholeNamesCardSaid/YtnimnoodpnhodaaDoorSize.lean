/- (digits).size, even; divisor -/
import Derived.Test.YtnimnoodpnhodaaDoorSettled
namespace Go.Proofs.YtnimnoodpnhodaaDoor
open Go.RowKit Dig

theorem even_any (a : Option Addr) (n c : Nat) (M : Nat) (w : World) (h1 : Dg w (.slice a n c) M) (hM : 0 < M) :
    Calls Tryd.prog 63 #[.agg #[.slice a n c]] w fun e w' => e = .returned (.bool (((M : Int) % 2) == 0)) ∧ w' = w.alloc (.cells #[.slice a n c] 25) := by
  unfold Dg at h1
  have hn := h1.len
  have hd : dg 16777216 M = ((M % 16777216 : Nat) : Int) :: dg 16777216 (M / 16777216) := dg_pos (by omega) hM
  have hp : 0 < (dg 16777216 M).length := by rw [hd]; simp
  obtain ⟨g, rfl, hg⟩ := h1.row hp
  have hc := (h1.alloc (.cells #[.slice (some ⟨g, 0, none⟩) n c] 25)).cell hp
  have hx : (dg 16777216 M)[0] = ((M % 16777216 : Nat) : Int) := by simp only [hd, List.getElem_cons_zero]
  rw [hx] at hc
  have hm := i64_mask1 ((M % 16777216 : Nat) : Int)
  have hm2 : ((M % 16777216 : Nat) : Int) % 2 = (M : Int) % 2 := by omega
  rw [hm2] at hm
  have hn0 : 0 < n := by omega
  clear hx hm2 hd hp hn h1
  generalize ((M % 16777216 : Nat) : Int) = d at *
  go_enter Tryd.func63, Tryd.ntmps63
  go_wp2
  go_ret
  exact ⟨rfl, rfl⟩

set_option maxHeartbeats 1000000 in
theorem divisor_any (x y : Nat) (w : World) (hx : x < 9223372036854775808) (hy : y < 9223372036854775808) :
    Calls Tryd.prog 65 #[.int .u64 x, .int .u64 y] w fun e w' => e = .returned (.int .u64 (Nat.gcd x y : Nat)) ∧ Below w.heap.size w w' := by
  go_enter Tryd.func65, Tryd.ntmps65
  go_wp2
  go_loopw [0, 1] (fun u v wr => ∃ p q : Nat, u = .int .u64 p ∧ v = .int .u64 q ∧ p < 9223372036854775808 ∧ q < 9223372036854775808 ∧ Hid (Nat.gcd p q = Nat.gcd x y) ∧ Below w.heap.size w wr) (fun _ v _ => (intOf v).toNat)
  case atStart => exact ⟨x, y, rfl, rfl, hx, hy, rfl, Below.refl _ _⟩
  case round =>
    obtain ⟨p, q, rfl, rfl, hp, hq, hg, hB⟩ := hrel
    by_cases h0 : q = 0
    · subst h0
      go_wp2
      go_ret
      exact ⟨by rw [← hg.out, Nat.gcd_zero_right]; rfl, hB⟩
    · have h1 : 1 ≤ q := by omega
      have h2 : ((q : Int) != 0) = true := by simp; omega
      have HB := Lib.hid hB
      clear hB
      go_wp2
      go_quiet (fail)
      go_wp2
      go_roundw
      case rel =>
        have hlt := Nat.mod_lt p (show 0 < q by omega)
        exact ⟨q, p % q, rfl, by rw [Int.natCast_emod], hq, by omega, by unfold Hid; rw [← hg.out, Nat.gcd_comm p q, Nat.gcd_rec q p, Nat.gcd_comm], Below.drewN HB.out _⟩
      case measure =>
        have hlt := Nat.mod_lt p (show 0 < q by omega)
        simp only [intOf]; rw [← Int.natCast_emod]; omega

def cmpN (M N : Nat) : Int := if M < N then -1 else if N < M then 1 else 0

set_option maxRecDepth 100000 in
set_option maxHeartbeats 1000000 in
theorem size_any (a : Option Addr) (n c : Nat) (a2 : Option Addr) (n2 c2 : Nat) (M N : Nat) (w : World) (h1 : Dg w (.slice a n c) M) (h2 : Dg w (.slice a2 n2 c2) N)
    (hlM : (dg 16777216 M).length ≤ 10000000) (_hlN : (dg 16777216 N).length ≤ 10000000) :
    Calls Tryd.prog 48 #[.agg #[.slice a n c], .agg #[.slice a2 n2 c2]] w fun e w' => e = .returned (.int .i64 (cmpN M N)) ∧ Below w.heap.size w w' := by
  unfold Dg at h1 h2
  have hn := h1.len
  have hn2 := h2.len
  have L1 := Lib.hid h1.lt
  have L2 := Lib.hid h2.lt
  have HM := Lib.hid h1
  have HN := Lib.hid h2
  have LT := Lib.hid (fun h => lt_of_len_lt (b := 16777216) (by omega) (m := M) (n := N) h)
  have GT := Lib.hid (fun h => lt_of_len_lt (b := 16777216) (by omega) (m := N) (n := M) h)
  have VM := Lib.hid (show vl 16777216 (dg 16777216 M) = (M : Int) from vl_dg (b := 16777216) (by omega) M)
  have VN := Lib.hid (show vl 16777216 (dg 16777216 N) = (N : Int) from vl_dg (b := 16777216) (by omega) N)
  have MM := Lib.hid (show ∀ x ∈ dg 16777216 M, 0 ≤ x ∧ x < 16777216 from dg_mem (b := 16777216) (by omega) M)
  have MN := Lib.hid (show ∀ x ∈ dg 16777216 N, 0 ≤ x ∧ x < 16777216 from dg_mem (b := 16777216) (by omega) N)
  clear h1 h2
  generalize dg 16777216 M = xs at *
  generalize dg 16777216 N = ys at *
  subst hn; subst hn2
  by_cases hlt : xs.length < ys.length
  · have hc := Lib.hid (show cmpN M N = -1 by unfold cmpN; rw [if_pos (LT.out hlt)])
    go_enter Tryd.func48, Tryd.ntmps48
    go_wp2
    go_ret
    exact ⟨ret_int hc.out.symm, ((Below.refl _ _).alloc (Nat.le_refl _) _).alloc (by go_size) _⟩
  by_cases hgt : ys.length < xs.length
  · have hc := Lib.hid (show cmpN M N = 1 by unfold cmpN; rw [if_neg (by have := GT.out hgt; omega), if_pos (GT.out hgt)])
    go_enter Tryd.func48, Tryd.ntmps48
    go_wp2
    go_ret
    exact ⟨ret_int hc.out.symm, ((Below.refl _ _).alloc (Nat.le_refl _) _).alloc (by go_size) _⟩
  have heq : ys.length = xs.length := by omega
  clear hlt hgt LT GT _hlN
  rw [heq] at HN L2
  go_enter Tryd.func48, Tryd.ntmps48
  rw [heq]
  have HE := Lib.hid heq
  clear heq
  go_wp2
  have hB1 := Lib.hid (((Below.refl w.heap.size w).alloc (Nat.le_refl _) (.cells #[.slice a xs.length c] 25)).alloc (by go_size) (.cells #[.slice a2 xs.length c2] 25))
  have hX0 := Lib.hid ((Box.new' (v := .slice a xs.length c) (t := 25) (w := w) (b := w.heap.size) rfl).alloc (.cells #[.slice a2 xs.length c2] 25))
  have hX1 := Lib.hid (Box.new' (v := .slice a2 xs.length c2) (t := 25) (w := w.alloc (.cells #[.slice a xs.length c] 25)) (b := w.heap.size + 1) (by simp))
  go_loopw [5] (fun ix wr => ∃ (k : Nat), ix = .int .i64 ((k : Int) - 1) ∧ k ≤ xs.length ∧ Hid (xs.drop k = ys.drop k) ∧ Below w.heap.size w wr ∧ Box wr w.heap.size (.slice a xs.length c) 25 ∧ Box wr (w.heap.size + 1) (.slice a2 xs.length c2) 25) (fun ix _ => (intOf ix + 1).toNat)
  case atStart => exact ⟨xs.length, rfl, Nat.le_refl _, by unfold Hid; rw [List.drop_length, List.drop_of_length_le (Nat.le_of_eq HE.out)], hB1.out, hX0.out, hX1.out⟩
  case round =>
    clear hB1 hX0 hX1
    obtain ⟨k, rfl, hk, hd, hB, hX0, hX1⟩ := hrel
    cases k with
    | zero =>
      have HB := Lib.hid hB
      clear hX0 hX1 hB
      go_wp2
      go_ret
      refine ⟨ret_int ?_, HB.out⟩
      have e := hd.out
      rw [List.drop_zero, List.drop_zero] at e
      have e2 : (M : Int) = N := by rw [← VM.out, ← VN.out, e]
      unfold cmpN; rw [if_neg (by omega), if_neg (by omega)]
    | succ k =>
      have b0 := hX0.cell
      have b1 := hX1.cell
      have sx : Sl 2 wr (.slice a xs.length c) xs := HM.out.below hB L1.out
      have sy : Sl 2 wr (.slice a2 xs.length c2) ys := HN.out.below hB L2.out
      obtain ⟨g1, rfl, hg1⟩ := sx.row (by omega)
      have hky : k < ys.length := by rw [HE.out]; omega
      obtain ⟨g2, rfl, hg2⟩ := sy.row (by omega)
      have cx := sx.cell (k := k) (by omega)
      have cy := sy.cell hky
      have HD := Lib.hid hd.out
      have HB := Lib.hid hB
      have HX0 := Lib.hid hX0
      have HX1 := Lib.hid hX1
      clear sx sy hB hX0 hX1 hd
      rw [show ((k + 1 : Nat) : Int) - 1 = (k : Int) from by omega]
      rcases Int.lt_trichotomy xs[k] ys[k] with hl | he | hg
      · have hc := Lib.hid (show cmpN M N = -1 by
          unfold cmpN; rw [if_pos]
          have := vl_lt_of_top (b := 16777216) (by omega) (l := xs) (r := ys) HE.out.symm MM.out MN.out HD.out (by omega) hky hl
          have e1 := VM.out; have e2 := VN.out
          simp only [show ((16777216 : Nat) : Int) = 16777216 from rfl] at this
          omega)
        go_wp2
        go_quiet (fail)
        go_wp2
        go_ret
        exact ⟨ret_int hc.out.symm, Below.drewN HB.out _⟩
      · have hl : ¬ xs[k] < ys[k] := by omega
        have hg : ¬ ys[k] < xs[k] := by omega
        have he' := Lib.hid he
        clear he
        go_wp2
        go_quiet (fail)
        go_wp2
        go_quiet (fail)
        go_wp2
        go_roundw
        case rel => exact ⟨k, rfl, by omega, by
          unfold Hid
          rw [List.drop_eq_getElem_cons (by omega), List.drop_eq_getElem_cons hky, he'.out, HD.out], Below.drewN HB.out _, HX0.out.drewN _, HX1.out.drewN _⟩
        case measure => simp [intOf]
      · have hc := Lib.hid (show cmpN M N = 1 by
          have := vl_lt_of_top (b := 16777216) (by omega) (l := ys) (r := xs) HE.out MN.out MM.out HD.out.symm hky (by omega) hg
          have e1 := VM.out; have e2 := VN.out
          simp only [show ((16777216 : Nat) : Int) = 16777216 from rfl] at this
          unfold cmpN; rw [if_neg (by omega), if_pos (by omega)])
        have hl : ¬ xs[k] < ys[k] := by omega
        go_wp2
        go_quiet (fail)
        go_wp2
        go_quiet (fail)
        go_wp2
        go_ret
        exact ⟨ret_int hc.out.symm, Below.drewN (Below.drewN HB.out _) _⟩

end Go.Proofs.YtnimnoodpnhodaaDoor

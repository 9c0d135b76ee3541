/- the reference's integers: ZCmp, value -/
/- the reference's integers: value -/
/- the reference's integers: ZInt64 -/
/- the reference's integers: what ZQuotient's loops keep; plain -/
import Derived.Test.YtmfplelodnoicaaGreatDoorWO
import Derived.Test.YtmfplelodnoicaaGreatDoorWN
import Derived.Test.YtmfplelodnoicaaGreatDoorWF
namespace Go.Proofs.YtmfplelodnoicaaGreatDoor
open Go.RowKit Dig

section
variable {w : World} {s1 : Int} {a1 : Option Addr} {n1 c1 : Nat} {z1 : Int} {s2 : Int} {a2 : Option Addr} {n2 c2 : Nat} {z2 : Int} {k1 k2 : Nat}
theorem subN_b (h1 : Nz w s1 (.slice a1 n1 c1) z1) (h2 : Nz w s2 (.slice a2 n2 c2) z2) (b1 : Bd k1 z1) (b2 : Bd k2 z2) (hk1 : k1 ≤ 500000) (hk2 : k2 ≤ 500000) :
    Calls Tryz.prog 40 #[.agg #[.int .i64 s1, .slice a1 n1 c1], .agg #[.int .i64 s2, .slice a2 n2 c2]] w (RetN w (z1 - z2)) := by
  rw [Int.sub_eq_add_neg]; exact zsubN_any _ _ _ _ _ _ _ _ _ _ _ h1 h2 k1 k2 b1 b2 hk1 hk2
end

theorem fieldN (w : World) (s : Int) (a : Option Addr) (n c : Nat) : (Instr.field 31 (.agg #[.int .i64 s, .slice a n c]) 0).run Tryz.prog w = .ok (.int .i64 s) w := by
  first | kernel_rfl | rfl | simp [Instr.field, go_sem]

set_option maxRecDepth 100000 in
set_option maxHeartbeats 1000000 in
theorem zcmpN_any (s1 : Int) (a1 : Option Addr) (n1 c1 : Nat) (z1 : Int) (s2 : Int) (a2 : Option Addr) (n2 c2 : Nat) (z2 : Int) (w : World) (h1 : Nz w s1 (.slice a1 n1 c1) z1) (h2 : Nz w s2 (.slice a2 n2 c2) z2) (k1 k2 : Nat) (b1 : Bd k1 z1) (b2 : Bd k2 z2) (hk1 : k1 ≤ 500000) (hk2 : k2 ≤ 500000) :
    Calls Tryz.prog 47 #[.agg #[.int .i64 s1, .slice a1 n1 c1], .agg #[.int .i64 s2, .slice a2 n2 c2]] w (fun e w' => e = .returned (.int .i64 (sgnN (z1 - z2))) ∧ Below w.heap.size w w') := by
  have B1 := Lib.hid b1
  have B2 := Lib.hid b2
  clear b1 b2
  have hf := fieldN
  have hC := Lib.hid (((((St.enter w).pn h1).pn h2).al (w.heap.size) #[.int .i64 s1, .slice a1 n1 c1] 31 rfl rfl).al (w.heap.size + 1) #[.int .i64 s2, .slice a2 n2 c2] 31 (by simp) rfl)
  clear h1 h2
  go_enter Tryz.func47, Tryz.ntmps47
  have hC_c00 := hC.out.cell 0 0 rfl rfl
  have hC_f00 := hC.out.free 0 0 rfl
  have hC_c01 := hC.out.cell 0 1 rfl rfl
  have hC_f01 := hC.out.free 0 1 rfl
  have hC_c10 := hC.out.cell 1 0 rfl rfl
  have hC_f10 := hC.out.free 1 0 rfl
  have hC_c11 := hC.out.cell 1 1 rfl rfl
  have hC_f11 := hC.out.free 1 1 rfl
  go_wp2_with fail
  refine (subN_b (hC.out.n 0 rfl) (hC.out.n 1 rfl) B1.out B2.out (by omega) (by omega)).mono ?_
  rintro e w3 ⟨s3, a3, n3, c3, rfl, hz, hb⟩
  have hC3 := Lib.hid ((hC.out.call hb).pn hz)
  clear hb hz
  clear hC
  go_wp2
  go_ret
  exact ⟨ret_int (hC3.out.n 2 rfl).s, hC3.out.be⟩

end Go.Proofs.YtmfplelodnoicaaGreatDoor
namespace Go.Proofs.YtmfplelodnoicaaGreatDoor
open Go.RowKit Dig

theorem vl_drop {xs : List Int} {k : Nat} (h : k < xs.length) : vl 10000 (xs.drop k) = xs[k] + 10000 * vl 10000 (xs.drop (k + 1)) := by
  rw [List.drop_eq_getElem_cons h, vl]
theorem vl_drop_le {xs : List Int} (hm : ∀ x ∈ xs, 0 ≤ x ∧ x < 10000) (k : Nat) : 0 ≤ vl 10000 (xs.drop k) ∧ vl 10000 (xs.drop k) ≤ vl 10000 xs := by
  have h0 := vl_nonneg (b := 10000) (l := xs.drop k) (fun x hx => (hm x (List.mem_of_mem_drop hx)).1)
  have h1 := vl_nonneg (b := 10000) (l := xs.take k) (fun x hx => (hm x (List.mem_of_mem_take hx)).1)
  have h2 := vl_append 10000 (xs.take k) (xs.drop k)
  rw [List.take_append_drop] at h2
  have h3 : (1 : Int) ≤ 10000 ^ (xs.take k).length := by
    have : (0 : Int) < 10000 ^ (xs.take k).length := Int.pow_pos (by omega)
    omega
  have h4 : 1 * vl 10000 (xs.drop k) ≤ 10000 ^ (xs.take k).length * vl 10000 (xs.drop k) := Int.mul_le_mul_of_nonneg_right h3 h0
  simp only [show ((10000 : Nat) : Int) = 10000 from rfl] at h0 h1
  exact ⟨h0, by omega⟩

set_option maxRecDepth 100000 in
set_option maxHeartbeats 2000000 in
theorem value_any (s1 : Int) (a1 : Option Addr) (n1 c1 : Nat) (z1 : Int) (w : World) (h1 : Nz w s1 (.slice a1 n1 c1) z1) (hz : -9223372036854775808 ≤ z1 ∧ z1 < 9223372036854775808) :
    Calls Tryz.prog 103 #[.agg #[.int .i64 s1, .slice a1 n1 c1]] w fun e w' => e = .returned (.int .i64 z1) ∧ Below w.heap.size w w' := by
  have hn := h1.g.len
  have hC := Lib.hid ((St.enter w).al w.heap.size #[.int .i64 s1, .slice a1 n1 c1] 31 rfl rfl)
  have L1 := Lib.hid h1.g.lt
  have HSB := Lib.hid h1.sb
  have HM := Lib.hid h1.g
  have hlen : (dg 10000 z1.natAbs).length ≤ 5 := dg_len_le (by omega) (by omega)
  have VM := Lib.hid (show vl 10000 (dg 10000 z1.natAbs) = (z1.natAbs : Int) from vl_dg (b := 10000) (by omega) _)
  have MM := Lib.hid (show ∀ x ∈ dg 10000 z1.natAbs, 0 ≤ x ∧ x < 10000 from dg_mem (b := 10000) (by omega) _)
  have HV := Lib.hid (show s1 * vl 10000 (dg 10000 z1.natAbs) = z1 from by rw [VM.out, h1.s]; exact sgn_mul_abs)
  have HZ := Lib.hid hz
  clear h1 hz
  generalize dg 10000 z1.natAbs = xs at *
  subst hn
  go_enter Tryz.func103, Tryz.ntmps103
  go_wp2
  go_loopw [3, 4] (fun nv iv wr => ∃ (k : Nat), iv = .int .i64 ((k : Int) - 1) ∧ nv = .int .i64 (s1 * vl 10000 (xs.drop k)) ∧ k ≤ xs.length ∧
    Hid (St w wr [(w.heap.size, #[.int .i64 s1, .slice a1 xs.length c1], 31)] [])) (fun _ iv _ => (intOf iv + 1).toNat)
  case atStart => exact ⟨xs.length, rfl, by rw [List.drop_length]; simp [vl], Nat.le_refl _, hC.out⟩
  case round =>
    clear hC
    obtain ⟨k, rfl, rfl, hk, hC⟩ := hrel
    cases k with
    | zero =>
      rw [List.drop_zero, HV.out]
      go_wp2
      go_ret
      exact ⟨rfl, hC.out.be⟩
    | succ k =>
      have hlt : k < xs.length := by omega
      have sx := HM.out.below hC.out.be L1.out
      obtain ⟨g1, rfl, hg1⟩ := sx.row (by omega)
      have cx := Lib.hid (sx.cell (k := k) hlt)
      have hd := vl_drop hlt
      have hb := vl_drop_le MM.out k
      have hb1 := vl_drop_le MM.out (k + 1)
      have bX := MM.out _ (List.getElem_mem hlt)
      have hsb := HSB.out
      have hzz := HZ.out
      have hv := HV.out
      have HD := Lib.hid hd
      obtain ⟨X, hX⟩ : ∃ X : Int, X = xs[k] := ⟨_, rfl⟩
      obtain ⟨V, hV⟩ : ∃ V : Int, V = vl 10000 (xs.drop (k + 1)) := ⟨_, rfl⟩
      rw [← hX] at cx bX hd
      rw [← hV] at hd hb1 ⊢
      rw [hd] at hb
      have hall : -9223372036854775808 ≤ s1 * V * 10000 ∧ s1 * V * 10000 < 9223372036854775808 ∧ -10000 ≤ s1 * X ∧ s1 * X ≤ 10000 ∧ -9223372036854775808 ≤ s1 * V * 10000 + s1 * X ∧ s1 * V * 10000 + s1 * X < 9223372036854775808 ∧ -9223372036854775808 ≤ s1 * V ∧ s1 * V < 9223372036854775808 := by
        rcases hsb with h | h | h <;> rw [h] at hv ⊢ <;> omega
      obtain ⟨N, hN⟩ : ∃ N : Int, N = s1 * V := ⟨_, rfl⟩
      rw [← hN] at hall ⊢
      obtain ⟨q1, q2, q3, q4, q5, q6, q7, q8⟩ := hall
      have j1 : IntKind.i64.wrap (N * 10000) = N * 10000 := IntWalk.i64_in _ (by omega)
      have j2 : IntKind.i64.wrap (s1 * X) = s1 * X := IntWalk.i64_in _ (by omega)
      have j3 : IntKind.i64.wrap (N * 10000 + s1 * X) = N * 10000 + s1 * X := IntWalk.i64_in _ (by omega)
      have HX := Lib.hid hX
      have HVV := Lib.hid hV
      have HN := Lib.hid hN
      have i1 : (0 : Int) ≤ (k : Int) := by omega
      have i2 : (k : Int) < (xs.length : Int) := by omega
      clear hX hV hN sx hd hb hb1 hv hsb hzz bX
      rw [show ((k + 1 : Nat) : Int) - 1 = (k : Int) from by omega]
      go_wp2
      go_region_held3 (fun w' => w'.cell? ⟨w.heap.size, 0, none⟩ = some (.int .i64 s1) ∧ w'.cell? ⟨w.heap.size, 1, none⟩ = some (.slice (some ⟨g1, 0, none⟩) xs.length c1) ∧ w'.cell? ⟨g1, k, none⟩ = some (.int .i64 X))
        (exact ⟨hC.out.drew.cell 0 0 rfl rfl, hC.out.drew.cell 0 1 rfl rfl, cx.out⟩) (fail)
      go_wp2
      go_roundw
      case rel =>
        refine ⟨k, rfl, ?_, by omega, hC.out.drew⟩
        congr 1
        rw [HD.out, ← HVV.out, ← HX.out, HN.out]
        grind
      case measure => simp [intOf]

end Go.Proofs.YtmfplelodnoicaaGreatDoor
namespace Go.Proofs.YtmfplelodnoicaaGreatDoor
open Go.RowKit Dig

/-- what ZInt64 answers -/
def i64resN (z : Int) : Int × Bool := if -9223372036854775808 ≤ z ∧ z ≤ 9223372036854775807 then (z, true) else (0, false)
theorem sgnN_neg {z : Int} (h : z < 0) : sgnN z = -1 := by unfold sgnN; rw [if_neg (by omega), if_pos h]
theorem sgnN_nonneg {z : Int} (h : 0 ≤ z) : 0 ≤ sgnN z := by unfold sgnN; split; omega; split <;> omega
theorem sgnN_pos {z : Int} (h : 0 < z) : sgnN z = 1 := by unfold sgnN; rw [if_neg (by omega), if_neg (by omega)]
theorem sgnN_nonpos {z : Int} (h : z ≤ 0) : sgnN z ≤ 0 := by unfold sgnN; split; omega; split <;> omega
section
variable {w : World} {s1 : Int} {a1 : Option Addr} {n1 c1 : Nat} {z1 : Int} {s2 : Int} {a2 : Option Addr} {n2 c2 : Nat} {z2 : Int} {k1 k2 : Nat}
theorem cmpN_b (h1 : Nz w s1 (.slice a1 n1 c1) z1) (h2 : Nz w s2 (.slice a2 n2 c2) z2) (b1 : Bd k1 z1) (b2 : Bd k2 z2) (hk1 : k1 ≤ 500000) (hk2 : k2 ≤ 500000) :
    Calls Tryz.prog 47 #[.agg #[.int .i64 s1, .slice a1 n1 c1], .agg #[.int .i64 s2, .slice a2 n2 c2]] w fun e w' => e = .returned (.int .i64 (sgnN (z1 - z2))) ∧ Below w.heap.size w w' := zcmpN_any _ _ _ _ _ _ _ _ _ _ _ h1 h2 k1 k2 b1 b2 hk1 hk2
end

set_option maxRecDepth 100000 in
set_option maxHeartbeats 2000000 in
theorem zint64N_any (s : Int) (a : Option Addr) (n c : Nat) (z : Int) (w : World) (h : Nz w s (.slice a n c) z) (k : Nat) (hb : Bd k z) (hk : k ≤ 500000) :
    Calls Tryz.prog 34 #[.agg #[.int .i64 s, .slice a n c]] w fun e w' => e = .returned (.tuple #[.int .i64 (i64resN z).1, .bool (i64resN z).2]) ∧ Below w.heap.size w w' := by
  have hC := Lib.hid (((St.enter w).pn h).al w.heap.size #[.int .i64 s, .slice a n c] 31 rfl rfl)
  have HB := Lib.hid hb
  clear h hb
  by_cases h1 : z < -9223372036854775808
  · have V1 := Lib.hid (sgnN_neg (z := z - -9223372036854775808) (by omega))
    have HR := Lib.hid (show i64resN z = (0, false) from by unfold i64resN; rw [if_neg (by omega)])
    clear h1
    go_enter Tryz.func34, Tryz.ntmps34
    have x0 := hC.out.cell 0 0 rfl rfl
    have x1 := hC.out.cell 0 1 rfl rfl
    go_wp2
    go_region_with (first
      | (have _t := hCa; go_at_call 47; refine (cmpN_b (hCa.out.n 0 rfl) (hCa.out.n 1 rfl) HB.out (Bd.i64 (k := -9223372036854775808) (by omega)) hk (by omega)).mono ?_; rintro e wb ⟨rfl, hb⟩; have hCb := Lib.hid (hCa.out.call hb); clear hb; rw [V1.out]; clear _t)
      | (have _t := hC; go_at_call 36; refine (zint_any (-9223372036854775808) (by omega) _).mono ?_; rintro e wa ⟨sa, aa, na, ca, rfl, hza, hb⟩; have hCa := Lib.hid ((hC.out.drew.call hb).pn hza); clear hza hb; clear _t; have y0 := hCa.out.cell 0 0 rfl rfl; have y1 := hCa.out.cell 0 1 rfl rfl))
    all_goals
      go_wp2
      go_ret2
      exact ⟨by rw [HR.out]; rfl, hCb.out.be⟩
  · obtain ⟨v, hv⟩ : ∃ v : Int, sgnN (z - -9223372036854775808) = v := ⟨_, rfl⟩
    have d1 : decide (v < 0) = false := by have := sgnN_nonneg (z := z - -9223372036854775808) (by omega); simp; omega
    have V1 := Lib.hid hv
    clear hv
    by_cases h2 : 9223372036854775807 < z
    · have V2 := Lib.hid (sgnN_pos (z := z - 9223372036854775807) (by omega))
      have HR := Lib.hid (show i64resN z = (0, false) from by unfold i64resN; rw [if_neg (by omega)])
      clear h1 h2
      go_enter Tryz.func34, Tryz.ntmps34
      go_wp2
      go_region_held3 (fun w' => w'.cell? ⟨w.heap.size, 0, none⟩ = some (.int .i64 s) ∧ w'.cell? ⟨w.heap.size, 1, none⟩ = some (.slice a n c) ∧ True)
        (first
          | (with_reducible refine And.intro (?_ : World.cell? wd _ = _) ?_; exact hCd.out.cell 0 0 rfl rfl; exact ⟨hCd.out.cell 0 1 rfl rfl, trivial⟩)
          | (with_reducible refine And.intro (?_ : World.cell? wc _ = _) ?_; exact hCc.out.cell 0 0 rfl rfl; exact ⟨hCc.out.cell 0 1 rfl rfl, trivial⟩)
          | (with_reducible refine And.intro (?_ : World.cell? wb _ = _) ?_; exact hCb.out.cell 0 0 rfl rfl; exact ⟨hCb.out.cell 0 1 rfl rfl, trivial⟩)
          | (with_reducible refine And.intro (?_ : World.cell? wa _ = _) ?_; exact hCa.out.cell 0 0 rfl rfl; exact ⟨hCa.out.cell 0 1 rfl rfl, trivial⟩)
          | (with_reducible refine And.intro (?_ : World.cell? _ _ = _) ?_; exact hC.out.drew.cell 0 0 rfl rfl; exact ⟨hC.out.drew.cell 0 1 rfl rfl, trivial⟩))
        (first
          | (have _t := hCc; go_at_call 47; refine (cmpN_b (hCc.out.n 0 rfl) (hCc.out.n 2 rfl) HB.out (Bd.i64 (k := 9223372036854775807) (by omega)) hk (by omega)).mono ?_; rintro e wd ⟨rfl, hb⟩; have hCd := Lib.hid (hCc.out.call hb); clear hb; rw [V2.out]; clear _t hCc)
          | (have _t := hCb; go_at_call 36; refine (zint_any 9223372036854775807 (by omega) _).mono ?_; rintro e wc ⟨sc, ac, nc, cc, rfl, hzc, hb⟩; have hCc := Lib.hid ((hCb.out.call hb).pn hzc); clear hzc hb; clear _t hCb)
          | (have _t := hCa; go_at_call 47; refine (cmpN_b (hCa.out.n 0 rfl) (hCa.out.n 1 rfl) HB.out (Bd.i64 (k := -9223372036854775808) (by omega)) hk (by omega)).mono ?_; rintro e wb ⟨rfl, hb⟩; have hCb := Lib.hid (hCa.out.call hb); clear hb; rw [V1.out]; clear _t hCa)
          | (have _t := hC; go_at_call 36; refine (zint_any (-9223372036854775808) (by omega) _).mono ?_; rintro e wa ⟨sa, aa, na, ca, rfl, hza, hb⟩; have hCa := Lib.hid ((hC.out.drew.call hb).pn hza); clear hza hb; clear _t hC)
          | fail)
      go_wp2
      go_ret2
      exact ⟨by rw [HR.out]; rfl, hCd.out.be⟩
    · obtain ⟨v2, hv2⟩ : ∃ v : Int, sgnN (z - 9223372036854775807) = v := ⟨_, rfl⟩
      have d2 : decide (0 < v2) = false := by have := sgnN_nonpos (z := z - 9223372036854775807) (by omega); simp; omega
      have V2 := Lib.hid hv2
      clear hv2
      have HR := Lib.hid (show i64resN z = (z, true) from by unfold i64resN; rw [if_pos (by omega)])
      have HZ := Lib.hid (show -9223372036854775808 ≤ z ∧ z < 9223372036854775808 from by omega)
      clear h1 h2
      go_enter Tryz.func34, Tryz.ntmps34
      go_wp2
      go_region_held3 (fun w' => w'.cell? ⟨w.heap.size, 0, none⟩ = some (.int .i64 s) ∧ w'.cell? ⟨w.heap.size, 1, none⟩ = some (.slice a n c) ∧ True)
        (first
          | (with_reducible refine And.intro (?_ : World.cell? wd _ = _) ?_; exact hCd.out.cell 0 0 rfl rfl; exact ⟨hCd.out.cell 0 1 rfl rfl, trivial⟩)
          | (with_reducible refine And.intro (?_ : World.cell? wc _ = _) ?_; exact hCc.out.cell 0 0 rfl rfl; exact ⟨hCc.out.cell 0 1 rfl rfl, trivial⟩)
          | (with_reducible refine And.intro (?_ : World.cell? wb _ = _) ?_; exact hCb.out.cell 0 0 rfl rfl; exact ⟨hCb.out.cell 0 1 rfl rfl, trivial⟩)
          | (with_reducible refine And.intro (?_ : World.cell? wa _ = _) ?_; exact hCa.out.cell 0 0 rfl rfl; exact ⟨hCa.out.cell 0 1 rfl rfl, trivial⟩)
          | (with_reducible refine And.intro (?_ : World.cell? _ _ = _) ?_; exact hC.out.drew.cell 0 0 rfl rfl; exact ⟨hC.out.drew.cell 0 1 rfl rfl, trivial⟩))
        (first
          | (have _t := hCc; go_at_call 47; refine (cmpN_b (hCc.out.n 0 rfl) (hCc.out.n 2 rfl) HB.out (Bd.i64 (k := 9223372036854775807) (by omega)) hk (by omega)).mono ?_; rintro e wd ⟨rfl, hb⟩; have hCd := Lib.hid (hCc.out.call hb); clear hb; rw [V2.out]; clear _t hCc)
          | (have _t := hCb; go_at_call 36; refine (zint_any 9223372036854775807 (by omega) _).mono ?_; rintro e wc ⟨sc, ac, nc, cc, rfl, hzc, hb⟩; have hCc := Lib.hid ((hCb.out.call hb).pn hzc); clear hzc hb; clear _t hCb)
          | (have _t := hCa; go_at_call 47; refine (cmpN_b (hCa.out.n 0 rfl) (hCa.out.n 1 rfl) HB.out (Bd.i64 (k := -9223372036854775808) (by omega)) hk (by omega)).mono ?_; rintro e wb ⟨rfl, hb⟩; have hCb := Lib.hid (hCa.out.call hb); clear hb; rw [V1.out]; clear _t hCa)
          | (have _t := hC; go_at_call 36; refine (zint_any (-9223372036854775808) (by omega) _).mono ?_; rintro e wa ⟨sa, aa, na, ca, rfl, hza, hb⟩; have hCa := Lib.hid ((hC.out.drew.call hb).pn hza); clear hza hb; clear _t hC)
          | fail)
      have x0 := hCd.out.cell 0 0 rfl rfl
      have x1 := hCd.out.cell 0 1 rfl rfl
      go_wp2_with fail
      refine (value_any _ _ _ _ _ _ (hCd.out.n 0 rfl) HZ.out).mono ?_
      rintro e we ⟨rfl, hb⟩
      have hCe := Lib.hid (hCd.out.call hb)
      clear hb x0 x1
      go_wp2
      go_ret2
      exact ⟨by rw [HR.out]; rfl, hCe.out.be⟩

end Go.Proofs.YtmfplelodnoicaaGreatDoor
namespace Go.Proofs.YtmfplelodnoicaaGreatDoor
open Go.RowKit Dig

/-- the groups from k on are divided: L has their quotient, R is the rest -/
structure QI (xs : List Int) (D : Nat) (L : List Int) (k R : Nat) : Prop where
  len : L.length = xs.length
  val : vl 10000 (xs.drop k) = vl 10000 (L.drop k) * (D : Int) + (R : Int)
  lt : R < D
  rng : ∀ x ∈ L, 0 ≤ x ∧ x < 10000

theorem QI.start {xs : List Int} {D : Nat} (hD : 0 < D) : QI xs D (List.replicate xs.length 0) xs.length 0 :=
  ⟨by simp, by simp [vl], hD, fun x hx => by have := List.eq_of_mem_replicate hx; omega⟩
/-- the next rest, before it is divided -/
theorem QI.step {xs L : List Int} {D k R : Nat} (h : QI xs D L (k + 1) R) (hk : k < xs.length) (hx : 0 ≤ xs[k] ∧ xs[k] < 10000) :
    QI xs D (L.set k (((xs[k].toNat + 10000 * R) / D : Nat) : Int)) k ((xs[k].toNat + 10000 * R) % D) := by
  have hD : 0 < D := Nat.lt_of_le_of_lt (Nat.zero_le _) h.lt
  have hL : k < L.length := by rw [h.len]; exact hk
  have hq : (xs[k].toNat + 10000 * R) / D < 10000 := by
    rw [Nat.div_lt_iff_lt_mul hD]
    have := Nat.mul_le_mul_left 10000 (show R + 1 ≤ D from h.lt)
    omega
  refine ⟨by rw [List.length_set, h.len], ?_, Nat.mod_lt _ hD, fun x hx' => ?_⟩
  · rw [vl_drop hk, List.drop_eq_getElem_cons (show k < (L.set k _).length by rw [List.length_set]; exact hL), vl_cons, List.getElem_set_self, List.drop_set_of_lt (by omega), h.val]
    have e := Nat.div_add_mod (xs[k].toNat + 10000 * R) D
    have e2 : ((D * ((xs[k].toNat + 10000 * R) / D) + (xs[k].toNat + 10000 * R) % D : Nat) : Int) = xs[k] + 10000 * (R : Int) := by
      rw [e]; have := hx.1; omega
    rw [Int.natCast_add, Int.natCast_mul] at e2
    grind
  · rcases List.mem_or_eq_of_mem_set hx' with h' | h'
    · exact h.rng x h'
    · subst h'
      exact ⟨Int.natCast_nonneg _, by omega⟩
theorem QI.fin {xs L : List Int} {D R : Nat} (h : QI xs D L 0 R) {N : Nat} (hN : vl 10000 xs = N) : vl 10000 L = ((N / D : Nat) : Int) ∧ R = N % D := by
  have hv := h.val
  rw [List.drop_zero, List.drop_zero, hN] at hv
  have h0 := vl_nonneg (b := 10000) (l := L) (fun x hx => (h.rng x hx).1)
  simp only [show ((10000 : Nat) : Int) = 10000 from rfl] at h0
  obtain ⟨V, hV⟩ := Int.eq_ofNat_of_zero_le h0
  rw [hV] at hv ⊢
  have hn : N = V * D + R := by
    have : ((V * D + R : Nat) : Int) = N := by rw [Int.natCast_add, Int.natCast_mul]; exact hv.symm
    omega
  have hD : 0 < D := Nat.lt_of_le_of_lt (Nat.zero_le _) h.lt
  constructor
  · rw [hn, Nat.mul_comm, Nat.mul_add_div hD, Nat.div_eq_of_lt h.lt, Nat.add_zero]
  · rw [hn, Nat.mul_comm, Nat.mul_add_mod, Nat.mod_eq_of_lt h.lt]

/-- the rest with the next group ahead: as groups -/
theorem rest_vl (x : Int) (R : Nat) (hx : 0 ≤ x) : vl 10000 (x :: dg 10000 R) = ((x.toNat + 10000 * R : Nat) : Int) := by
  have := vl_dg (b := 10000) (by omega) R
  simp only [show ((10000 : Nat) : Int) = 10000 from rfl] at this
  rw [vl_cons, this]; omega

/-- what halving keeps -/
structure HalveN (D N low high : Nat) : Prop where
  lo : D * low ≤ N
  hi : N < D * high
  lt : low < high
  le : high ≤ 10000
theorem HalveN.start {D N R : Nat} {x : Nat} (h : R < D) (hx : x < 10000) (hN : N = x + 10000 * R) : HalveN D N 0 10000 :=
  ⟨by omega, by have := Nat.mul_le_mul_left 10000 (show R + 1 ≤ D from h); rw [Nat.mul_comm D]; omega, by omega, by omega⟩
theorem HalveN.up {D N low high m : Nat} (h : HalveN D N low high) (hm : D * m ≤ N) (h2 : m < high) : HalveN D N m high := ⟨hm, h.hi, h2, h.le⟩
theorem HalveN.dn {D N low high m : Nat} (h : HalveN D N low high) (hm : N < D * m) (h2 : low < m) (h3 : m < high) : HalveN D N low m := ⟨h.lo, hm, h2, by have := h.le; omega⟩
theorem HalveN.fin {D N low high : Nat} (h : HalveN D N low high) (he : high - low ≤ 1) : low = N / D ∧ N - D * low = N % D := by
  have hl := h.lt
  have e : high = low + 1 := by omega
  have h1 := h.lo
  have h2 := h.hi
  rw [e, Nat.mul_add, Nat.mul_one] at h2
  have e1 : N / D = low := by
    rw [Nat.div_eq_iff (by omega)]
    rw [Nat.mul_comm low D]
    omega
  refine ⟨e1.symm, ?_⟩
  have := Nat.div_add_mod N D
  rw [e1] at this
  omega
/-- the reference's answer is Lean's -/
theorem nquot {a d : Int} (hd : d ≠ 0) :
    (¬ (a < 0 ∧ a.natAbs % d.natAbs ≠ 0) → a / d = (if d < 0 then -(sgnN a * ((a.natAbs / d.natAbs : Nat) : Int)) else sgnN a * ((a.natAbs / d.natAbs : Nat) : Int)) ∧ a % d = ((a.natAbs % d.natAbs : Nat) : Int)) ∧
    (a < 0 ∧ a.natAbs % d.natAbs ≠ 0 → a / d = (if d < 0 then -(sgnN a * ((a.natAbs / d.natAbs : Nat) : Int) - 1) else sgnN a * ((a.natAbs / d.natAbs : Nat) : Int) - 1) ∧ a % d = (d.natAbs : Int) - ((a.natAbs % d.natAbs : Nat) : Int)) := by
  by_cases ha : a < 0
  · have hs : sgnN a = -1 := by unfold sgnN; rw [if_neg (by omega), if_pos ha]
    rw [hs, Int.neg_one_mul]
    constructor
    · intro h
      have h0 : a.natAbs % d.natAbs = 0 := by
        rcases Nat.eq_zero_or_pos (a.natAbs % d.natAbs) with h' | h'
        · exact h'
        · exact absurd ⟨ha, by omega⟩ h
      exact q_0 (by simpa using ha) hd h0
    · intro h
      exact q_1 (by simpa using ha) hd h.2
  · constructor
    · intro _
      obtain ⟨x, y, z⟩ := q_pos (z := a) (by simpa using ha) hd
      have := ediv_of x y z
      by_cases h0 : a = 0
      · subst h0
        have hs : sgnN 0 = 0 := rfl
        rw [hs] at *
        simp
      · have hs : sgnN a = 1 := by unfold sgnN; rw [if_neg h0, if_neg ha]
        rw [hs, Int.one_mul]; exact this
    · intro h; exact absurd h.1 ha

end Go.Proofs.YtmfplelodnoicaaGreatDoor

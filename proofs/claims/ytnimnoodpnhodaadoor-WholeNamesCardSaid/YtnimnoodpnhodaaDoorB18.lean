/- the law WholeNames: its walk -/
import Derived.Test.YtnimnoodpnhodaaDoorB2
import Derived.Test.YtnimnoodpnhodaaDoorBZ
import Derived.Test.YtnimnoodpnhodaaDoorV2
import Derived.Test.YtnimnoodpnhodaaDoorS2
import Derived.Test.YtnimnoodpnhodaaDoorS3
import Derived.Deep.CutBlock
namespace Go.Proofs.YtnimnoodpnhodaaDoor
open Go.RowKit Dig

section
variable {w : World} {a1 : Option Addr} {n1 c1 : Nat} {m1 : Bool} {d1 : Option Addr} {e1 f1 : Nat} {q1 : Rat} {a2 : Option Addr} {n2 c2 : Nat} {m2 : Bool} {d2 : Option Addr} {e2 f2 : Nat} {q2 : Rat} {k1 k2 : Nat}
theorem rsign_z (h1 : Rd w (.slice a1 n1 c1) m1 (.slice d1 e1 f1) 0) : Calls Tryd.prog 7 #[.agg #[.slice a1 n1 c1, .bool m1, .slice d1 e1 f1]] w fun e w' => e = .returned (.int .i64 0) ∧ Below w.heap.size w w' := rsign_any _ _ _ _ _ _ _ _ _ h1
theorem rdiv_0 (h1 : Rd w (.slice a1 n1 c1) m1 (.slice d1 e1 f1) q1) (h2 : Rd w (.slice a2 n2 c2) m2 (.slice d2 e2 f2) 0) (b1 : Bq k1 q1) (hk1 : k1 ≤ 40000) :
    Calls Tryd.prog 10 #[.agg #[.slice a1 n1 c1, .bool m1, .slice d1 e1 f1], .agg #[.slice a2 n2 c2, .bool m2, .slice d2 e2 f2]] w (RetRE w 0 9) := by
  have := rdiv_any _ _ _ _ _ _ _ _ _ _ _ _ _ _ _ _ _ h1 h2 k1 1 b1 Bq.zero hk1 (by omega)
  have e : (q1.den : Int) * (0 : Rat).num = 0 := by simp
  rw [e, Rat.divInt_zero] at this
  exact this
theorem ratio_0 {x : Int} (hx : -9223372036854775808 ≤ x ∧ x < 9223372036854775808) : Calls Tryd.prog 8 #[.int .i64 x, .int .i64 0] w (RetRE w 0 9) := by
  have := ratioI_any x 0 hx (by omega) w
  rwa [Rat.divInt_zero] at this
theorem int64_is {z v : Int} {o : Bool} (h1 : Zd w (.slice a1 n1 c1) m1 z) (b1 : Bd k1 z) (hk1 : k1 ≤ 1000000) (hv : i64res z = (v, o)) : Calls Tryd.prog 24 #[.agg #[.slice a1 n1 c1, .bool m1]] w fun e w' => e = .returned (.tuple #[.int .i64 v, .bool o]) ∧ Below w.heap.size w w' := by
  have := int64_any _ _ _ _ _ w h1 _ b1 hk1
  rwa [hv] at this
end
theorem cross12 : ((((1 : Int) : Rat), ((2 : Int) : Rat)).1 * (((3 : Int) : Rat), ((4 : Int) : Rat)).2 - (((1 : Int) : Rat), ((2 : Int) : Rat)).2 * (((3 : Int) : Rat), ((4 : Int) : Rat)).1) = ((-2 : Int) : Rat) := by
  dsimp only
  rw [← Rat.intCast_mul, ← Rat.intCast_mul, ← Rat.intCast_sub]
  rfl
theorem dot12 : ((((1 : Int) : Rat), ((2 : Int) : Rat)).1 * (((3 : Int) : Rat), ((4 : Int) : Rat)).1 + (((1 : Int) : Rat), ((2 : Int) : Rat)).2 * (((3 : Int) : Rat), ((4 : Int) : Rat)).2) = ((11 : Int) : Rat) := by
  dsimp only
  rw [← Rat.intCast_mul, ← Rat.intCast_mul, ← Rat.intCast_add]
  rfl
theorem vtext_is0 {w : World} {a1 : Option Addr} {n1 c1 : Nat} {m1 : Bool} {d1 : Option Addr} {e1 f1 : Nat} {u1 : Option Addr} {x1 y1 : Nat} {p1 : Bool} {t1 : Option Addr} {o1 l1 : Nat} {v1 : Rat × Rat} {k1 : Nat} (h1 : Vd w (.slice a1 n1 c1) m1 (.slice d1 e1 f1) (.slice u1 x1 y1) p1 (.slice t1 o1 l1) v1) (b1 : Bv k1 v1) (hk1 : k1 ≤ 10000) {B : ByteArray} (hB : vtext v1 = B.data.toList) :
    Calls Tryd.prog 27 #[.agg #[.slice a1 n1 c1, .bool m1, .slice d1 e1 f1, .slice u1 x1 y1, .bool p1, .slice t1 o1 l1]] w fun e w' => e = .returned (.string B) ∧ Below w.heap.size w w' := by
  have := vtext_any _ _ _ _ _ _ _ _ _ _ _ _ _ _ _ _ h1 _ b1 hk1
  rw [ba_of hB] at this
  exact this
def fac : Nat → Nat
  | 0 => 1
  | n + 1 => fac n * (n + 1)
theorem fac_mono : ∀ {k n : Nat}, k ≤ n → fac k ≤ fac n
  | k, 0, h => by rw [show k = 0 by omega]; exact Nat.le_refl _
  | k, n + 1, h => by
    by_cases e : k = n + 1
    · subst e; exact Nat.le_refl _
    · exact Nat.le_trans (fac_mono (show k ≤ n by omega)) (Nat.le_mul_of_pos_right _ (by omega))
theorem fac25 : fac 25 = 15511210043330985984000000 := by kernel_rfl
theorem fac_bd {k : Nat} (h : k ≤ 25) : Bd 90 ((fac k : Nat) : Int) := by
  have := fac_mono h
  rw [fac25] at this
  unfold Bd
  rw [Int.natAbs_natCast]
  exact Nat.lt_of_le_of_lt this (by decide)
theorem bdl {n : Nat} {z : Int} (h : z.natAbs < 2 ^ n) : Bd n z := h
def names1 : Array Value := #[.string ⟨#[]⟩, .string ⟨#[45]⟩, .string ⟨#[48, 48, 55]⟩, .string ⟨#[43, 49]⟩, .string ⟨#[49, 46, 53]⟩, .string ⟨#[45, 45, 49]⟩, .string ⟨#[32, 49]⟩, .string ⟨#[49, 32]⟩, .string ⟨#[48, 120, 49]⟩, .string ⟨#[45, 48, 49]⟩]
theorem names1_at : ∀ k, k < 10 → ∃ T : ByteArray, names1[k]? = some (.string T) ∧ (zres T.data.toList = (0, 4) ∧ rparse T.data.toList = (0, 4)) ∧ T.size ≤ 100000 := by
  intro k hk
  match k, hk with
  | 0, _ => exact ⟨⟨#[]⟩, rfl, ⟨by kernel_rfl, by kernel_rfl⟩, by decide⟩
  | 1, _ => exact ⟨⟨#[45]⟩, rfl, ⟨by kernel_rfl, by kernel_rfl⟩, by decide⟩
  | 2, _ => exact ⟨⟨#[48, 48, 55]⟩, rfl, ⟨by kernel_rfl, by kernel_rfl⟩, by decide⟩
  | 3, _ => exact ⟨⟨#[43, 49]⟩, rfl, ⟨by kernel_rfl, by kernel_rfl⟩, by decide⟩
  | 4, _ => exact ⟨⟨#[49, 46, 53]⟩, rfl, ⟨by kernel_rfl, by kernel_rfl⟩, by decide⟩
  | 5, _ => exact ⟨⟨#[45, 45, 49]⟩, rfl, ⟨by kernel_rfl, by kernel_rfl⟩, by decide⟩
  | 6, _ => exact ⟨⟨#[32, 49]⟩, rfl, ⟨by kernel_rfl, by kernel_rfl⟩, by decide⟩
  | 7, _ => exact ⟨⟨#[49, 32]⟩, rfl, ⟨by kernel_rfl, by kernel_rfl⟩, by decide⟩
  | 8, _ => exact ⟨⟨#[48, 120, 49]⟩, rfl, ⟨by kernel_rfl, by kernel_rfl⟩, by decide⟩
  | 9, _ => exact ⟨⟨#[45, 48, 49]⟩, rfl, ⟨by kernel_rfl, by kernel_rfl⟩, by decide⟩
  | k + 10, h => exact absurd h (by omega)
def names2 : Array Value := #[.string ⟨#[49, 47, 45, 50]⟩, .string ⟨#[49, 47]⟩, .string ⟨#[47, 50]⟩, .string ⟨#[49, 47, 48, 50]⟩, .string ⟨#[49, 47, 50, 47, 51]⟩, .string ⟨#[49, 47, 43, 50]⟩]
theorem names2_at : ∀ k, k < 6 → ∃ T : ByteArray, names2[k]? = some (.string T) ∧ rparse T.data.toList = (0, 4) ∧ T.size ≤ 100000 := by
  intro k hk
  match k, hk with
  | 0, _ => exact ⟨⟨#[49, 47, 45, 50]⟩, rfl, by kernel_rfl, by decide⟩
  | 1, _ => exact ⟨⟨#[49, 47]⟩, rfl, by kernel_rfl, by decide⟩
  | 2, _ => exact ⟨⟨#[47, 50]⟩, rfl, by kernel_rfl, by decide⟩
  | 3, _ => exact ⟨⟨#[49, 47, 48, 50]⟩, rfl, by kernel_rfl, by decide⟩
  | 4, _ => exact ⟨⟨#[49, 47, 50, 47, 51]⟩, rfl, by kernel_rfl, by decide⟩
  | 5, _ => exact ⟨⟨#[49, 47, 43, 50]⟩, rfl, by kernel_rfl, by decide⟩
  | k + 6, h => exact absurd h (by omega)
theorem big_q : (15511210043330985984000000 : Int) / 9999999967 = 1551121009451797 := by decide
theorem big_m : (15511210043330985984000000 : Int) % 9999999967 = 9295909301 := by decide
theorem big_e : (1551121009451797 : Int) * 9999999967 + 9295909301 = 15511210043330985984000000 := by decide
theorem p10 : rparse [49, 47, 48] = (0, 9) := by kernel_rfl
theorem pm07 : rparse [45, 48, 47, 55] = (0, 0) := by kernel_rfl
theorem pm72 : rparse [45, 55, 47, 50] = ((⟨-7, 2, by decide, by decide⟩ : Rat), 0) := by kernel_rfl
theorem zm0 : zres [45, 48] = (0, 0) := by kernel_rfl
theorem z99 : zres [57, 57, 57, 57, 57, 57, 57, 57, 54, 55] = (9999999967, 0) := by kernel_rfl
theorem t_0 : Dec.ztext (0) = [48] := ztext_pos (n := 0) (by decide) (by decide)
theorem t_1 : Dec.ztext (1) = [49] := ztext_pos (n := 1) (by decide) (by decide)
theorem t_4 : Dec.ztext (4) = [52] := ztext_pos (n := 4) (by decide) (by decide)
theorem t_5 : Dec.ztext (5) = [53] := ztext_pos (n := 5) (by decide) (by decide)
theorem t_m3 : Dec.ztext (-3) = [45, 51] := ztext_neg (n := 3) (by decide) (by decide) (by decide)
theorem t_m4 : Dec.ztext (-4) = [45, 52] := ztext_neg (n := 4) (by decide) (by decide) (by decide)
theorem t_2 : Dec.ztext (2) = [50] := ztext_pos (n := 2) (by decide) (by decide)
theorem t_11 : Dec.ztext (11) = [49, 49] := ztext_pos (n := 11) (by decide) (by decide)
theorem t_m2 : Dec.ztext (-2) = [45, 50] := ztext_neg (n := 2) (by decide) (by decide) (by decide)
theorem t_big : Dec.ztext (15511210043330985984000000) = [49, 53, 53, 49, 49, 50, 49, 48, 48, 52, 51, 51, 51, 48, 57, 56, 53, 57, 56, 52, 48, 48, 48, 48, 48, 48] := ztext_pos (n := 15511210043330985984000000) (by decide) (by decide)
theorem r_0 : rtext ((0 : Int) : Rat) = [48] := by
  unfold rtext
  rw [if_pos (by kernel_rfl), Rat.num_intCast]
  exact t_0
theorem r_1 : rtext ((1 : Int) : Rat) = [49] := by
  unfold rtext
  rw [if_pos (by kernel_rfl), Rat.num_intCast]
  exact t_1
theorem r_2 : rtext ((2 : Int) : Rat) = [50] := by
  unfold rtext
  rw [if_pos (by kernel_rfl), Rat.num_intCast]
  exact t_2
theorem r_11 : rtext ((11 : Int) : Rat) = [49, 49] := by
  unfold rtext
  rw [if_pos (by kernel_rfl), Rat.num_intCast]
  exact t_11
theorem r_m2 : rtext ((-2 : Int) : Rat) = [45, 50] := by
  unfold rtext
  rw [if_pos (by kernel_rfl), Rat.num_intCast]
  exact t_m2
theorem vt12 : vtext (((1 : Int) : Rat), ((2 : Int) : Rat)) = [40, 49, 44, 32, 50, 41] := by
  unfold vtext
  rw [r_1, r_2]
  rfl

set_option maxRecDepth 100000 in
set_option maxHeartbeats 0 in
theorem wholeNames_walk (w : World) :
    Calls Tryd.prog 3 #[] w (fun e w' => e = .returned (.bool true) ∧ Below w.heap.size w w') := by
  go_enter Tryd.func3, Tryd.ntmps3
  go_upto_block 0 with fail
  have hC := Lib.hid (((St.enter w).row (o := .cells names1 9)).push (r := fun V => V.heap[w.heap.size]? = some (.cells names1 9 (0, 0))) (fun V V' k hz => k.row _ _ hz rfl) (by show (w.heap.push _)[w.heap.size]? = _; rw [Array.getElem?_push, if_pos rfl]))
  go_cut [] (fun wx => Hid (St w wx [] []))
  case first =>
    as_aux_lemma =>
      go_wp2_with fail
      go_loopw [39] (fun iv wr => ∃ k : Nat, k ≤ 10 ∧ iv = .int .i64 k ∧ Hid (St w wr [] [fun V => V.heap[w.heap.size]? = some (.cells names1 9 (0, 0))])) (fun iv _ => 10 - (intOf iv).toNat)
      case atStart => exact ⟨0, by omega, rfl, hC⟩
      case round =>
        clear hC
        obtain ⟨k, hk, rfl, hC⟩ := hrel
        by_cases hlt : k < 10
        · have hi0 : (0 : Int) ≤ (k : Int) := by omega
          have hi1 : (k : Int) < 10 := by omega
          obtain ⟨T, hT, hZ, hs⟩ := names1_at k hlt
          have HZ := Lib.hid hZ
          have HT := Lib.hid hs
          have hrow := (hC.out.rd _ (List.mem_singleton.2 rfl)).2
          have x0 : wr.cell? ⟨w.heap.size, k, none⟩ = some (.string T) := by simp [World.cell?, hrow, hT]
          clear hT hZ hs hrow
          go_wp2_with fail
          refine (zparse_e HT.out HZ.out.1).mono ?_
          rintro e w3 ⟨a3, n3, c3, m3, rfl, hz, hb⟩
          have hC3 := Lib.hid (((hC.out.call hb).pz hz).al w3.heap.size #[.slice a3 n3 c3, .bool m3] 27 rfl rfl)
          clear hz hb hC x0
          go_wp2_with fail
          refine (rparse_e HT.out HZ.out.2).mono ?_
          rintro e w4 ⟨a4, n4, c4, m4, d4, e4, f4, rfl, hz, hb⟩
          have hC4 := Lib.hid (((hC3.out.call hb).pr hz).al w4.heap.size #[.slice a4 n4 c4, .bool m4, .slice d4 e4 f4] 32 rfl rfl)
          clear hz hb hC3
          have c00 := hC4.out.cell 0 0 rfl rfl
          have c01 := hC4.out.cell 0 1 rfl rfl
          go_wp2_with fail
          refine (sign_is (hC4.out.z 1 rfl) (sgn_0 rfl)).mono ?_
          rintro e w5 ⟨rfl, hb⟩
          have hC5 := Lib.hid (hC4.out.call hb)
          clear hb hC4 c00 c01
          have c10 := hC5.out.cell 1 0 rfl rfl
          have c11 := hC5.out.cell 1 1 rfl rfl
          have c12 := hC5.out.cell 1 2 rfl rfl
          go_wp2_with fail
          refine (rsign_z (hC5.out.r 2 rfl)).mono ?_
          rintro e w6 ⟨rfl, hb⟩
          have hC6 := Lib.hid (hC5.out.call hb)
          clear hb hC5 c10 c11 c12
          go_wp2
          go_roundw
          case rel => exact ⟨k + 1, by omega, by go_num, Lib.hid ((hC6.out.pick [0] rfl).bpick [] (by decide) (bs' := []) rfl)⟩
          case measure => simp [intOf]; omega
        · have hn0 : ¬ ((k : Int) < 10) := by omega
          have hO := Lib.hid (hC.out.pick [] (rs' := []) rfl)
          clear hC hk hlt
          go_wp2_with fail
          go_meet
          exact hO
  case rest =>
    clear hC
    have hO := hcut
    clear hcut
    go_upto_block 2 with fail
    have hC := Lib.hid ((hO.out.row (o := .cells names2 9)).push (r := fun V => V.heap[wc.heap.size]? = some (.cells names2 9 (0, 0))) (fun V V' k hz => k.row _ _ hz rfl) (by show (wc.heap.push _)[wc.heap.size]? = _; rw [Array.getElem?_push, if_pos rfl]))
    clear hO
    go_cut [] (fun wx => Hid (St w wx [] []))
    case first =>
      as_aux_lemma =>
        go_wp2_with fail
        go_loopw [72] (fun iv wr => ∃ k : Nat, k ≤ 6 ∧ iv = .int .i64 k ∧ Hid (St w wr [] [fun V => V.heap[wc.heap.size]? = some (.cells names2 9 (0, 0))])) (fun iv _ => 6 - (intOf iv).toNat)
        case atStart => exact ⟨0, by omega, rfl, hC⟩
        case round =>
          clear hC
          obtain ⟨k, hk, rfl, hC⟩ := hrel
          by_cases hlt : k < 6
          · have hi0 : (0 : Int) ≤ (k : Int) := by omega
            have hi1 : (k : Int) < 6 := by omega
            obtain ⟨T, hT, hZ, hs⟩ := names2_at k hlt
            have HZ := Lib.hid hZ
            have HT := Lib.hid hs
            have hrow := (hC.out.rd _ (List.mem_singleton.2 rfl)).2
            have x0 : wr.cell? ⟨wc.heap.size, k, none⟩ = some (.string T) := by simp [World.cell?, hrow, hT]
            clear hT hZ hs hrow
            go_wp2_with fail
            refine (rparse_e HT.out HZ.out).mono ?_
            rintro e w4 ⟨a4, n4, c4, m4, d4, e4, f4, rfl, hz, hb⟩
            have hC4 := Lib.hid (((hC.out.call hb).pr hz).al w4.heap.size #[.slice a4 n4 c4, .bool m4, .slice d4 e4 f4] 32 rfl rfl)
            clear hz hb hC x0
            go_wp2
            go_roundw
            case rel => exact ⟨k + 1, by omega, by go_num, Lib.hid ((hC4.out.pick [0] rfl).bpick [] (by decide) (bs' := []) rfl)⟩
            case measure => simp [intOf]; omega
          · have hn0 : ¬ ((k : Int) < 6) := by omega
            have hO := Lib.hid (hC.out.pick [] (rs' := []) rfl)
            clear hC hk hlt
            go_wp2_with fail
            go_meet
            exact hO
    case rest =>
      clear hC
      have hC := hcut
      clear hcut
      go_upto_region 16 with fail
      go_cut [12] (fun s12 wx => s12 = .int .i64 9 ∧ Hid (St w wx [] []))
      case first =>
        as_aux_lemma =>
          go_wp2_with fail
          refine (rparse_e (by decide) p10).mono ?_
          rintro e w11 ⟨a11, n11, c11, m11, d11, e11, f11, rfl, hz, hb⟩
          have hC11 : Hid (St w _ [(w11.heap.size, #[.slice a11 n11 c11, .bool m11, .slice d11 e11 f11], 32)] [fun V => Rd V (.slice a11 n11 c11) m11 (.slice d11 e11 f11) (0)]) := Lib.hid ((((hC.out.call hb).pr (show Rd w11 (.slice a11 n11 c11) m11 (.slice d11 e11 f11) (0) from hz)).al (w11.heap.size) #[.slice a11 n11 c11, .bool m11, .slice d11 e11 f11] 32 rfl rfl).pick [0] rfl)
          clear hb hz hC 
          have hX11 : Hid (St w _ [] []) := Lib.hid ((hC11.out.pick [] (rs' := []) rfl).bpick [] (by decide) (bs' := []) rfl)
          clear hC11
          go_wp2_with fail
          go_meet
          exact ⟨rfl, hX11⟩
      case rest =>
        clear hC
        obtain ⟨rfl, hK16⟩ := hcut
        go_upto_region 17 with fail
        go_cut [14] (fun s14 wx => s14 = .int .i64 9 ∧ Hid (St w wx [] []))
        case first =>
          as_aux_lemma =>
            go_wp2_with fail
            refine (ratio_0 (by omega)).mono ?_
            rintro e w12 ⟨a12, n12, c12, m12, d12, e12, f12, rfl, hz, hb⟩
            have hC12 : Hid (St w _ [(w12.heap.size, #[.slice a12 n12 c12, .bool m12, .slice d12 e12 f12], 32)] [fun V => Rd V (.slice a12 n12 c12) m12 (.slice d12 e12 f12) (0)]) := Lib.hid ((((hK16.out.call hb).pr (show Rd w12 (.slice a12 n12 c12) m12 (.slice d12 e12 f12) (0) from hz)).al (w12.heap.size) #[.slice a12 n12 c12, .bool m12, .slice d12 e12 f12] 32 rfl rfl).pick [0] rfl)
            clear hb hz hK16 
            have hX12 : Hid (St w _ [] []) := Lib.hid ((hC12.out.pick [] (rs' := []) rfl).bpick [] (by decide) (bs' := []) rfl)
            clear hC12
            go_wp2_with fail
            go_meet
            exact ⟨rfl, hX12⟩
        case rest =>
          clear hK16
          obtain ⟨rfl, hK17⟩ := hcut
          go_upto_region 18 with fail
          go_cut [16] (fun s16 wx => s16 = .int .i64 9 ∧ Hid (St w wx [] []))
          case first =>
            as_aux_lemma =>
              go_wp2_with fail
              refine (of_any 1 (by omega) _).mono ?_
              rintro e w13 ⟨a13, n13, c13, m13, d13, e13, f13, rfl, hz, hb⟩
              have hC13 : Hid (St w _ [] [fun V => Rd V (.slice a13 n13 c13) m13 (.slice d13 e13 f13) (((1 : Int) : Rat))]) := Lib.hid (((hK17.out.call hb).pr (show Rd w13 (.slice a13 n13 c13) m13 (.slice d13 e13 f13) (((1 : Int) : Rat)) from hz)).pick [0] rfl)
              clear hb hz hK17 
              go_wp2_with fail
              refine (rdiv_0 (hC13.out.r 0 rfl) Rd.nil (Bq.int (Bd.i64 (k := 1) (by omega))) (by omega)).mono ?_
              rintro e w14 ⟨a14, n14, c14, m14, d14, e14, f14, rfl, hz, hb⟩
              have hC14 : Hid (St w _ [(w14.heap.size, #[.slice a14 n14 c14, .bool m14, .slice d14 e14 f14], 32)] [fun V => Rd V (.slice a13 n13 c13) m13 (.slice d13 e13 f13) (((1 : Int) : Rat)), fun V => Rd V (.slice a14 n14 c14) m14 (.slice d14 e14 f14) (0)]) := Lib.hid ((((hC13.out.call hb).pr (show Rd w14 (.slice a14 n14 c14) m14 (.slice d14 e14 f14) (0) from hz)).al (w14.heap.size) #[.slice a14 n14 c14, .bool m14, .slice d14 e14 f14] 32 rfl rfl).pick [0, 1] rfl)
              clear hb hz hC13 
              have hX14 : Hid (St w _ [] []) := Lib.hid ((hC14.out.pick [] (rs' := []) rfl).bpick [] (by decide) (bs' := []) rfl)
              clear hC14
              go_wp2_with fail
              go_meet
              exact ⟨rfl, hX14⟩
          case rest =>
            as_aux_lemma =>
              clear hK17
              obtain ⟨rfl, hK18⟩ := hcut
              go_upto_region 19 with fail
              go_cut [19] (fun s19 wx => s19 = .int .i64 9 ∧ Hid (St w wx [] []))
              case first =>
                as_aux_lemma =>
                  go_wp2_with fail
                  refine (int_any (1) (by omega) _).mono ?_
                  rintro e w15 ⟨a15, n15, c15, m15, rfl, hz, hb⟩
                  have hC15 : Hid (St w _ [] [fun V => Zd V (.slice a15 n15 c15) m15 ((1))]) := Lib.hid (((hK18.out.call hb).pz (show Zd w15 (.slice a15 n15 c15) m15 ((1)) from hz)).pick [0] rfl)
                  clear hb hz hK18 
                  go_wp2_with fail
                  refine (quotient_zero _ _ _ _ _ _ _ _ _ _ _ (hC15.out.z 0 rfl) Zd.nil rfl).mono ?_
                  rintro e w16 ⟨a16, n16, c16, m16, a116, n116, c116, m116, rfl, hz, hz2, hb⟩
                  have hC16 : Hid (St w _ [(w16.heap.size, #[.slice a16 n16 c16, .bool m16], 27), (w16.heap.size + 1, #[.slice a116 n116 c116, .bool m116], 27)] [fun V => Zd V (.slice a15 n15 c15) m15 ((1)), fun V => Zd V (.slice a16 n16 c16) m16 (0), fun V => Zd V (.slice a116 n116 c116) m116 (0)]) := Lib.hid ((((((hC15.out.call hb).pz (show Zd w16 (.slice a16 n16 c16) m16 (0) from hz)).pz (show Zd w16 (.slice a116 n116 c116) m116 (0) from hz2)).al (w16.heap.size) #[.slice a16 n16 c16, .bool m16] 27 rfl rfl).al (w16.heap.size + 1) #[.slice a116 n116 c116, .bool m116] 27 (by simp) rfl).pick [0, 1, 2] rfl)
                  clear hb hz hz2 hC15 
                  have hX16 : Hid (St w _ [] []) := Lib.hid ((hC16.out.pick [] (rs' := []) rfl).bpick [] (by decide) (bs' := []) rfl)
                  clear hC16
                  go_wp2_with fail
                  go_meet
                  exact ⟨rfl, hX16⟩
              case rest =>
                clear hK18
                obtain ⟨rfl, hK19⟩ := hcut
                go_upto_region 20 with fail
                go_cut [132] (fun s132 wx => s132 = .bool false ∧ Hid (St w wx [] []))
                case first =>
                  as_aux_lemma =>
                    go_wp2_with fail
                    refine (awake_any _).mono ?_
                    rintro e w17 ⟨rfl, hb⟩
                    have hC17 : Hid (St w _ [] []) := Lib.hid ((hK19.out.call hb).pick [] rfl)
                    clear hb hK19 
                    go_wp2_with fail
                    refine (z_is (by decide) zm0).mono ?_
                    rintro e w18 ⟨a18, n18, c18, m18, rfl, hz, hb⟩
                    have hC18 : Hid (St w _ [] [fun V => Zd V (.slice a18 n18 c18) m18 (0)]) := Lib.hid (((hC17.out.call hb).pz (show Zd w18 (.slice a18 n18 c18) m18 (0) from hz)).pick [0] rfl)
                    clear hb hz hC17 
                    go_wp2_with fail
                    refine (ztext_is (B := ⟨#[48]⟩) (hC18.out.z 0 rfl) (Bd.zero (n := 1)) (by omega) t_0).mono ?_
                    rintro e w19 ⟨rfl, hb⟩
                    have hC19 : Hid (St w _ [] []) := Lib.hid ((hC18.out.call hb).pick [] rfl)
                    clear hb hC18 
                    go_wp2_with fail
                    refine (r_is (by decide) pm07).mono ?_
                    rintro e w20 ⟨a20, n20, c20, m20, d20, e20, f20, rfl, hz, hb⟩
                    have hC20 : Hid (St w _ [] [fun V => Rd V (.slice a20 n20 c20) m20 (.slice d20 e20 f20) (0)]) := Lib.hid (((hC19.out.call hb).pr (show Rd w20 (.slice a20 n20 c20) m20 (.slice d20 e20 f20) (0) from hz)).pick [0] rfl)
                    clear hb hz hC19 
                    go_wp2_with fail
                    refine (rtext_is (B := ⟨#[48]⟩) (hC20.out.r 0 rfl) (Bq.zero (n := 1)) (by omega) r_0).mono ?_
                    rintro e w21 ⟨rfl, hb⟩
                    have hC21 : Hid (St w _ [] []) := Lib.hid ((hC20.out.call hb).pick [] rfl)
                    clear hb hC20 
                    go_wp2_with fail
                    go_meet
                    exact ⟨rfl, hC21⟩
                case rest =>
                  clear hK19
                  obtain ⟨rfl, hK20⟩ := hcut
                  go_upto_region 22 with fail
                  go_cut [20, 21, 22] (fun s20 s21 s22 wx => ∃ (b201 b202 : Nat) (a201 : Option Addr) (n201 c201 : Nat) (m201 : Bool) (a202 : Option Addr) (n202 c202 : Nat) (m202 : Bool), s20 = .pointer (some ⟨b201, 0, none⟩) ∧ s21 = .pointer (some ⟨b202, 0, none⟩) ∧ s22 = .int .i64 0 ∧ Hid (St w wx [(b201, #[.slice a201 n201 c201, .bool m201], 27), (b202, #[.slice a202 n202 c202, .bool m202], 27)] [fun V => Zd V (.slice a201 n201 c201) m201 ((-3)), fun V => Zd V (.slice a202 n202 c202) m202 ((1))]))
                  case first =>
                    as_aux_lemma =>
                      go_wp2_with fail
                      refine (int_any (7) (by omega) _).mono ?_
                      rintro e w22 ⟨a22, n22, c22, m22, rfl, hz, hb⟩
                      have hC22 : Hid (St w _ [] [fun V => Zd V (.slice a22 n22 c22) m22 ((7))]) := Lib.hid (((hK20.out.call hb).pz (show Zd w22 (.slice a22 n22 c22) m22 ((7)) from hz)).pick [0] rfl)
                      clear hb hz hK20 
                      go_wp2_with fail
                      refine (int_any (-2) (by omega) _).mono ?_
                      rintro e w23 ⟨a23, n23, c23, m23, rfl, hz, hb⟩
                      have hC23 : Hid (St w _ [] [fun V => Zd V (.slice a22 n22 c22) m22 ((7)), fun V => Zd V (.slice a23 n23 c23) m23 ((-2))]) := Lib.hid (((hC22.out.call hb).pz (show Zd w23 (.slice a23 n23 c23) m23 ((-2)) from hz)).pick [0, 1] rfl)
                      clear hb hz hC22 
                      go_wp2_with fail
                      refine (quo_b (hC23.out.z 0 rfl) (hC23.out.z 1 rfl) (by omega) (Bd.i64 (k := (7)) (by omega)) (Bd.i64 (k := (-2)) (by omega)) (by omega) (by omega)).mono ?_
                      rintro e w24 ⟨a24, n24, c24, m24, a124, n124, c124, m124, rfl, hz, hz2, hb⟩
                      have hC24 : Hid (St w _ [(w24.heap.size, #[.slice a24 n24 c24, .bool m24], 27), (w24.heap.size + 1, #[.slice a124 n124 c124, .bool m124], 27)] [fun V => Zd V (.slice a24 n24 c24) m24 ((-3)), fun V => Zd V (.slice a124 n124 c124) m124 ((1))]) := Lib.hid ((((((hC23.out.call hb).pz (show Zd w24 (.slice a24 n24 c24) m24 ((-3)) from hz)).pz (show Zd w24 (.slice a124 n124 c124) m124 ((1)) from hz2)).al (w24.heap.size) #[.slice a24 n24 c24, .bool m24] 27 rfl rfl).al (w24.heap.size + 1) #[.slice a124 n124 c124, .bool m124] 27 (by simp) rfl).pick [2, 3] rfl)
                      clear hb hz hz2 hC23 
                      go_wp2_with fail
                      go_meet
                      exact ⟨_, _, _, _, _, _, _, _, _, _, rfl, rfl, rfl, hC24⟩
                  case rest =>
                    clear hK20
                    obtain ⟨b201, b202, a201, n201, c201, m201, a202, n202, c202, m202, rfl, rfl, rfl, hK22⟩ := hcut
                    go_upto_region 23 with fail
                    go_cut [23, 24, 25] (fun s23 s24 s25 wx => ∃ (b203 b204 : Nat) (a203 : Option Addr) (n203 c203 : Nat) (m203 : Bool) (a204 : Option Addr) (n204 c204 : Nat) (m204 : Bool), s23 = .pointer (some ⟨b203, 0, none⟩) ∧ s24 = .pointer (some ⟨b204, 0, none⟩) ∧ s25 = .int .i64 0 ∧ Hid (St w wx [(b201, #[.slice a201 n201 c201, .bool m201], 27), (b202, #[.slice a202 n202 c202, .bool m202], 27), (b203, #[.slice a203 n203 c203, .bool m203], 27), (b204, #[.slice a204 n204 c204, .bool m204], 27)] [fun V => Zd V (.slice a201 n201 c201) m201 ((-3)), fun V => Zd V (.slice a202 n202 c202) m202 ((1)), fun V => Zd V (.slice a203 n203 c203) m203 ((4)), fun V => Zd V (.slice a204 n204 c204) m204 ((1))]))
                    case first =>
                      as_aux_lemma =>
                        go_wp2_with fail
                        refine (int_any (-7) (by omega) _).mono ?_
                        rintro e w25 ⟨a25, n25, c25, m25, rfl, hz, hb⟩
                        have hC25 : Hid (St w _ [(b201, #[.slice a201 n201 c201, .bool m201], 27), (b202, #[.slice a202 n202 c202, .bool m202], 27)] [fun V => Zd V (.slice a201 n201 c201) m201 ((-3)), fun V => Zd V (.slice a202 n202 c202) m202 ((1)), fun V => Zd V (.slice a25 n25 c25) m25 ((-7))]) := Lib.hid (((hK22.out.call hb).pz (show Zd w25 (.slice a25 n25 c25) m25 ((-7)) from hz)).pick [0, 1, 2] rfl)
                        clear hb hz hK22 
                        go_wp2_with fail
                        refine (int_any (-2) (by omega) _).mono ?_
                        rintro e w26 ⟨a26, n26, c26, m26, rfl, hz, hb⟩
                        have hC26 : Hid (St w _ [(b201, #[.slice a201 n201 c201, .bool m201], 27), (b202, #[.slice a202 n202 c202, .bool m202], 27)] [fun V => Zd V (.slice a201 n201 c201) m201 ((-3)), fun V => Zd V (.slice a202 n202 c202) m202 ((1)), fun V => Zd V (.slice a25 n25 c25) m25 ((-7)), fun V => Zd V (.slice a26 n26 c26) m26 ((-2))]) := Lib.hid (((hC25.out.call hb).pz (show Zd w26 (.slice a26 n26 c26) m26 ((-2)) from hz)).pick [0, 1, 2, 3] rfl)
                        clear hb hz hC25 
                        go_wp2_with fail
                        refine (quo_b (hC26.out.z 2 rfl) (hC26.out.z 3 rfl) (by omega) (Bd.i64 (k := (-7)) (by omega)) (Bd.i64 (k := (-2)) (by omega)) (by omega) (by omega)).mono ?_
                        rintro e w27 ⟨a27, n27, c27, m27, a127, n127, c127, m127, rfl, hz, hz2, hb⟩
                        have hC27 : Hid (St w _ [(b201, #[.slice a201 n201 c201, .bool m201], 27), (b202, #[.slice a202 n202 c202, .bool m202], 27), (w27.heap.size, #[.slice a27 n27 c27, .bool m27], 27), (w27.heap.size + 1, #[.slice a127 n127 c127, .bool m127], 27)] [fun V => Zd V (.slice a201 n201 c201) m201 ((-3)), fun V => Zd V (.slice a202 n202 c202) m202 ((1)), fun V => Zd V (.slice a27 n27 c27) m27 ((4)), fun V => Zd V (.slice a127 n127 c127) m127 ((1))]) := Lib.hid ((((((hC26.out.call hb).pz (show Zd w27 (.slice a27 n27 c27) m27 ((4)) from hz)).pz (show Zd w27 (.slice a127 n127 c127) m127 ((1)) from hz2)).al (w27.heap.size) #[.slice a27 n27 c27, .bool m27] 27 rfl rfl).al (w27.heap.size + 1) #[.slice a127 n127 c127, .bool m127] 27 (by simp) rfl).pick [0, 1, 4, 5] rfl)
                        clear hb hz hz2 hC26 
                        go_wp2_with fail
                        go_meet
                        exact ⟨_, _, _, _, _, _, _, _, _, _, rfl, rfl, rfl, hC27⟩
                    case rest =>
                      as_aux_lemma =>
                        clear hK22
                        obtain ⟨b203, b204, a203, n203, c203, m203, a204, n204, c204, m204, rfl, rfl, rfl, hK23⟩ := hcut
                        go_upto_region 24 with fail
                        go_cut [191] (fun s191 wx => s191 = .bool false ∧ Hid (St w wx [] []))
                        case first =>
                          as_aux_lemma =>
                            have y0_0 := hK23.out.cell 0 0 rfl rfl
                            have y0_1 := hK23.out.cell 0 1 rfl rfl
                            go_wp2_with fail
                            refine (ztext_is (B := ⟨#[45, 51]⟩) (hK23.out.z 0 rfl) (Bd.i64 (k := (-3)) (by omega)) (by omega) t_m3).mono ?_
                            rintro e w28 ⟨rfl, hb⟩
                            have hC28 : Hid (St w _ [(b201, #[.slice a201 n201 c201, .bool m201], 27), (b202, #[.slice a202 n202 c202, .bool m202], 27), (b203, #[.slice a203 n203 c203, .bool m203], 27), (b204, #[.slice a204 n204 c204, .bool m204], 27)] [fun V => Zd V (.slice a201 n201 c201) m201 ((-3)), fun V => Zd V (.slice a202 n202 c202) m202 ((1)), fun V => Zd V (.slice a203 n203 c203) m203 ((4)), fun V => Zd V (.slice a204 n204 c204) m204 ((1))]) := Lib.hid ((hK23.out.call hb).pick [0, 1, 2, 3] rfl)
                            clear hb hK23 y0_0 y0_1
                            have y1_0 := hC28.out.cell 1 0 rfl rfl
                            have y1_1 := hC28.out.cell 1 1 rfl rfl
                            go_wp2_with fail
                            refine (ztext_is (B := ⟨#[49]⟩) (hC28.out.z 1 rfl) (Bd.i64 (k := (1)) (by omega)) (by omega) t_1).mono ?_
                            rintro e w29 ⟨rfl, hb⟩
                            have hC29 : Hid (St w _ [(b201, #[.slice a201 n201 c201, .bool m201], 27), (b202, #[.slice a202 n202 c202, .bool m202], 27), (b203, #[.slice a203 n203 c203, .bool m203], 27), (b204, #[.slice a204 n204 c204, .bool m204], 27)] [fun V => Zd V (.slice a201 n201 c201) m201 ((-3)), fun V => Zd V (.slice a202 n202 c202) m202 ((1)), fun V => Zd V (.slice a203 n203 c203) m203 ((4)), fun V => Zd V (.slice a204 n204 c204) m204 ((1))]) := Lib.hid ((hC28.out.call hb).pick [0, 1, 2, 3] rfl)
                            clear hb hC28 y1_0 y1_1
                            have y2_0 := hC29.out.cell 2 0 rfl rfl
                            have y2_1 := hC29.out.cell 2 1 rfl rfl
                            go_wp2_with fail
                            refine (ztext_is (B := ⟨#[52]⟩) (hC29.out.z 2 rfl) (Bd.i64 (k := (4)) (by omega)) (by omega) t_4).mono ?_
                            rintro e w30 ⟨rfl, hb⟩
                            have hC30 : Hid (St w _ [(b201, #[.slice a201 n201 c201, .bool m201], 27), (b202, #[.slice a202 n202 c202, .bool m202], 27), (b203, #[.slice a203 n203 c203, .bool m203], 27), (b204, #[.slice a204 n204 c204, .bool m204], 27)] [fun V => Zd V (.slice a201 n201 c201) m201 ((-3)), fun V => Zd V (.slice a202 n202 c202) m202 ((1)), fun V => Zd V (.slice a203 n203 c203) m203 ((4)), fun V => Zd V (.slice a204 n204 c204) m204 ((1))]) := Lib.hid ((hC29.out.call hb).pick [0, 1, 2, 3] rfl)
                            clear hb hC29 y2_0 y2_1
                            have y3_0 := hC30.out.cell 3 0 rfl rfl
                            have y3_1 := hC30.out.cell 3 1 rfl rfl
                            go_wp2_with fail
                            refine (ztext_is (B := ⟨#[49]⟩) (hC30.out.z 3 rfl) (Bd.i64 (k := (1)) (by omega)) (by omega) t_1).mono ?_
                            rintro e w31 ⟨rfl, hb⟩
                            have hC31 : Hid (St w _ [(b201, #[.slice a201 n201 c201, .bool m201], 27), (b202, #[.slice a202 n202 c202, .bool m202], 27), (b203, #[.slice a203 n203 c203, .bool m203], 27), (b204, #[.slice a204 n204 c204, .bool m204], 27)] [fun V => Zd V (.slice a201 n201 c201) m201 ((-3)), fun V => Zd V (.slice a202 n202 c202) m202 ((1)), fun V => Zd V (.slice a203 n203 c203) m203 ((4)), fun V => Zd V (.slice a204 n204 c204) m204 ((1))]) := Lib.hid ((hC30.out.call hb).pick [0, 1, 2, 3] rfl)
                            clear hb hC30 y3_0 y3_1
                            go_wp2_with fail
                            refine (int_any (-5) (by omega) _).mono ?_
                            rintro e w32 ⟨a32, n32, c32, m32, rfl, hz, hb⟩
                            have hC32 : Hid (St w _ [(b201, #[.slice a201 n201 c201, .bool m201], 27), (b202, #[.slice a202 n202 c202, .bool m202], 27), (b203, #[.slice a203 n203 c203, .bool m203], 27), (b204, #[.slice a204 n204 c204, .bool m204], 27)] [fun V => Zd V (.slice a201 n201 c201) m201 ((-3)), fun V => Zd V (.slice a202 n202 c202) m202 ((1)), fun V => Zd V (.slice a203 n203 c203) m203 ((4)), fun V => Zd V (.slice a204 n204 c204) m204 ((1)), fun V => Zd V (.slice a32 n32 c32) m32 ((-5))]) := Lib.hid (((hC31.out.call hb).pz (show Zd w32 (.slice a32 n32 c32) m32 ((-5)) from hz)).pick [0, 1, 2, 3, 4] rfl)
                            clear hb hz hC31 
                            go_wp2_with fail
                            refine (gcd_b Zd.nil (hC32.out.z 4 rfl) (Bd.zero (n := 1)) (Bd.i64 (k := (-5)) (by omega)) (by omega) (by omega)).mono ?_
                            rintro e w33 ⟨a33, n33, c33, m33, rfl, hz, hb⟩
                            have hC33 : Hid (St w _ [(b201, #[.slice a201 n201 c201, .bool m201], 27), (b202, #[.slice a202 n202 c202, .bool m202], 27), (b203, #[.slice a203 n203 c203, .bool m203], 27), (b204, #[.slice a204 n204 c204, .bool m204], 27)] [fun V => Zd V (.slice a201 n201 c201) m201 ((-3)), fun V => Zd V (.slice a202 n202 c202) m202 ((1)), fun V => Zd V (.slice a203 n203 c203) m203 ((4)), fun V => Zd V (.slice a204 n204 c204) m204 ((1)), fun V => Zd V (.slice a33 n33 c33) m33 (5)]) := Lib.hid (((hC32.out.call hb).pz (show Zd w33 (.slice a33 n33 c33) m33 (5) from hz)).pick [0, 1, 2, 3, 5] rfl)
                            clear hb hz hC32 
                            go_wp2_with fail
                            refine (ztext_is (B := ⟨#[53]⟩) (hC33.out.z 4 rfl) (Bd.i64 (k := 5) (by omega)) (by omega) t_5).mono ?_
                            rintro e w34 ⟨rfl, hb⟩
                            have hC34 : Hid (St w _ [(b201, #[.slice a201 n201 c201, .bool m201], 27), (b202, #[.slice a202 n202 c202, .bool m202], 27), (b203, #[.slice a203 n203 c203, .bool m203], 27), (b204, #[.slice a204 n204 c204, .bool m204], 27)] [fun V => Zd V (.slice a201 n201 c201) m201 ((-3)), fun V => Zd V (.slice a202 n202 c202) m202 ((1)), fun V => Zd V (.slice a203 n203 c203) m203 ((4)), fun V => Zd V (.slice a204 n204 c204) m204 ((1))]) := Lib.hid ((hC33.out.call hb).pick [0, 1, 2, 3] rfl)
                            clear hb hC33 
                            go_wp2_with fail
                            refine (r_is (by decide) pm72).mono ?_
                            rintro e w35 ⟨a35, n35, c35, m35, d35, e35, f35, rfl, hz, hb⟩
                            have hC35 : Hid (St w _ [(b201, #[.slice a201 n201 c201, .bool m201], 27), (b202, #[.slice a202 n202 c202, .bool m202], 27), (b203, #[.slice a203 n203 c203, .bool m203], 27), (b204, #[.slice a204 n204 c204, .bool m204], 27)] [fun V => Zd V (.slice a201 n201 c201) m201 ((-3)), fun V => Zd V (.slice a202 n202 c202) m202 ((1)), fun V => Zd V (.slice a203 n203 c203) m203 ((4)), fun V => Zd V (.slice a204 n204 c204) m204 ((1)), fun V => Rd V (.slice a35 n35 c35) m35 (.slice d35 e35 f35) ((⟨-7, 2, by decide, by decide⟩ : Rat))]) := Lib.hid (((hC34.out.call hb).pr (show Rd w35 (.slice a35 n35 c35) m35 (.slice d35 e35 f35) ((⟨-7, 2, by decide, by decide⟩ : Rat)) from hz)).pick [0, 1, 2, 3, 4] rfl)
                            clear hb hz hC34 
                            go_wp2_with fail
                            refine (rfloor_b (hC35.out.r 4 rfl) (bq (n := 3) (k := 4) (by decide) (by decide) (by omega)) (by omega)).mono ?_
                            rintro e w36 ⟨a36, n36, c36, m36, rfl, hz, hb⟩
                            have hC36 : Hid (St w _ [(b201, #[.slice a201 n201 c201, .bool m201], 27), (b202, #[.slice a202 n202 c202, .bool m202], 27), (b203, #[.slice a203 n203 c203, .bool m203], 27), (b204, #[.slice a204 n204 c204, .bool m204], 27)] [fun V => Zd V (.slice a201 n201 c201) m201 ((-3)), fun V => Zd V (.slice a202 n202 c202) m202 ((1)), fun V => Zd V (.slice a203 n203 c203) m203 ((4)), fun V => Zd V (.slice a204 n204 c204) m204 ((1)), fun V => Zd V (.slice a36 n36 c36) m36 ((-4))]) := Lib.hid (((hC35.out.call hb).pz (show Zd w36 (.slice a36 n36 c36) m36 ((-4)) from hz)).pick [0, 1, 2, 3, 5] rfl)
                            clear hb hz hC35 
                            go_wp2_with fail
                            refine (ztext_is (B := ⟨#[45, 52]⟩) (hC36.out.z 4 rfl) (Bd.i64 (k := (-4)) (by omega)) (by omega) t_m4).mono ?_
                            rintro e w37 ⟨rfl, hb⟩
                            have hC37 : Hid (St w _ [(b201, #[.slice a201 n201 c201, .bool m201], 27), (b202, #[.slice a202 n202 c202, .bool m202], 27), (b203, #[.slice a203 n203 c203, .bool m203], 27), (b204, #[.slice a204 n204 c204, .bool m204], 27)] [fun V => Zd V (.slice a201 n201 c201) m201 ((-3)), fun V => Zd V (.slice a202 n202 c202) m202 ((1)), fun V => Zd V (.slice a203 n203 c203) m203 ((4)), fun V => Zd V (.slice a204 n204 c204) m204 ((1))]) := Lib.hid ((hC36.out.call hb).pick [0, 1, 2, 3] rfl)
                            clear hb hC36 
                            go_wp2_with fail
                            refine (r_is (by decide) pm72).mono ?_
                            rintro e w38 ⟨a38, n38, c38, m38, d38, e38, f38, rfl, hz, hb⟩
                            have hC38 : Hid (St w _ [(b201, #[.slice a201 n201 c201, .bool m201], 27), (b202, #[.slice a202 n202 c202, .bool m202], 27), (b203, #[.slice a203 n203 c203, .bool m203], 27), (b204, #[.slice a204 n204 c204, .bool m204], 27)] [fun V => Zd V (.slice a201 n201 c201) m201 ((-3)), fun V => Zd V (.slice a202 n202 c202) m202 ((1)), fun V => Zd V (.slice a203 n203 c203) m203 ((4)), fun V => Zd V (.slice a204 n204 c204) m204 ((1)), fun V => Rd V (.slice a38 n38 c38) m38 (.slice d38 e38 f38) ((⟨-7, 2, by decide, by decide⟩ : Rat))]) := Lib.hid (((hC37.out.call hb).pr (show Rd w38 (.slice a38 n38 c38) m38 (.slice d38 e38 f38) ((⟨-7, 2, by decide, by decide⟩ : Rat)) from hz)).pick [0, 1, 2, 3, 4] rfl)
                            clear hb hz hC37 
                            go_wp2_with fail
                            refine (rceil_any _ _ _ _ _ _ _ _ _ (hC38.out.r 4 rfl) _ (bq (n := 3) (k := 4) (by decide) (by decide) (by omega)) (by omega)).mono ?_
                            rintro e w39 ⟨a39, n39, c39, m39, rfl, hz, hb⟩
                            have hC39 : Hid (St w _ [(b201, #[.slice a201 n201 c201, .bool m201], 27), (b202, #[.slice a202 n202 c202, .bool m202], 27), (b203, #[.slice a203 n203 c203, .bool m203], 27), (b204, #[.slice a204 n204 c204, .bool m204], 27)] [fun V => Zd V (.slice a201 n201 c201) m201 ((-3)), fun V => Zd V (.slice a202 n202 c202) m202 ((1)), fun V => Zd V (.slice a203 n203 c203) m203 ((4)), fun V => Zd V (.slice a204 n204 c204) m204 ((1)), fun V => Zd V (.slice a39 n39 c39) m39 ((-3))]) := Lib.hid (((hC38.out.call hb).pz (show Zd w39 (.slice a39 n39 c39) m39 ((-3)) from hz)).pick [0, 1, 2, 3, 5] rfl)
                            clear hb hz hC38 
                            go_wp2_with fail
                            refine (ztext_is (B := ⟨#[45, 51]⟩) (hC39.out.z 4 rfl) (Bd.i64 (k := (-3)) (by omega)) (by omega) t_m3).mono ?_
                            rintro e w40 ⟨rfl, hb⟩
                            have hC40 : Hid (St w _ [(b201, #[.slice a201 n201 c201, .bool m201], 27), (b202, #[.slice a202 n202 c202, .bool m202], 27), (b203, #[.slice a203 n203 c203, .bool m203], 27), (b204, #[.slice a204 n204 c204, .bool m204], 27)] [fun V => Zd V (.slice a201 n201 c201) m201 ((-3)), fun V => Zd V (.slice a202 n202 c202) m202 ((1)), fun V => Zd V (.slice a203 n203 c203) m203 ((4)), fun V => Zd V (.slice a204 n204 c204) m204 ((1))]) := Lib.hid ((hC39.out.call hb).pick [0, 1, 2, 3] rfl)
                            clear hb hC39 
                            have hX40 : Hid (St w _ [] []) := Lib.hid ((hC40.out.pick [] (rs' := []) rfl).bpick [] (by decide) (bs' := []) rfl)
                            clear hC40
                            go_wp2_with fail
                            go_meet
                            exact ⟨rfl, hX40⟩
                        case rest =>
                          clear hK23
                          obtain ⟨rfl, hK24⟩ := hcut
                          go_upto_region 26 with fail
                          go_cut [26] (fun s26 wx => ∃ (b205 : Nat) (a205 : Option Addr) (n205 c205 : Nat) (m205 : Bool), s26 = .pointer (some ⟨b205, 0, none⟩) ∧ Hid (St w wx [(b205, #[.slice a205 n205 c205, .bool m205], 27)] [fun V => Zd V (.slice a205 n205 c205) m205 (((fac 0 : Nat) : Int))]))
                          case first =>
                            as_aux_lemma =>
                              go_wp2_with fail
                              refine (int_any 1 (by omega) _).mono ?_
                              rintro e w41 ⟨a41, n41, c41, m41, rfl, hz, hb⟩
                              have hC41 : Hid (St w _ [(w41.heap.size, #[.slice a41 n41 c41, .bool m41], 27)] [fun V => Zd V (.slice a41 n41 c41) m41 (((fac 0 : Nat) : Int))]) := Lib.hid ((((hK24.out.call hb).pz (show Zd w41 (.slice a41 n41 c41) m41 (((fac 0 : Nat) : Int)) from hz)).al (w41.heap.size) #[.slice a41 n41 c41, .bool m41] 27 rfl rfl).pick [0] rfl)
                              clear hb hz hK24 
                              go_wp2_with fail
                              go_meet
                              exact ⟨_, _, _, _, _, rfl, hC41⟩
                          case rest =>
                            clear hK24
                            obtain ⟨b205, a205, n205, c205, m205, rfl, hK26⟩ := hcut
                            go_upto_block 4 with fail
                            go_cut [] (fun wx => ∃ (a1 : Option Addr) (n1 c1 : Nat) (m1 : Bool), Hid (St w wx [(b205, #[.slice a1 n1 c1, .bool m1], 27)] [fun V => Zd V (.slice a1 n1 c1) m1 (15511210043330985984000000)]))
                            case first =>
                              as_aux_lemma =>
                                go_wp2_with fail
                                go_loopw [27] (fun iv wr => ∃ (k : Nat) (a1 : Option Addr) (n1 c1 : Nat) (m1 : Bool), k ≤ 25 ∧ iv = .int .i64 ((k : Int) + 1) ∧ Hid (St w wr [(b205, #[.slice a1 n1 c1, .bool m1], 27)] [fun V => Zd V (.slice a1 n1 c1) m1 ((fac k : Nat) : Int)])) (fun iv _ => 30 - (intOf iv).toNat)
                                case atStart => exact ⟨0, _, _, _, _, by omega, by go_num, hK26⟩
                                case round =>
                                  clear hK26
                                  obtain ⟨k, a1, n1, c1, m1, hk, rfl, hC⟩ := hrel
                                  by_cases hlt : k < 25
                                  · have hi1 : (k : Int) + 1 ≤ 25 := by omega
                                    have HF := Lib.hid (show (((fac (k + 1) : Nat)) : Int) = ((fac k : Nat) : Int) * ((k : Int) + 1) from by rw [show fac (k + 1) = fac k * (k + 1) from rfl]; push_cast; rfl)
                                    have HB := Lib.hid (fac_bd (show k ≤ 25 by omega))
                                    have HI := Lib.hid (show -9223372036854775808 ≤ (k : Int) + 1 ∧ (k : Int) + 1 < 9223372036854775808 by omega)
                                    have hk0 : (0 : Int) ≤ (k : Int) := by omega
                                    go_wp2_with fail
                                    refine wp_region_noPanic ?_
                                    refine wp_region_held_drew (S := (fun w' => True)) (by kernel_rfl) trivial (fun hH => ?_)
                                    refine wpAnyH_gen (show St w _ [(b205, #[.slice a1 n1 c1, .bool m1], 27)] [fun V => Zd V (.slice a1 n1 c1) m1 (((fac k : Nat) : Int))] from hC.out.drew) hH ?_
                                    intro V142_0 hc hH142_0
                                    have hV142_0 := Lib.hid hc
                                    clear hc hH hC
                                    refine wpAnyH_take (i := 1) (oi := ⟨_, _, _, _, _, _⟩) (v := ?_) rfl (by kernel_rfl) (by kernel_rfl) (by kernel_rfl) (fun _ _ _ h => h) (Or.inl ⟨by rfl, ?_⟩) hH142_0 ?_
                                    rotate_left
                                    · intro wS hSw; (try dsimp only at hSw); go_simp; try with_reducible rfl
                                    try simp only [Act.put, List.setIfInBounds_toArray, List.set_cons_zero, List.set_cons_succ]
                                    refine wpAnyH_ready (rs := [0, 2]) (by kernel_rfl) (by simp) ?_
                                    refine AllReadyH.cons (o := ⟨_, _, _, _, _, _⟩) rfl (fun Kq hKq => ?_) ?_
                                    · have cQ0 := hV142_0.out.cell 0 0 rfl rfl
                                      have cQ1 := hV142_0.out.cell 0 1 rfl rfl
                                      go_simp
                                      refine stepH hKq (show St w _ [(b205, #[.slice a1 n1 c1, .bool m1], 27)] [fun V => Zd V (.slice a1 n1 c1) m1 (((fac k : Nat) : Int))] from hV142_0.out) (fun _ hX => trivial) ?_
                                      intro V142_1 hc hH142_1
                                      have hV142_1 := Lib.hid hc
                                      clear hc hKq Kq hV142_0 cQ0 cQ1 hH142_0
                                      try simp only [Act.put, List.setIfInBounds_toArray, List.set_cons_zero, List.set_cons_succ]
                                      refine wpAnyH_ready (rs := [2]) (by kernel_rfl) (by simp) ?_
                                      refine AllReadyH.cons (o := ⟨_, _, _, _, _, _⟩) rfl (fun Kq hKq => ?_) AllReadyH.nil
                                      go_simp
                                      go_at_call 11
                                      refine (int_any _ HI.out _).mono ?_
                                      rintro e w140 ⟨a140, n140, c140, m140, rfl, hz, hb⟩
                                      (try go_wp2_with fail)
                                      refine stepH hKq (show St w _ [(b205, #[.slice a1 n1 c1, .bool m1], 27)] [fun V => Zd V (.slice a1 n1 c1) m1 (((fac k : Nat) : Int)), fun V => Zd V (.slice a140 n140 c140) m140 (((k : Int) + 1))] from ((hV142_1.out.call hb).pz hz)) (fun _ hX => trivial) ?_
                                      intro V142_2 hc hH142_2
                                      have hV142_2 := Lib.hid hc
                                      clear hc hKq Kq hV142_1 hb hz hH142_1
                                      try simp only [Act.put, List.setIfInBounds_toArray, List.set_cons_zero, List.set_cons_succ]
                                      refine wpAnyH_ready (rs := [3]) (by kernel_rfl) (by simp) ?_
                                      refine AllReadyH.cons (o := ⟨_, _, _, _, _, _⟩) rfl (fun Kq hKq => ?_) AllReadyH.nil
                                      go_simp
                                      go_at_call 21
                                      refine (mul_b (hV142_2.out.z 0 rfl) (hV142_2.out.z 1 rfl) HB.out (Bd.i64 HI.out) (by omega) (by omega)).mono ?_
                                      rintro e w141 ⟨a141, n141, c141, m141, rfl, hz, hb⟩
                                      (try go_wp2_with fail)
                                      refine stepH hKq (show St w _ [(b205, #[.slice a1 n1 c1, .bool m1], 27)] [fun V => Zd V (.slice a1 n1 c1) m1 (((fac k : Nat) : Int)), fun V => Zd V (.slice a140 n140 c140) m140 (((k : Int) + 1)), fun V => Zd V (.slice a141 n141 c141) m141 ((((fac k : Nat) : Int) * ((k : Int) + 1)))] from ((hV142_2.out.call hb).pz hz)) (fun _ hX => trivial) ?_
                                      intro V142_3 hc hH142_3
                                      have hV142_3 := Lib.hid hc
                                      clear hc hKq Kq hV142_2 hb hz hH142_2
                                      try simp only [Act.put, List.setIfInBounds_toArray, List.set_cons_zero, List.set_cons_succ]
                                      refine wpAnyH_ready (rs := [4]) (by kernel_rfl) (by simp) ?_
                                      refine AllReadyH.cons (o := ⟨_, _, _, _, _, _⟩) rfl (fun Kq hKq => ?_) AllReadyH.nil
                                      have cQ0 := hV142_3.out.cell 0 0 rfl rfl
                                      have fQ0 := hV142_3.out.free 0 0 rfl
                                      have cQ1 := hV142_3.out.cell 0 1 rfl rfl
                                      have fQ1 := hV142_3.out.free 0 1 rfl
                                      go_simp
                                      refine stepH hKq (show St w _ [(b205, #[.slice a141 n141 c141, .bool m141], 27)] [fun V => Zd V (.slice a1 n1 c1) m1 (((fac k : Nat) : Int)), fun V => Zd V (.slice a140 n140 c140) m140 (((k : Int) + 1)), fun V => Zd V (.slice a141 n141 c141) m141 ((((fac k : Nat) : Int) * ((k : Int) + 1)))] from (hV142_3.out.set2 0 rfl)) (fun _ hX => trivial) ?_
                                      intro V142_4 hc hH142_4
                                      have hV142_4 := Lib.hid hc
                                      clear hc hKq Kq hV142_3 cQ0 fQ0 cQ1 fQ1 hH142_3
                                      try simp only [Act.put, List.setIfInBounds_toArray, List.set_cons_zero, List.set_cons_succ]
                                      refine wpAnyH_done (by kernel_rfl) ?_ _
                                      refine NoPanic.normal ?_
                                      go_wp2
                                      go_roundw
                                      case rel =>
                                        refine ⟨k + 1, a141, n141, c141, m141, by omega, by go_num, ?_⟩
                                        rw [HF.out]
                                        exact Lib.hid (hV142_4.out.pick [2] rfl)
                                      case measure => simp [intOf]; omega
                                    refine AllReadyH.cons (o := ⟨_, _, _, _, _, _⟩) rfl (fun Kq hKq => ?_) ?_
                                    · as_aux_lemma =>
                                        go_simp
                                        go_at_call 11
                                        refine (int_any _ HI.out _).mono ?_
                                        rintro e w140 ⟨a140, n140, c140, m140, rfl, hz, hb⟩
                                        (try go_wp2_with fail)
                                        refine stepH hKq (show St w _ [(b205, #[.slice a1 n1 c1, .bool m1], 27)] [fun V => Zd V (.slice a1 n1 c1) m1 (((fac k : Nat) : Int)), fun V => Zd V (.slice a140 n140 c140) m140 (((k : Int) + 1))] from ((hV142_0.out.call hb).pz hz)) (fun _ hX => trivial) ?_
                                        intro V142_1 hc hH142_1
                                        have hV142_1 := Lib.hid hc
                                        clear hc hKq Kq hV142_0 hb hz hH142_0
                                        try simp only [Act.put, List.setIfInBounds_toArray, List.set_cons_zero, List.set_cons_succ]
                                        refine wpAnyH_ready (rs := [0]) (by kernel_rfl) (by simp) ?_
                                        refine AllReadyH.cons (o := ⟨_, _, _, _, _, _⟩) rfl (fun Kq hKq => ?_) AllReadyH.nil
                                        have cQ0 := hV142_1.out.cell 0 0 rfl rfl
                                        have cQ1 := hV142_1.out.cell 0 1 rfl rfl
                                        go_simp
                                        refine stepH hKq (show St w _ [(b205, #[.slice a1 n1 c1, .bool m1], 27)] [fun V => Zd V (.slice a1 n1 c1) m1 (((fac k : Nat) : Int)), fun V => Zd V (.slice a140 n140 c140) m140 (((k : Int) + 1))] from hV142_1.out) (fun _ hX => trivial) ?_
                                        intro V142_2 hc hH142_2
                                        have hV142_2 := Lib.hid hc
                                        clear hc hKq Kq hV142_1 cQ0 cQ1 hH142_1
                                        try simp only [Act.put, List.setIfInBounds_toArray, List.set_cons_zero, List.set_cons_succ]
                                        refine wpAnyH_ready (rs := [3]) (by kernel_rfl) (by simp) ?_
                                        refine AllReadyH.cons (o := ⟨_, _, _, _, _, _⟩) rfl (fun Kq hKq => ?_) AllReadyH.nil
                                        go_simp
                                        go_at_call 21
                                        refine (mul_b (hV142_2.out.z 0 rfl) (hV142_2.out.z 1 rfl) HB.out (Bd.i64 HI.out) (by omega) (by omega)).mono ?_
                                        rintro e w141 ⟨a141, n141, c141, m141, rfl, hz, hb⟩
                                        (try go_wp2_with fail)
                                        refine stepH hKq (show St w _ [(b205, #[.slice a1 n1 c1, .bool m1], 27)] [fun V => Zd V (.slice a1 n1 c1) m1 (((fac k : Nat) : Int)), fun V => Zd V (.slice a140 n140 c140) m140 (((k : Int) + 1)), fun V => Zd V (.slice a141 n141 c141) m141 ((((fac k : Nat) : Int) * ((k : Int) + 1)))] from ((hV142_2.out.call hb).pz hz)) (fun _ hX => trivial) ?_
                                        intro V142_3 hc hH142_3
                                        have hV142_3 := Lib.hid hc
                                        clear hc hKq Kq hV142_2 hb hz hH142_2
                                        try simp only [Act.put, List.setIfInBounds_toArray, List.set_cons_zero, List.set_cons_succ]
                                        refine wpAnyH_ready (rs := [4]) (by kernel_rfl) (by simp) ?_
                                        refine AllReadyH.cons (o := ⟨_, _, _, _, _, _⟩) rfl (fun Kq hKq => ?_) AllReadyH.nil
                                        have cQ0 := hV142_3.out.cell 0 0 rfl rfl
                                        have fQ0 := hV142_3.out.free 0 0 rfl
                                        have cQ1 := hV142_3.out.cell 0 1 rfl rfl
                                        have fQ1 := hV142_3.out.free 0 1 rfl
                                        go_simp
                                        refine stepH hKq (show St w _ [(b205, #[.slice a141 n141 c141, .bool m141], 27)] [fun V => Zd V (.slice a1 n1 c1) m1 (((fac k : Nat) : Int)), fun V => Zd V (.slice a140 n140 c140) m140 (((k : Int) + 1)), fun V => Zd V (.slice a141 n141 c141) m141 ((((fac k : Nat) : Int) * ((k : Int) + 1)))] from (hV142_3.out.set2 0 rfl)) (fun _ hX => trivial) ?_
                                        intro V142_4 hc hH142_4
                                        have hV142_4 := Lib.hid hc
                                        clear hc hKq Kq hV142_3 cQ0 fQ0 cQ1 fQ1 hH142_3
                                        try simp only [Act.put, List.setIfInBounds_toArray, List.set_cons_zero, List.set_cons_succ]
                                        refine wpAnyH_done (by kernel_rfl) ?_ _
                                        refine NoPanic.normal ?_
                                        go_wp2
                                        go_roundw
                                        case rel =>
                                          refine ⟨k + 1, a141, n141, c141, m141, by omega, by go_num, ?_⟩
                                          rw [HF.out]
                                          exact Lib.hid (hV142_4.out.pick [2] rfl)
                                        case measure => simp [intOf]; omega
                                    exact AllReadyH.nil
                                  · have hn1 : ¬ ((k : Int) + 1 ≤ 25) := by omega
                                    obtain rfl : k = 25 := by omega
                                    have hC9 : Hid (St w wr [(b205, #[.slice a1 n1 c1, .bool m1], 27)] [fun V => Zd V (.slice a1 n1 c1) m1 (15511210043330985984000000)]) := Lib.hid ((hC.out.push (r := fun V => Zd V (.slice a1 n1 c1) m1 (15511210043330985984000000)) (fun _ _ k hz => hz.keep k) (by have h := hC.out.z 0 rfl; rw [fac25] at h; exact h)).pick [1] rfl)
                                    clear hC
                                    go_wp2_with fail
                                    go_meet
                                    exact ⟨_, _, _, _, hC9⟩
                            case rest =>
                              as_aux_lemma =>
                                clear hK26
                                obtain ⟨a1, n1, c1, m1, hC9⟩ := hcut
                                go_upto_region 31 with fail
                                refine wp_gen hC9.out ?_
                                intro W153 hc
                                clear hC9
                                have hD153 := Lib.hid hc
                                clear hc
                                go_cut [28, 29, 30] (fun s28 s29 s30 wx => ∃ b153_0 b153_1 a151 n151 c151 m151 a152 n152 c152 m152, s28 = .pointer (some ⟨b153_0, 0, none⟩) ∧ s29 = .pointer (some ⟨b153_1, 0, none⟩) ∧ s30 = .int .i64 0 ∧ Hid (St w wx [(b205, #[.slice a1 n1 c1, .bool m1], 27), (b153_0, #[.slice a151 n151 c151, .bool m151], 27), (b153_1, #[.slice a152 n152 c152, .bool m152], 27)] [fun V => Zd V (.slice a1 n1 c1) m1 ((15511210043330985984000000)), fun V => Zd V (.slice a151 n151 c151) m151 (1551121009451797), fun V => Zd V (.slice a152 n152 c152) m152 (9295909301)]))
                                case first =>
                                  as_aux_lemma =>
                                    refine wp_region_held_drew (S := (fun w' => w'.cell? ⟨b205, 0, none⟩ = some (.slice a1 n1 c1) ∧ w'.cell? ⟨b205, 1, none⟩ = some (.bool m1) ∧ True)) (by kernel_rfl) ⟨hD153.out.drew.cell 0 0 rfl rfl, hD153.out.drew.cell 0 1 rfl rfl, trivial⟩ (fun hH => ?_)
                                    refine wpAnyH_gen (show St w _ [(b205, #[.slice a1 n1 c1, .bool m1], 27)] [fun V => Zd V (.slice a1 n1 c1) m1 ((15511210043330985984000000))] from hD153.out.drew) hH ?_
                                    intro V154_0 hc hH154_0
                                    have hV154_0 := Lib.hid hc
                                    clear hc hH hD153
                                    refine wpAnyH_take (i := 0) (oi := ⟨_, _, _, _, _, _⟩) (v := ?_) rfl (by kernel_rfl) (by kernel_rfl) (by kernel_rfl) (fun _ _ _ h => h) (Or.inl ⟨by rfl, ?_⟩) hH154_0 ?_
                                    rotate_left
                                    · intro wS hSw; (try dsimp only at hSw); go_simp; try with_reducible rfl
                                    try simp only [Act.put, List.setIfInBounds_toArray, List.set_cons_zero, List.set_cons_succ]
                                    refine wpAnyH_ready (rs := [1, 7, 8]) (by kernel_rfl) (by simp) ?_
                                    refine AllReadyH.cons (o := ⟨_, _, _, _, _, _⟩) rfl (fun Kq hKq => ?_) ?_
                                    · as_aux_lemma =>
                                        go_simp
                                        go_at_call 14
                                        refine (z_is (by decide) z99).mono ?_
                                        rintro e w150 ⟨a150, n150, c150, m150, rfl, hz, hb⟩
                                        (try go_wp2_with fail)
                                        refine stepH hKq (show St w _ [(b205, #[.slice a1 n1 c1, .bool m1], 27)] [fun V => Zd V (.slice a1 n1 c1) m1 ((15511210043330985984000000)), fun V => Zd V (.slice a150 n150 c150) m150 (9999999967)] from ((hV154_0.out.call hb).pz hz)) (fun _ hX => ⟨hX.cell 0 0 rfl rfl, hX.cell 0 1 rfl rfl, trivial⟩) ?_
                                        intro V154_1 hc hH154_1
                                        have hV154_1 := Lib.hid hc
                                        clear hc hKq Kq hV154_0 hb hz hH154_0
                                        try simp only [Act.put, List.setIfInBounds_toArray, List.set_cons_zero, List.set_cons_succ]
                                        refine wpAnyH_ready (rs := [2, 7, 8]) (by kernel_rfl) (by simp) ?_
                                        refine AllReadyH.cons (o := ⟨_, _, _, _, _, _⟩) rfl (fun Kq hKq => ?_) ?_
                                        · as_aux_lemma =>
                                            go_simp
                                            go_at_call 12
                                            refine (quo_b (hV154_1.out.z 0 rfl) (hV154_1.out.z 1 rfl) (by omega) (bdl (n := 90) (z := 15511210043330985984000000) (by decide)) (bdl (n := 40) (z := 9999999967) (by decide)) (by omega) (by omega)).mono ?_
                                            rintro e w151 ⟨a151, n151, c151, m151, a152, n152, c152, m152, rfl, hz, hz2, hb⟩
                                            rw [big_q] at hz
                                            rw [big_m] at hz2
                                            (try go_wp2_with fail)
                                            refine stepH hKq (show St w _ [(b205, #[.slice a1 n1 c1, .bool m1], 27)] [fun V => Zd V (.slice a1 n1 c1) m1 ((15511210043330985984000000)), fun V => Zd V (.slice a150 n150 c150) m150 (9999999967), fun V => Zd V (.slice a151 n151 c151) m151 (1551121009451797), fun V => Zd V (.slice a152 n152 c152) m152 (9295909301)] from (((hV154_1.out.call hb).pz hz).pz hz2)) (fun _ hX => ⟨hX.cell 0 0 rfl rfl, hX.cell 0 1 rfl rfl, trivial⟩) ?_
                                            intro V154_2 hc hH154_2
                                            have hV154_2 := Lib.hid hc
                                            clear hc hKq Kq hV154_1 hb hz hz2 hH154_1
                                            try simp only [Act.put, List.setIfInBounds_toArray, List.set_cons_zero, List.set_cons_succ]
                                            refine wpAnyH_take (i := 3) (oi := ⟨_, _, _, _, _, _⟩) (v := ?_) rfl (by kernel_rfl) (by kernel_rfl) (by kernel_rfl) (fun _ _ _ h => h) (Or.inl ⟨by rfl, ?_⟩) hH154_2 ?_
                                            rotate_left
                                            · intro wS hSw; (try dsimp only at hSw); go_simp; try with_reducible rfl
                                            try simp only [Act.put, List.setIfInBounds_toArray, List.set_cons_zero, List.set_cons_succ]
                                            refine wpAnyH_take (i := 4) (oi := ⟨_, _, _, _, _, _⟩) (v := ?_) rfl (by kernel_rfl) (by kernel_rfl) (by kernel_rfl) (fun _ _ _ h => h) (Or.inl ⟨by rfl, ?_⟩) hH154_2 ?_
                                            rotate_left
                                            · intro wS hSw; (try dsimp only at hSw); go_simp; try with_reducible rfl
                                            try simp only [Act.put, List.setIfInBounds_toArray, List.set_cons_zero, List.set_cons_succ]
                                            refine wpAnyH_take (i := 5) (oi := ⟨_, _, _, _, _, _⟩) (v := ?_) rfl (by kernel_rfl) (by kernel_rfl) (by kernel_rfl) (fun _ _ _ h => h) (Or.inl ⟨by rfl, ?_⟩) hH154_2 ?_
                                            rotate_left
                                            · intro wS hSw; (try dsimp only at hSw); go_simp; try with_reducible rfl
                                            try simp only [Act.put, List.setIfInBounds_toArray, List.set_cons_zero, List.set_cons_succ]
                                            refine wpAnyH_take (i := 6) (oi := ⟨_, _, _, _, _, _⟩) (v := ?_) rfl (by kernel_rfl) (by kernel_rfl) (by kernel_rfl) (fun _ _ _ h => h) (Or.inl ⟨by rfl, ?_⟩) hH154_2 ?_
                                            rotate_left
                                            · intro wS hSw; (try dsimp only at hSw); go_simp; try with_reducible rfl
                                            try simp only [Act.put, List.setIfInBounds_toArray, List.set_cons_zero, List.set_cons_succ]
                                            refine wpAnyH_ready (rs := [7, 8]) (by kernel_rfl) (by simp) ?_
                                            refine AllReadyH.cons (o := ⟨_, _, _, _, _, _⟩) rfl (fun Kq hKq => ?_) ?_
                                            · as_aux_lemma =>
                                                go_simp
                                                refine stepH hKq (show St w _ [(b205, #[.slice a1 n1 c1, .bool m1], 27), (V154_2.heap.size, #[.slice none 0 0, .bool false], 27)] [fun V => Zd V (.slice a1 n1 c1) m1 ((15511210043330985984000000)), fun V => Zd V (.slice a150 n150 c150) m150 (9999999967), fun V => Zd V (.slice a151 n151 c151) m151 (1551121009451797), fun V => Zd V (.slice a152 n152 c152) m152 (9295909301)] from (hV154_2.out.al V154_2.heap.size #[.slice none 0 0, .bool false] 27 rfl rfl)) (fun _ hX => ⟨hX.cell 0 0 rfl rfl, hX.cell 0 1 rfl rfl, trivial⟩) ?_
                                                intro V154_3 hc hH154_3
                                                have hV154_3 := Lib.hid hc
                                                clear hc hKq Kq hV154_2 hH154_2
                                                try simp only [Act.put, List.setIfInBounds_toArray, List.set_cons_zero, List.set_cons_succ]
                                                refine wpAnyH_ready (rs := [8]) (by kernel_rfl) (by simp) ?_
                                                refine AllReadyH.cons (o := ⟨_, _, _, _, _, _⟩) rfl (fun Kq hKq => ?_) AllReadyH.nil
                                                go_simp
                                                refine stepH hKq (show St w _ [(b205, #[.slice a1 n1 c1, .bool m1], 27), (V154_2.heap.size, #[.slice none 0 0, .bool false], 27), (V154_3.heap.size, #[.slice none 0 0, .bool false], 27)] [fun V => Zd V (.slice a1 n1 c1) m1 ((15511210043330985984000000)), fun V => Zd V (.slice a150 n150 c150) m150 (9999999967), fun V => Zd V (.slice a151 n151 c151) m151 (1551121009451797), fun V => Zd V (.slice a152 n152 c152) m152 (9295909301)] from (hV154_3.out.al V154_3.heap.size #[.slice none 0 0, .bool false] 27 rfl rfl)) (fun _ hX => ⟨hX.cell 0 0 rfl rfl, hX.cell 0 1 rfl rfl, trivial⟩) ?_
                                                intro V154_4 hc hH154_4
                                                have hV154_4 := Lib.hid hc
                                                clear hc hKq Kq hV154_3 hH154_3
                                                try simp only [Act.put, List.setIfInBounds_toArray, List.set_cons_zero, List.set_cons_succ]
                                                refine wpAnyH_ready (rs := [9]) (by kernel_rfl) (by simp) ?_
                                                refine AllReadyH.cons (o := ⟨_, _, _, _, _, _⟩) rfl (fun Kq hKq => ?_) AllReadyH.nil
                                                have cQ0 := hV154_4.out.cell 1 0 rfl rfl
                                                have fQ0 := hV154_4.out.free 1 0 rfl
                                                have cQ1 := hV154_4.out.cell 1 1 rfl rfl
                                                have fQ1 := hV154_4.out.free 1 1 rfl
                                                go_simp
                                                refine stepH hKq (show St w _ [(b205, #[.slice a1 n1 c1, .bool m1], 27), (V154_2.heap.size, #[.slice a151 n151 c151, .bool m151], 27), (V154_3.heap.size, #[.slice none 0 0, .bool false], 27)] [fun V => Zd V (.slice a1 n1 c1) m1 ((15511210043330985984000000)), fun V => Zd V (.slice a150 n150 c150) m150 (9999999967), fun V => Zd V (.slice a151 n151 c151) m151 (1551121009451797), fun V => Zd V (.slice a152 n152 c152) m152 (9295909301)] from (hV154_4.out.set2 1 rfl)) (fun _ hX => ⟨hX.cell 0 0 rfl rfl, hX.cell 0 1 rfl rfl, trivial⟩) ?_
                                                intro V154_5 hc hH154_5
                                                have hV154_5 := Lib.hid hc
                                                clear hc hKq Kq hV154_4 cQ0 fQ0 cQ1 fQ1 hH154_4
                                                try simp only [Act.put, List.setIfInBounds_toArray, List.set_cons_zero, List.set_cons_succ]
                                                refine wpAnyH_ready (rs := [10]) (by kernel_rfl) (by simp) ?_
                                                refine AllReadyH.cons (o := ⟨_, _, _, _, _, _⟩) rfl (fun Kq hKq => ?_) AllReadyH.nil
                                                have cQ0 := hV154_5.out.cell 2 0 rfl rfl
                                                have fQ0 := hV154_5.out.free 2 0 rfl
                                                have cQ1 := hV154_5.out.cell 2 1 rfl rfl
                                                have fQ1 := hV154_5.out.free 2 1 rfl
                                                go_simp
                                                refine stepH hKq (show St w _ [(b205, #[.slice a1 n1 c1, .bool m1], 27), (V154_2.heap.size, #[.slice a151 n151 c151, .bool m151], 27), (V154_3.heap.size, #[.slice a152 n152 c152, .bool m152], 27)] [fun V => Zd V (.slice a1 n1 c1) m1 ((15511210043330985984000000)), fun V => Zd V (.slice a150 n150 c150) m150 (9999999967), fun V => Zd V (.slice a151 n151 c151) m151 (1551121009451797), fun V => Zd V (.slice a152 n152 c152) m152 (9295909301)] from (hV154_5.out.set2 2 rfl)) (fun _ hX => ⟨hX.cell 0 0 rfl rfl, hX.cell 0 1 rfl rfl, trivial⟩) ?_
                                                intro V154_6 hc hH154_6
                                                have hV154_6 := Lib.hid hc
                                                clear hc hKq Kq hV154_5 cQ0 fQ0 cQ1 fQ1 hH154_5
                                                try simp only [Act.put, List.setIfInBounds_toArray, List.set_cons_zero, List.set_cons_succ]
                                                refine wpAnyH_ready (rs := [11]) (by kernel_rfl) (by simp) ?_
                                                refine AllReadyH.cons (o := ⟨_, _, _, _, _, _⟩) rfl (fun Kq hKq => ?_) AllReadyH.nil
                                                go_simp
                                                refine stepH hKq (show St w _ [(b205, #[.slice a1 n1 c1, .bool m1], 27), (V154_2.heap.size, #[.slice a151 n151 c151, .bool m151], 27), (V154_3.heap.size, #[.slice a152 n152 c152, .bool m152], 27)] [fun V => Zd V (.slice a1 n1 c1) m1 ((15511210043330985984000000)), fun V => Zd V (.slice a150 n150 c150) m150 (9999999967), fun V => Zd V (.slice a151 n151 c151) m151 (1551121009451797), fun V => Zd V (.slice a152 n152 c152) m152 (9295909301)] from hV154_6.out) (fun _ hX => ⟨hX.cell 0 0 rfl rfl, hX.cell 0 1 rfl rfl, trivial⟩) ?_
                                                intro V154_7 hc hH154_7
                                                have hV154_7 := Lib.hid hc
                                                clear hc hKq Kq hV154_6 hH154_6
                                                try simp only [Act.put, List.setIfInBounds_toArray, List.set_cons_zero, List.set_cons_succ]
                                                refine wpAnyH_done (by kernel_rfl) ?_ _
                                                go_wp2_with fail
                                                go_meet
                                                refine ⟨_, _, a151, n151, c151, m151, a152, n152, c152, m152, rfl, rfl, rfl, ?_⟩
                                                exact Lib.hid (St.pick (St.bpick hV154_7.out [0, 1, 2] (by decide) rfl) [0, 2, 3] rfl)
                                            refine AllReadyH.cons (o := ⟨_, _, _, _, _, _⟩) rfl (fun Kq hKq => ?_) ?_
                                            · as_aux_lemma =>
                                                go_simp
                                                refine stepH hKq (show St w _ [(b205, #[.slice a1 n1 c1, .bool m1], 27), (V154_2.heap.size, #[.slice none 0 0, .bool false], 27)] [fun V => Zd V (.slice a1 n1 c1) m1 ((15511210043330985984000000)), fun V => Zd V (.slice a150 n150 c150) m150 (9999999967), fun V => Zd V (.slice a151 n151 c151) m151 (1551121009451797), fun V => Zd V (.slice a152 n152 c152) m152 (9295909301)] from (hV154_2.out.al V154_2.heap.size #[.slice none 0 0, .bool false] 27 rfl rfl)) (fun _ hX => ⟨hX.cell 0 0 rfl rfl, hX.cell 0 1 rfl rfl, trivial⟩) ?_
                                                intro V154_3 hc hH154_3
                                                have hV154_3 := Lib.hid hc
                                                clear hc hKq Kq hV154_2 hH154_2
                                                try simp only [Act.put, List.setIfInBounds_toArray, List.set_cons_zero, List.set_cons_succ]
                                                refine wpAnyH_ready (rs := [7]) (by kernel_rfl) (by simp) ?_
                                                refine AllReadyH.cons (o := ⟨_, _, _, _, _, _⟩) rfl (fun Kq hKq => ?_) AllReadyH.nil
                                                go_simp
                                                refine stepH hKq (show St w _ [(b205, #[.slice a1 n1 c1, .bool m1], 27), (V154_2.heap.size, #[.slice none 0 0, .bool false], 27), (V154_3.heap.size, #[.slice none 0 0, .bool false], 27)] [fun V => Zd V (.slice a1 n1 c1) m1 ((15511210043330985984000000)), fun V => Zd V (.slice a150 n150 c150) m150 (9999999967), fun V => Zd V (.slice a151 n151 c151) m151 (1551121009451797), fun V => Zd V (.slice a152 n152 c152) m152 (9295909301)] from (hV154_3.out.al V154_3.heap.size #[.slice none 0 0, .bool false] 27 rfl rfl)) (fun _ hX => ⟨hX.cell 0 0 rfl rfl, hX.cell 0 1 rfl rfl, trivial⟩) ?_
                                                intro V154_4 hc hH154_4
                                                have hV154_4 := Lib.hid hc
                                                clear hc hKq Kq hV154_3 hH154_3
                                                try simp only [Act.put, List.setIfInBounds_toArray, List.set_cons_zero, List.set_cons_succ]
                                                refine wpAnyH_ready (rs := [9]) (by kernel_rfl) (by simp) ?_
                                                refine AllReadyH.cons (o := ⟨_, _, _, _, _, _⟩) rfl (fun Kq hKq => ?_) AllReadyH.nil
                                                have cQ0 := hV154_4.out.cell 2 0 rfl rfl
                                                have fQ0 := hV154_4.out.free 2 0 rfl
                                                have cQ1 := hV154_4.out.cell 2 1 rfl rfl
                                                have fQ1 := hV154_4.out.free 2 1 rfl
                                                go_simp
                                                refine stepH hKq (show St w _ [(b205, #[.slice a1 n1 c1, .bool m1], 27), (V154_2.heap.size, #[.slice none 0 0, .bool false], 27), (V154_3.heap.size, #[.slice a151 n151 c151, .bool m151], 27)] [fun V => Zd V (.slice a1 n1 c1) m1 ((15511210043330985984000000)), fun V => Zd V (.slice a150 n150 c150) m150 (9999999967), fun V => Zd V (.slice a151 n151 c151) m151 (1551121009451797), fun V => Zd V (.slice a152 n152 c152) m152 (9295909301)] from (hV154_4.out.set2 2 rfl)) (fun _ hX => ⟨hX.cell 0 0 rfl rfl, hX.cell 0 1 rfl rfl, trivial⟩) ?_
                                                intro V154_5 hc hH154_5
                                                have hV154_5 := Lib.hid hc
                                                clear hc hKq Kq hV154_4 cQ0 fQ0 cQ1 fQ1 hH154_4
                                                try simp only [Act.put, List.setIfInBounds_toArray, List.set_cons_zero, List.set_cons_succ]
                                                refine wpAnyH_ready (rs := [10]) (by kernel_rfl) (by simp) ?_
                                                refine AllReadyH.cons (o := ⟨_, _, _, _, _, _⟩) rfl (fun Kq hKq => ?_) AllReadyH.nil
                                                have cQ0 := hV154_5.out.cell 1 0 rfl rfl
                                                have fQ0 := hV154_5.out.free 1 0 rfl
                                                have cQ1 := hV154_5.out.cell 1 1 rfl rfl
                                                have fQ1 := hV154_5.out.free 1 1 rfl
                                                go_simp
                                                refine stepH hKq (show St w _ [(b205, #[.slice a1 n1 c1, .bool m1], 27), (V154_2.heap.size, #[.slice a152 n152 c152, .bool m152], 27), (V154_3.heap.size, #[.slice a151 n151 c151, .bool m151], 27)] [fun V => Zd V (.slice a1 n1 c1) m1 ((15511210043330985984000000)), fun V => Zd V (.slice a150 n150 c150) m150 (9999999967), fun V => Zd V (.slice a151 n151 c151) m151 (1551121009451797), fun V => Zd V (.slice a152 n152 c152) m152 (9295909301)] from (hV154_5.out.set2 1 rfl)) (fun _ hX => ⟨hX.cell 0 0 rfl rfl, hX.cell 0 1 rfl rfl, trivial⟩) ?_
                                                intro V154_6 hc hH154_6
                                                have hV154_6 := Lib.hid hc
                                                clear hc hKq Kq hV154_5 cQ0 fQ0 cQ1 fQ1 hH154_5
                                                try simp only [Act.put, List.setIfInBounds_toArray, List.set_cons_zero, List.set_cons_succ]
                                                refine wpAnyH_ready (rs := [11]) (by kernel_rfl) (by simp) ?_
                                                refine AllReadyH.cons (o := ⟨_, _, _, _, _, _⟩) rfl (fun Kq hKq => ?_) AllReadyH.nil
                                                go_simp
                                                refine stepH hKq (show St w _ [(b205, #[.slice a1 n1 c1, .bool m1], 27), (V154_2.heap.size, #[.slice a152 n152 c152, .bool m152], 27), (V154_3.heap.size, #[.slice a151 n151 c151, .bool m151], 27)] [fun V => Zd V (.slice a1 n1 c1) m1 ((15511210043330985984000000)), fun V => Zd V (.slice a150 n150 c150) m150 (9999999967), fun V => Zd V (.slice a151 n151 c151) m151 (1551121009451797), fun V => Zd V (.slice a152 n152 c152) m152 (9295909301)] from hV154_6.out) (fun _ hX => ⟨hX.cell 0 0 rfl rfl, hX.cell 0 1 rfl rfl, trivial⟩) ?_
                                                intro V154_7 hc hH154_7
                                                have hV154_7 := Lib.hid hc
                                                clear hc hKq Kq hV154_6 hH154_6
                                                try simp only [Act.put, List.setIfInBounds_toArray, List.set_cons_zero, List.set_cons_succ]
                                                refine wpAnyH_done (by kernel_rfl) ?_ _
                                                go_wp2_with fail
                                                go_meet
                                                refine ⟨_, _, a151, n151, c151, m151, a152, n152, c152, m152, rfl, rfl, rfl, ?_⟩
                                                exact Lib.hid (St.pick (St.bpick hV154_7.out [0, 2, 1] (by decide) rfl) [0, 2, 3] rfl)
                                            exact AllReadyH.nil
                                        refine AllReadyH.cons (o := ⟨_, _, _, _, _, _⟩) rfl (fun Kq hKq => ?_) ?_
                                        · as_aux_lemma =>
                                            go_simp
                                            refine stepH hKq (show St w _ [(b205, #[.slice a1 n1 c1, .bool m1], 27), (V154_1.heap.size, #[.slice none 0 0, .bool false], 27)] [fun V => Zd V (.slice a1 n1 c1) m1 ((15511210043330985984000000)), fun V => Zd V (.slice a150 n150 c150) m150 (9999999967)] from (hV154_1.out.al V154_1.heap.size #[.slice none 0 0, .bool false] 27 rfl rfl)) (fun _ hX => ⟨hX.cell 0 0 rfl rfl, hX.cell 0 1 rfl rfl, trivial⟩) ?_
                                            intro V154_2 hc hH154_2
                                            have hV154_2 := Lib.hid hc
                                            clear hc hKq Kq hV154_1 hH154_1
                                            try simp only [Act.put, List.setIfInBounds_toArray, List.set_cons_zero, List.set_cons_succ]
                                            refine wpAnyH_ready (rs := [2, 8]) (by kernel_rfl) (by simp) ?_
                                            refine AllReadyH.cons (o := ⟨_, _, _, _, _, _⟩) rfl (fun Kq hKq => ?_) ?_
                                            · as_aux_lemma =>
                                                go_simp
                                                go_at_call 12
                                                refine (quo_b (hV154_2.out.z 0 rfl) (hV154_2.out.z 1 rfl) (by omega) (bdl (n := 90) (z := 15511210043330985984000000) (by decide)) (bdl (n := 40) (z := 9999999967) (by decide)) (by omega) (by omega)).mono ?_
                                                rintro e w151 ⟨a151, n151, c151, m151, a152, n152, c152, m152, rfl, hz, hz2, hb⟩
                                                rw [big_q] at hz
                                                rw [big_m] at hz2
                                                (try go_wp2_with fail)
                                                refine stepH hKq (show St w _ [(b205, #[.slice a1 n1 c1, .bool m1], 27), (V154_1.heap.size, #[.slice none 0 0, .bool false], 27)] [fun V => Zd V (.slice a1 n1 c1) m1 ((15511210043330985984000000)), fun V => Zd V (.slice a150 n150 c150) m150 (9999999967), fun V => Zd V (.slice a151 n151 c151) m151 (1551121009451797), fun V => Zd V (.slice a152 n152 c152) m152 (9295909301)] from (((hV154_2.out.call hb).pz hz).pz hz2)) (fun _ hX => ⟨hX.cell 0 0 rfl rfl, hX.cell 0 1 rfl rfl, trivial⟩) ?_
                                                intro V154_3 hc hH154_3
                                                have hV154_3 := Lib.hid hc
                                                clear hc hKq Kq hV154_2 hb hz hz2 hH154_2
                                                try simp only [Act.put, List.setIfInBounds_toArray, List.set_cons_zero, List.set_cons_succ]
                                                refine wpAnyH_take (i := 3) (oi := ⟨_, _, _, _, _, _⟩) (v := ?_) rfl (by kernel_rfl) (by kernel_rfl) (by kernel_rfl) (fun _ _ _ h => h) (Or.inl ⟨by rfl, ?_⟩) hH154_3 ?_
                                                rotate_left
                                                · intro wS hSw; (try dsimp only at hSw); go_simp; try with_reducible rfl
                                                try simp only [Act.put, List.setIfInBounds_toArray, List.set_cons_zero, List.set_cons_succ]
                                                refine wpAnyH_take (i := 4) (oi := ⟨_, _, _, _, _, _⟩) (v := ?_) rfl (by kernel_rfl) (by kernel_rfl) (by kernel_rfl) (fun _ _ _ h => h) (Or.inl ⟨by rfl, ?_⟩) hH154_3 ?_
                                                rotate_left
                                                · intro wS hSw; (try dsimp only at hSw); go_simp; try with_reducible rfl
                                                try simp only [Act.put, List.setIfInBounds_toArray, List.set_cons_zero, List.set_cons_succ]
                                                refine wpAnyH_take (i := 5) (oi := ⟨_, _, _, _, _, _⟩) (v := ?_) rfl (by kernel_rfl) (by kernel_rfl) (by kernel_rfl) (fun _ _ _ h => h) (Or.inl ⟨by rfl, ?_⟩) hH154_3 ?_
                                                rotate_left
                                                · intro wS hSw; (try dsimp only at hSw); go_simp; try with_reducible rfl
                                                try simp only [Act.put, List.setIfInBounds_toArray, List.set_cons_zero, List.set_cons_succ]
                                                refine wpAnyH_take (i := 6) (oi := ⟨_, _, _, _, _, _⟩) (v := ?_) rfl (by kernel_rfl) (by kernel_rfl) (by kernel_rfl) (fun _ _ _ h => h) (Or.inl ⟨by rfl, ?_⟩) hH154_3 ?_
                                                rotate_left
                                                · intro wS hSw; (try dsimp only at hSw); go_simp; try with_reducible rfl
                                                try simp only [Act.put, List.setIfInBounds_toArray, List.set_cons_zero, List.set_cons_succ]
                                                refine wpAnyH_ready (rs := [8]) (by kernel_rfl) (by simp) ?_
                                                refine AllReadyH.cons (o := ⟨_, _, _, _, _, _⟩) rfl (fun Kq hKq => ?_) AllReadyH.nil
                                                go_simp
                                                refine stepH hKq (show St w _ [(b205, #[.slice a1 n1 c1, .bool m1], 27), (V154_1.heap.size, #[.slice none 0 0, .bool false], 27), (V154_3.heap.size, #[.slice none 0 0, .bool false], 27)] [fun V => Zd V (.slice a1 n1 c1) m1 ((15511210043330985984000000)), fun V => Zd V (.slice a150 n150 c150) m150 (9999999967), fun V => Zd V (.slice a151 n151 c151) m151 (1551121009451797), fun V => Zd V (.slice a152 n152 c152) m152 (9295909301)] from (hV154_3.out.al V154_3.heap.size #[.slice none 0 0, .bool false] 27 rfl rfl)) (fun _ hX => ⟨hX.cell 0 0 rfl rfl, hX.cell 0 1 rfl rfl, trivial⟩) ?_
                                                intro V154_4 hc hH154_4
                                                have hV154_4 := Lib.hid hc
                                                clear hc hKq Kq hV154_3 hH154_3
                                                try simp only [Act.put, List.setIfInBounds_toArray, List.set_cons_zero, List.set_cons_succ]
                                                refine wpAnyH_ready (rs := [9]) (by kernel_rfl) (by simp) ?_
                                                refine AllReadyH.cons (o := ⟨_, _, _, _, _, _⟩) rfl (fun Kq hKq => ?_) AllReadyH.nil
                                                have cQ0 := hV154_4.out.cell 1 0 rfl rfl
                                                have fQ0 := hV154_4.out.free 1 0 rfl
                                                have cQ1 := hV154_4.out.cell 1 1 rfl rfl
                                                have fQ1 := hV154_4.out.free 1 1 rfl
                                                go_simp
                                                refine stepH hKq (show St w _ [(b205, #[.slice a1 n1 c1, .bool m1], 27), (V154_1.heap.size, #[.slice a151 n151 c151, .bool m151], 27), (V154_3.heap.size, #[.slice none 0 0, .bool false], 27)] [fun V => Zd V (.slice a1 n1 c1) m1 ((15511210043330985984000000)), fun V => Zd V (.slice a150 n150 c150) m150 (9999999967), fun V => Zd V (.slice a151 n151 c151) m151 (1551121009451797), fun V => Zd V (.slice a152 n152 c152) m152 (9295909301)] from (hV154_4.out.set2 1 rfl)) (fun _ hX => ⟨hX.cell 0 0 rfl rfl, hX.cell 0 1 rfl rfl, trivial⟩) ?_
                                                intro V154_5 hc hH154_5
                                                have hV154_5 := Lib.hid hc
                                                clear hc hKq Kq hV154_4 cQ0 fQ0 cQ1 fQ1 hH154_4
                                                try simp only [Act.put, List.setIfInBounds_toArray, List.set_cons_zero, List.set_cons_succ]
                                                refine wpAnyH_ready (rs := [10]) (by kernel_rfl) (by simp) ?_
                                                refine AllReadyH.cons (o := ⟨_, _, _, _, _, _⟩) rfl (fun Kq hKq => ?_) AllReadyH.nil
                                                have cQ0 := hV154_5.out.cell 2 0 rfl rfl
                                                have fQ0 := hV154_5.out.free 2 0 rfl
                                                have cQ1 := hV154_5.out.cell 2 1 rfl rfl
                                                have fQ1 := hV154_5.out.free 2 1 rfl
                                                go_simp
                                                refine stepH hKq (show St w _ [(b205, #[.slice a1 n1 c1, .bool m1], 27), (V154_1.heap.size, #[.slice a151 n151 c151, .bool m151], 27), (V154_3.heap.size, #[.slice a152 n152 c152, .bool m152], 27)] [fun V => Zd V (.slice a1 n1 c1) m1 ((15511210043330985984000000)), fun V => Zd V (.slice a150 n150 c150) m150 (9999999967), fun V => Zd V (.slice a151 n151 c151) m151 (1551121009451797), fun V => Zd V (.slice a152 n152 c152) m152 (9295909301)] from (hV154_5.out.set2 2 rfl)) (fun _ hX => ⟨hX.cell 0 0 rfl rfl, hX.cell 0 1 rfl rfl, trivial⟩) ?_
                                                intro V154_6 hc hH154_6
                                                have hV154_6 := Lib.hid hc
                                                clear hc hKq Kq hV154_5 cQ0 fQ0 cQ1 fQ1 hH154_5
                                                try simp only [Act.put, List.setIfInBounds_toArray, List.set_cons_zero, List.set_cons_succ]
                                                refine wpAnyH_ready (rs := [11]) (by kernel_rfl) (by simp) ?_
                                                refine AllReadyH.cons (o := ⟨_, _, _, _, _, _⟩) rfl (fun Kq hKq => ?_) AllReadyH.nil
                                                go_simp
                                                refine stepH hKq (show St w _ [(b205, #[.slice a1 n1 c1, .bool m1], 27), (V154_1.heap.size, #[.slice a151 n151 c151, .bool m151], 27), (V154_3.heap.size, #[.slice a152 n152 c152, .bool m152], 27)] [fun V => Zd V (.slice a1 n1 c1) m1 ((15511210043330985984000000)), fun V => Zd V (.slice a150 n150 c150) m150 (9999999967), fun V => Zd V (.slice a151 n151 c151) m151 (1551121009451797), fun V => Zd V (.slice a152 n152 c152) m152 (9295909301)] from hV154_6.out) (fun _ hX => ⟨hX.cell 0 0 rfl rfl, hX.cell 0 1 rfl rfl, trivial⟩) ?_
                                                intro V154_7 hc hH154_7
                                                have hV154_7 := Lib.hid hc
                                                clear hc hKq Kq hV154_6 hH154_6
                                                try simp only [Act.put, List.setIfInBounds_toArray, List.set_cons_zero, List.set_cons_succ]
                                                refine wpAnyH_done (by kernel_rfl) ?_ _
                                                go_wp2_with fail
                                                go_meet
                                                refine ⟨_, _, a151, n151, c151, m151, a152, n152, c152, m152, rfl, rfl, rfl, ?_⟩
                                                exact Lib.hid (St.pick (St.bpick hV154_7.out [0, 1, 2] (by decide) rfl) [0, 2, 3] rfl)
                                            refine AllReadyH.cons (o := ⟨_, _, _, _, _, _⟩) rfl (fun Kq hKq => ?_) ?_
                                            · as_aux_lemma =>
                                                go_simp
                                                refine stepH hKq (show St w _ [(b205, #[.slice a1 n1 c1, .bool m1], 27), (V154_1.heap.size, #[.slice none 0 0, .bool false], 27), (V154_2.heap.size, #[.slice none 0 0, .bool false], 27)] [fun V => Zd V (.slice a1 n1 c1) m1 ((15511210043330985984000000)), fun V => Zd V (.slice a150 n150 c150) m150 (9999999967)] from (hV154_2.out.al V154_2.heap.size #[.slice none 0 0, .bool false] 27 rfl rfl)) (fun _ hX => ⟨hX.cell 0 0 rfl rfl, hX.cell 0 1 rfl rfl, trivial⟩) ?_
                                                intro V154_3 hc hH154_3
                                                have hV154_3 := Lib.hid hc
                                                clear hc hKq Kq hV154_2 hH154_2
                                                try simp only [Act.put, List.setIfInBounds_toArray, List.set_cons_zero, List.set_cons_succ]
                                                refine wpAnyH_ready (rs := [2]) (by kernel_rfl) (by simp) ?_
                                                refine AllReadyH.cons (o := ⟨_, _, _, _, _, _⟩) rfl (fun Kq hKq => ?_) AllReadyH.nil
                                                go_simp
                                                go_at_call 12
                                                refine (quo_b (hV154_3.out.z 0 rfl) (hV154_3.out.z 1 rfl) (by omega) (bdl (n := 90) (z := 15511210043330985984000000) (by decide)) (bdl (n := 40) (z := 9999999967) (by decide)) (by omega) (by omega)).mono ?_
                                                rintro e w151 ⟨a151, n151, c151, m151, a152, n152, c152, m152, rfl, hz, hz2, hb⟩
                                                rw [big_q] at hz
                                                rw [big_m] at hz2
                                                (try go_wp2_with fail)
                                                refine stepH hKq (show St w _ [(b205, #[.slice a1 n1 c1, .bool m1], 27), (V154_1.heap.size, #[.slice none 0 0, .bool false], 27), (V154_2.heap.size, #[.slice none 0 0, .bool false], 27)] [fun V => Zd V (.slice a1 n1 c1) m1 ((15511210043330985984000000)), fun V => Zd V (.slice a150 n150 c150) m150 (9999999967), fun V => Zd V (.slice a151 n151 c151) m151 (1551121009451797), fun V => Zd V (.slice a152 n152 c152) m152 (9295909301)] from (((hV154_3.out.call hb).pz hz).pz hz2)) (fun _ hX => ⟨hX.cell 0 0 rfl rfl, hX.cell 0 1 rfl rfl, trivial⟩) ?_
                                                intro V154_4 hc hH154_4
                                                have hV154_4 := Lib.hid hc
                                                clear hc hKq Kq hV154_3 hb hz hz2 hH154_3
                                                try simp only [Act.put, List.setIfInBounds_toArray, List.set_cons_zero, List.set_cons_succ]
                                                refine wpAnyH_take (i := 3) (oi := ⟨_, _, _, _, _, _⟩) (v := ?_) rfl (by kernel_rfl) (by kernel_rfl) (by kernel_rfl) (fun _ _ _ h => h) (Or.inl ⟨by rfl, ?_⟩) hH154_4 ?_
                                                rotate_left
                                                · intro wS hSw; (try dsimp only at hSw); go_simp; try with_reducible rfl
                                                try simp only [Act.put, List.setIfInBounds_toArray, List.set_cons_zero, List.set_cons_succ]
                                                refine wpAnyH_take (i := 4) (oi := ⟨_, _, _, _, _, _⟩) (v := ?_) rfl (by kernel_rfl) (by kernel_rfl) (by kernel_rfl) (fun _ _ _ h => h) (Or.inl ⟨by rfl, ?_⟩) hH154_4 ?_
                                                rotate_left
                                                · intro wS hSw; (try dsimp only at hSw); go_simp; try with_reducible rfl
                                                try simp only [Act.put, List.setIfInBounds_toArray, List.set_cons_zero, List.set_cons_succ]
                                                refine wpAnyH_take (i := 5) (oi := ⟨_, _, _, _, _, _⟩) (v := ?_) rfl (by kernel_rfl) (by kernel_rfl) (by kernel_rfl) (fun _ _ _ h => h) (Or.inl ⟨by rfl, ?_⟩) hH154_4 ?_
                                                rotate_left
                                                · intro wS hSw; (try dsimp only at hSw); go_simp; try with_reducible rfl
                                                try simp only [Act.put, List.setIfInBounds_toArray, List.set_cons_zero, List.set_cons_succ]
                                                refine wpAnyH_take (i := 6) (oi := ⟨_, _, _, _, _, _⟩) (v := ?_) rfl (by kernel_rfl) (by kernel_rfl) (by kernel_rfl) (fun _ _ _ h => h) (Or.inl ⟨by rfl, ?_⟩) hH154_4 ?_
                                                rotate_left
                                                · intro wS hSw; (try dsimp only at hSw); go_simp; try with_reducible rfl
                                                try simp only [Act.put, List.setIfInBounds_toArray, List.set_cons_zero, List.set_cons_succ]
                                                refine wpAnyH_ready (rs := [9]) (by kernel_rfl) (by simp) ?_
                                                refine AllReadyH.cons (o := ⟨_, _, _, _, _, _⟩) rfl (fun Kq hKq => ?_) AllReadyH.nil
                                                have cQ0 := hV154_4.out.cell 1 0 rfl rfl
                                                have fQ0 := hV154_4.out.free 1 0 rfl
                                                have cQ1 := hV154_4.out.cell 1 1 rfl rfl
                                                have fQ1 := hV154_4.out.free 1 1 rfl
                                                go_simp
                                                refine stepH hKq (show St w _ [(b205, #[.slice a1 n1 c1, .bool m1], 27), (V154_1.heap.size, #[.slice a151 n151 c151, .bool m151], 27), (V154_2.heap.size, #[.slice none 0 0, .bool false], 27)] [fun V => Zd V (.slice a1 n1 c1) m1 ((15511210043330985984000000)), fun V => Zd V (.slice a150 n150 c150) m150 (9999999967), fun V => Zd V (.slice a151 n151 c151) m151 (1551121009451797), fun V => Zd V (.slice a152 n152 c152) m152 (9295909301)] from (hV154_4.out.set2 1 rfl)) (fun _ hX => ⟨hX.cell 0 0 rfl rfl, hX.cell 0 1 rfl rfl, trivial⟩) ?_
                                                intro V154_5 hc hH154_5
                                                have hV154_5 := Lib.hid hc
                                                clear hc hKq Kq hV154_4 cQ0 fQ0 cQ1 fQ1 hH154_4
                                                try simp only [Act.put, List.setIfInBounds_toArray, List.set_cons_zero, List.set_cons_succ]
                                                refine wpAnyH_ready (rs := [10]) (by kernel_rfl) (by simp) ?_
                                                refine AllReadyH.cons (o := ⟨_, _, _, _, _, _⟩) rfl (fun Kq hKq => ?_) AllReadyH.nil
                                                have cQ0 := hV154_5.out.cell 2 0 rfl rfl
                                                have fQ0 := hV154_5.out.free 2 0 rfl
                                                have cQ1 := hV154_5.out.cell 2 1 rfl rfl
                                                have fQ1 := hV154_5.out.free 2 1 rfl
                                                go_simp
                                                refine stepH hKq (show St w _ [(b205, #[.slice a1 n1 c1, .bool m1], 27), (V154_1.heap.size, #[.slice a151 n151 c151, .bool m151], 27), (V154_2.heap.size, #[.slice a152 n152 c152, .bool m152], 27)] [fun V => Zd V (.slice a1 n1 c1) m1 ((15511210043330985984000000)), fun V => Zd V (.slice a150 n150 c150) m150 (9999999967), fun V => Zd V (.slice a151 n151 c151) m151 (1551121009451797), fun V => Zd V (.slice a152 n152 c152) m152 (9295909301)] from (hV154_5.out.set2 2 rfl)) (fun _ hX => ⟨hX.cell 0 0 rfl rfl, hX.cell 0 1 rfl rfl, trivial⟩) ?_
                                                intro V154_6 hc hH154_6
                                                have hV154_6 := Lib.hid hc
                                                clear hc hKq Kq hV154_5 cQ0 fQ0 cQ1 fQ1 hH154_5
                                                try simp only [Act.put, List.setIfInBounds_toArray, List.set_cons_zero, List.set_cons_succ]
                                                refine wpAnyH_ready (rs := [11]) (by kernel_rfl) (by simp) ?_
                                                refine AllReadyH.cons (o := ⟨_, _, _, _, _, _⟩) rfl (fun Kq hKq => ?_) AllReadyH.nil
                                                go_simp
                                                refine stepH hKq (show St w _ [(b205, #[.slice a1 n1 c1, .bool m1], 27), (V154_1.heap.size, #[.slice a151 n151 c151, .bool m151], 27), (V154_2.heap.size, #[.slice a152 n152 c152, .bool m152], 27)] [fun V => Zd V (.slice a1 n1 c1) m1 ((15511210043330985984000000)), fun V => Zd V (.slice a150 n150 c150) m150 (9999999967), fun V => Zd V (.slice a151 n151 c151) m151 (1551121009451797), fun V => Zd V (.slice a152 n152 c152) m152 (9295909301)] from hV154_6.out) (fun _ hX => ⟨hX.cell 0 0 rfl rfl, hX.cell 0 1 rfl rfl, trivial⟩) ?_
                                                intro V154_7 hc hH154_7
                                                have hV154_7 := Lib.hid hc
                                                clear hc hKq Kq hV154_6 hH154_6
                                                try simp only [Act.put, List.setIfInBounds_toArray, List.set_cons_zero, List.set_cons_succ]
                                                refine wpAnyH_done (by kernel_rfl) ?_ _
                                                go_wp2_with fail
                                                go_meet
                                                refine ⟨_, _, a151, n151, c151, m151, a152, n152, c152, m152, rfl, rfl, rfl, ?_⟩
                                                exact Lib.hid (St.pick (St.bpick hV154_7.out [0, 1, 2] (by decide) rfl) [0, 2, 3] rfl)
                                            exact AllReadyH.nil
                                        refine AllReadyH.cons (o := ⟨_, _, _, _, _, _⟩) rfl (fun Kq hKq => ?_) ?_
                                        · as_aux_lemma =>
                                            go_simp
                                            refine stepH hKq (show St w _ [(b205, #[.slice a1 n1 c1, .bool m1], 27), (V154_1.heap.size, #[.slice none 0 0, .bool false], 27)] [fun V => Zd V (.slice a1 n1 c1) m1 ((15511210043330985984000000)), fun V => Zd V (.slice a150 n150 c150) m150 (9999999967)] from (hV154_1.out.al V154_1.heap.size #[.slice none 0 0, .bool false] 27 rfl rfl)) (fun _ hX => ⟨hX.cell 0 0 rfl rfl, hX.cell 0 1 rfl rfl, trivial⟩) ?_
                                            intro V154_2 hc hH154_2
                                            have hV154_2 := Lib.hid hc
                                            clear hc hKq Kq hV154_1 hH154_1
                                            try simp only [Act.put, List.setIfInBounds_toArray, List.set_cons_zero, List.set_cons_succ]
                                            refine wpAnyH_ready (rs := [2, 7]) (by kernel_rfl) (by simp) ?_
                                            refine AllReadyH.cons (o := ⟨_, _, _, _, _, _⟩) rfl (fun Kq hKq => ?_) ?_
                                            · as_aux_lemma =>
                                                go_simp
                                                go_at_call 12
                                                refine (quo_b (hV154_2.out.z 0 rfl) (hV154_2.out.z 1 rfl) (by omega) (bdl (n := 90) (z := 15511210043330985984000000) (by decide)) (bdl (n := 40) (z := 9999999967) (by decide)) (by omega) (by omega)).mono ?_
                                                rintro e w151 ⟨a151, n151, c151, m151, a152, n152, c152, m152, rfl, hz, hz2, hb⟩
                                                rw [big_q] at hz
                                                rw [big_m] at hz2
                                                (try go_wp2_with fail)
                                                refine stepH hKq (show St w _ [(b205, #[.slice a1 n1 c1, .bool m1], 27), (V154_1.heap.size, #[.slice none 0 0, .bool false], 27)] [fun V => Zd V (.slice a1 n1 c1) m1 ((15511210043330985984000000)), fun V => Zd V (.slice a150 n150 c150) m150 (9999999967), fun V => Zd V (.slice a151 n151 c151) m151 (1551121009451797), fun V => Zd V (.slice a152 n152 c152) m152 (9295909301)] from (((hV154_2.out.call hb).pz hz).pz hz2)) (fun _ hX => ⟨hX.cell 0 0 rfl rfl, hX.cell 0 1 rfl rfl, trivial⟩) ?_
                                                intro V154_3 hc hH154_3
                                                have hV154_3 := Lib.hid hc
                                                clear hc hKq Kq hV154_2 hb hz hz2 hH154_2
                                                try simp only [Act.put, List.setIfInBounds_toArray, List.set_cons_zero, List.set_cons_succ]
                                                refine wpAnyH_take (i := 3) (oi := ⟨_, _, _, _, _, _⟩) (v := ?_) rfl (by kernel_rfl) (by kernel_rfl) (by kernel_rfl) (fun _ _ _ h => h) (Or.inl ⟨by rfl, ?_⟩) hH154_3 ?_
                                                rotate_left
                                                · intro wS hSw; (try dsimp only at hSw); go_simp; try with_reducible rfl
                                                try simp only [Act.put, List.setIfInBounds_toArray, List.set_cons_zero, List.set_cons_succ]
                                                refine wpAnyH_take (i := 4) (oi := ⟨_, _, _, _, _, _⟩) (v := ?_) rfl (by kernel_rfl) (by kernel_rfl) (by kernel_rfl) (fun _ _ _ h => h) (Or.inl ⟨by rfl, ?_⟩) hH154_3 ?_
                                                rotate_left
                                                · intro wS hSw; (try dsimp only at hSw); go_simp; try with_reducible rfl
                                                try simp only [Act.put, List.setIfInBounds_toArray, List.set_cons_zero, List.set_cons_succ]
                                                refine wpAnyH_take (i := 5) (oi := ⟨_, _, _, _, _, _⟩) (v := ?_) rfl (by kernel_rfl) (by kernel_rfl) (by kernel_rfl) (fun _ _ _ h => h) (Or.inl ⟨by rfl, ?_⟩) hH154_3 ?_
                                                rotate_left
                                                · intro wS hSw; (try dsimp only at hSw); go_simp; try with_reducible rfl
                                                try simp only [Act.put, List.setIfInBounds_toArray, List.set_cons_zero, List.set_cons_succ]
                                                refine wpAnyH_take (i := 6) (oi := ⟨_, _, _, _, _, _⟩) (v := ?_) rfl (by kernel_rfl) (by kernel_rfl) (by kernel_rfl) (fun _ _ _ h => h) (Or.inl ⟨by rfl, ?_⟩) hH154_3 ?_
                                                rotate_left
                                                · intro wS hSw; (try dsimp only at hSw); go_simp; try with_reducible rfl
                                                try simp only [Act.put, List.setIfInBounds_toArray, List.set_cons_zero, List.set_cons_succ]
                                                refine wpAnyH_ready (rs := [7]) (by kernel_rfl) (by simp) ?_
                                                refine AllReadyH.cons (o := ⟨_, _, _, _, _, _⟩) rfl (fun Kq hKq => ?_) AllReadyH.nil
                                                go_simp
                                                refine stepH hKq (show St w _ [(b205, #[.slice a1 n1 c1, .bool m1], 27), (V154_1.heap.size, #[.slice none 0 0, .bool false], 27), (V154_3.heap.size, #[.slice none 0 0, .bool false], 27)] [fun V => Zd V (.slice a1 n1 c1) m1 ((15511210043330985984000000)), fun V => Zd V (.slice a150 n150 c150) m150 (9999999967), fun V => Zd V (.slice a151 n151 c151) m151 (1551121009451797), fun V => Zd V (.slice a152 n152 c152) m152 (9295909301)] from (hV154_3.out.al V154_3.heap.size #[.slice none 0 0, .bool false] 27 rfl rfl)) (fun _ hX => ⟨hX.cell 0 0 rfl rfl, hX.cell 0 1 rfl rfl, trivial⟩) ?_
                                                intro V154_4 hc hH154_4
                                                have hV154_4 := Lib.hid hc
                                                clear hc hKq Kq hV154_3 hH154_3
                                                try simp only [Act.put, List.setIfInBounds_toArray, List.set_cons_zero, List.set_cons_succ]
                                                refine wpAnyH_ready (rs := [9]) (by kernel_rfl) (by simp) ?_
                                                refine AllReadyH.cons (o := ⟨_, _, _, _, _, _⟩) rfl (fun Kq hKq => ?_) AllReadyH.nil
                                                have cQ0 := hV154_4.out.cell 2 0 rfl rfl
                                                have fQ0 := hV154_4.out.free 2 0 rfl
                                                have cQ1 := hV154_4.out.cell 2 1 rfl rfl
                                                have fQ1 := hV154_4.out.free 2 1 rfl
                                                go_simp
                                                refine stepH hKq (show St w _ [(b205, #[.slice a1 n1 c1, .bool m1], 27), (V154_1.heap.size, #[.slice none 0 0, .bool false], 27), (V154_3.heap.size, #[.slice a151 n151 c151, .bool m151], 27)] [fun V => Zd V (.slice a1 n1 c1) m1 ((15511210043330985984000000)), fun V => Zd V (.slice a150 n150 c150) m150 (9999999967), fun V => Zd V (.slice a151 n151 c151) m151 (1551121009451797), fun V => Zd V (.slice a152 n152 c152) m152 (9295909301)] from (hV154_4.out.set2 2 rfl)) (fun _ hX => ⟨hX.cell 0 0 rfl rfl, hX.cell 0 1 rfl rfl, trivial⟩) ?_
                                                intro V154_5 hc hH154_5
                                                have hV154_5 := Lib.hid hc
                                                clear hc hKq Kq hV154_4 cQ0 fQ0 cQ1 fQ1 hH154_4
                                                try simp only [Act.put, List.setIfInBounds_toArray, List.set_cons_zero, List.set_cons_succ]
                                                refine wpAnyH_ready (rs := [10]) (by kernel_rfl) (by simp) ?_
                                                refine AllReadyH.cons (o := ⟨_, _, _, _, _, _⟩) rfl (fun Kq hKq => ?_) AllReadyH.nil
                                                have cQ0 := hV154_5.out.cell 1 0 rfl rfl
                                                have fQ0 := hV154_5.out.free 1 0 rfl
                                                have cQ1 := hV154_5.out.cell 1 1 rfl rfl
                                                have fQ1 := hV154_5.out.free 1 1 rfl
                                                go_simp
                                                refine stepH hKq (show St w _ [(b205, #[.slice a1 n1 c1, .bool m1], 27), (V154_1.heap.size, #[.slice a152 n152 c152, .bool m152], 27), (V154_3.heap.size, #[.slice a151 n151 c151, .bool m151], 27)] [fun V => Zd V (.slice a1 n1 c1) m1 ((15511210043330985984000000)), fun V => Zd V (.slice a150 n150 c150) m150 (9999999967), fun V => Zd V (.slice a151 n151 c151) m151 (1551121009451797), fun V => Zd V (.slice a152 n152 c152) m152 (9295909301)] from (hV154_5.out.set2 1 rfl)) (fun _ hX => ⟨hX.cell 0 0 rfl rfl, hX.cell 0 1 rfl rfl, trivial⟩) ?_
                                                intro V154_6 hc hH154_6
                                                have hV154_6 := Lib.hid hc
                                                clear hc hKq Kq hV154_5 cQ0 fQ0 cQ1 fQ1 hH154_5
                                                try simp only [Act.put, List.setIfInBounds_toArray, List.set_cons_zero, List.set_cons_succ]
                                                refine wpAnyH_ready (rs := [11]) (by kernel_rfl) (by simp) ?_
                                                refine AllReadyH.cons (o := ⟨_, _, _, _, _, _⟩) rfl (fun Kq hKq => ?_) AllReadyH.nil
                                                go_simp
                                                refine stepH hKq (show St w _ [(b205, #[.slice a1 n1 c1, .bool m1], 27), (V154_1.heap.size, #[.slice a152 n152 c152, .bool m152], 27), (V154_3.heap.size, #[.slice a151 n151 c151, .bool m151], 27)] [fun V => Zd V (.slice a1 n1 c1) m1 ((15511210043330985984000000)), fun V => Zd V (.slice a150 n150 c150) m150 (9999999967), fun V => Zd V (.slice a151 n151 c151) m151 (1551121009451797), fun V => Zd V (.slice a152 n152 c152) m152 (9295909301)] from hV154_6.out) (fun _ hX => ⟨hX.cell 0 0 rfl rfl, hX.cell 0 1 rfl rfl, trivial⟩) ?_
                                                intro V154_7 hc hH154_7
                                                have hV154_7 := Lib.hid hc
                                                clear hc hKq Kq hV154_6 hH154_6
                                                try simp only [Act.put, List.setIfInBounds_toArray, List.set_cons_zero, List.set_cons_succ]
                                                refine wpAnyH_done (by kernel_rfl) ?_ _
                                                go_wp2_with fail
                                                go_meet
                                                refine ⟨_, _, a151, n151, c151, m151, a152, n152, c152, m152, rfl, rfl, rfl, ?_⟩
                                                exact Lib.hid (St.pick (St.bpick hV154_7.out [0, 2, 1] (by decide) rfl) [0, 2, 3] rfl)
                                            refine AllReadyH.cons (o := ⟨_, _, _, _, _, _⟩) rfl (fun Kq hKq => ?_) ?_
                                            · as_aux_lemma =>
                                                go_simp
                                                refine stepH hKq (show St w _ [(b205, #[.slice a1 n1 c1, .bool m1], 27), (V154_1.heap.size, #[.slice none 0 0, .bool false], 27), (V154_2.heap.size, #[.slice none 0 0, .bool false], 27)] [fun V => Zd V (.slice a1 n1 c1) m1 ((15511210043330985984000000)), fun V => Zd V (.slice a150 n150 c150) m150 (9999999967)] from (hV154_2.out.al V154_2.heap.size #[.slice none 0 0, .bool false] 27 rfl rfl)) (fun _ hX => ⟨hX.cell 0 0 rfl rfl, hX.cell 0 1 rfl rfl, trivial⟩) ?_
                                                intro V154_3 hc hH154_3
                                                have hV154_3 := Lib.hid hc
                                                clear hc hKq Kq hV154_2 hH154_2
                                                try simp only [Act.put, List.setIfInBounds_toArray, List.set_cons_zero, List.set_cons_succ]
                                                refine wpAnyH_ready (rs := [2]) (by kernel_rfl) (by simp) ?_
                                                refine AllReadyH.cons (o := ⟨_, _, _, _, _, _⟩) rfl (fun Kq hKq => ?_) AllReadyH.nil
                                                go_simp
                                                go_at_call 12
                                                refine (quo_b (hV154_3.out.z 0 rfl) (hV154_3.out.z 1 rfl) (by omega) (bdl (n := 90) (z := 15511210043330985984000000) (by decide)) (bdl (n := 40) (z := 9999999967) (by decide)) (by omega) (by omega)).mono ?_
                                                rintro e w151 ⟨a151, n151, c151, m151, a152, n152, c152, m152, rfl, hz, hz2, hb⟩
                                                rw [big_q] at hz
                                                rw [big_m] at hz2
                                                (try go_wp2_with fail)
                                                refine stepH hKq (show St w _ [(b205, #[.slice a1 n1 c1, .bool m1], 27), (V154_1.heap.size, #[.slice none 0 0, .bool false], 27), (V154_2.heap.size, #[.slice none 0 0, .bool false], 27)] [fun V => Zd V (.slice a1 n1 c1) m1 ((15511210043330985984000000)), fun V => Zd V (.slice a150 n150 c150) m150 (9999999967), fun V => Zd V (.slice a151 n151 c151) m151 (1551121009451797), fun V => Zd V (.slice a152 n152 c152) m152 (9295909301)] from (((hV154_3.out.call hb).pz hz).pz hz2)) (fun _ hX => ⟨hX.cell 0 0 rfl rfl, hX.cell 0 1 rfl rfl, trivial⟩) ?_
                                                intro V154_4 hc hH154_4
                                                have hV154_4 := Lib.hid hc
                                                clear hc hKq Kq hV154_3 hb hz hz2 hH154_3
                                                try simp only [Act.put, List.setIfInBounds_toArray, List.set_cons_zero, List.set_cons_succ]
                                                refine wpAnyH_take (i := 3) (oi := ⟨_, _, _, _, _, _⟩) (v := ?_) rfl (by kernel_rfl) (by kernel_rfl) (by kernel_rfl) (fun _ _ _ h => h) (Or.inl ⟨by rfl, ?_⟩) hH154_4 ?_
                                                rotate_left
                                                · intro wS hSw; (try dsimp only at hSw); go_simp; try with_reducible rfl
                                                try simp only [Act.put, List.setIfInBounds_toArray, List.set_cons_zero, List.set_cons_succ]
                                                refine wpAnyH_take (i := 4) (oi := ⟨_, _, _, _, _, _⟩) (v := ?_) rfl (by kernel_rfl) (by kernel_rfl) (by kernel_rfl) (fun _ _ _ h => h) (Or.inl ⟨by rfl, ?_⟩) hH154_4 ?_
                                                rotate_left
                                                · intro wS hSw; (try dsimp only at hSw); go_simp; try with_reducible rfl
                                                try simp only [Act.put, List.setIfInBounds_toArray, List.set_cons_zero, List.set_cons_succ]
                                                refine wpAnyH_take (i := 5) (oi := ⟨_, _, _, _, _, _⟩) (v := ?_) rfl (by kernel_rfl) (by kernel_rfl) (by kernel_rfl) (fun _ _ _ h => h) (Or.inl ⟨by rfl, ?_⟩) hH154_4 ?_
                                                rotate_left
                                                · intro wS hSw; (try dsimp only at hSw); go_simp; try with_reducible rfl
                                                try simp only [Act.put, List.setIfInBounds_toArray, List.set_cons_zero, List.set_cons_succ]
                                                refine wpAnyH_take (i := 6) (oi := ⟨_, _, _, _, _, _⟩) (v := ?_) rfl (by kernel_rfl) (by kernel_rfl) (by kernel_rfl) (fun _ _ _ h => h) (Or.inl ⟨by rfl, ?_⟩) hH154_4 ?_
                                                rotate_left
                                                · intro wS hSw; (try dsimp only at hSw); go_simp; try with_reducible rfl
                                                try simp only [Act.put, List.setIfInBounds_toArray, List.set_cons_zero, List.set_cons_succ]
                                                refine wpAnyH_ready (rs := [9]) (by kernel_rfl) (by simp) ?_
                                                refine AllReadyH.cons (o := ⟨_, _, _, _, _, _⟩) rfl (fun Kq hKq => ?_) AllReadyH.nil
                                                have cQ0 := hV154_4.out.cell 2 0 rfl rfl
                                                have fQ0 := hV154_4.out.free 2 0 rfl
                                                have cQ1 := hV154_4.out.cell 2 1 rfl rfl
                                                have fQ1 := hV154_4.out.free 2 1 rfl
                                                go_simp
                                                refine stepH hKq (show St w _ [(b205, #[.slice a1 n1 c1, .bool m1], 27), (V154_1.heap.size, #[.slice none 0 0, .bool false], 27), (V154_2.heap.size, #[.slice a151 n151 c151, .bool m151], 27)] [fun V => Zd V (.slice a1 n1 c1) m1 ((15511210043330985984000000)), fun V => Zd V (.slice a150 n150 c150) m150 (9999999967), fun V => Zd V (.slice a151 n151 c151) m151 (1551121009451797), fun V => Zd V (.slice a152 n152 c152) m152 (9295909301)] from (hV154_4.out.set2 2 rfl)) (fun _ hX => ⟨hX.cell 0 0 rfl rfl, hX.cell 0 1 rfl rfl, trivial⟩) ?_
                                                intro V154_5 hc hH154_5
                                                have hV154_5 := Lib.hid hc
                                                clear hc hKq Kq hV154_4 cQ0 fQ0 cQ1 fQ1 hH154_4
                                                try simp only [Act.put, List.setIfInBounds_toArray, List.set_cons_zero, List.set_cons_succ]
                                                refine wpAnyH_ready (rs := [10]) (by kernel_rfl) (by simp) ?_
                                                refine AllReadyH.cons (o := ⟨_, _, _, _, _, _⟩) rfl (fun Kq hKq => ?_) AllReadyH.nil
                                                have cQ0 := hV154_5.out.cell 1 0 rfl rfl
                                                have fQ0 := hV154_5.out.free 1 0 rfl
                                                have cQ1 := hV154_5.out.cell 1 1 rfl rfl
                                                have fQ1 := hV154_5.out.free 1 1 rfl
                                                go_simp
                                                refine stepH hKq (show St w _ [(b205, #[.slice a1 n1 c1, .bool m1], 27), (V154_1.heap.size, #[.slice a152 n152 c152, .bool m152], 27), (V154_2.heap.size, #[.slice a151 n151 c151, .bool m151], 27)] [fun V => Zd V (.slice a1 n1 c1) m1 ((15511210043330985984000000)), fun V => Zd V (.slice a150 n150 c150) m150 (9999999967), fun V => Zd V (.slice a151 n151 c151) m151 (1551121009451797), fun V => Zd V (.slice a152 n152 c152) m152 (9295909301)] from (hV154_5.out.set2 1 rfl)) (fun _ hX => ⟨hX.cell 0 0 rfl rfl, hX.cell 0 1 rfl rfl, trivial⟩) ?_
                                                intro V154_6 hc hH154_6
                                                have hV154_6 := Lib.hid hc
                                                clear hc hKq Kq hV154_5 cQ0 fQ0 cQ1 fQ1 hH154_5
                                                try simp only [Act.put, List.setIfInBounds_toArray, List.set_cons_zero, List.set_cons_succ]
                                                refine wpAnyH_ready (rs := [11]) (by kernel_rfl) (by simp) ?_
                                                refine AllReadyH.cons (o := ⟨_, _, _, _, _, _⟩) rfl (fun Kq hKq => ?_) AllReadyH.nil
                                                go_simp
                                                refine stepH hKq (show St w _ [(b205, #[.slice a1 n1 c1, .bool m1], 27), (V154_1.heap.size, #[.slice a152 n152 c152, .bool m152], 27), (V154_2.heap.size, #[.slice a151 n151 c151, .bool m151], 27)] [fun V => Zd V (.slice a1 n1 c1) m1 ((15511210043330985984000000)), fun V => Zd V (.slice a150 n150 c150) m150 (9999999967), fun V => Zd V (.slice a151 n151 c151) m151 (1551121009451797), fun V => Zd V (.slice a152 n152 c152) m152 (9295909301)] from hV154_6.out) (fun _ hX => ⟨hX.cell 0 0 rfl rfl, hX.cell 0 1 rfl rfl, trivial⟩) ?_
                                                intro V154_7 hc hH154_7
                                                have hV154_7 := Lib.hid hc
                                                clear hc hKq Kq hV154_6 hH154_6
                                                try simp only [Act.put, List.setIfInBounds_toArray, List.set_cons_zero, List.set_cons_succ]
                                                refine wpAnyH_done (by kernel_rfl) ?_ _
                                                go_wp2_with fail
                                                go_meet
                                                refine ⟨_, _, a151, n151, c151, m151, a152, n152, c152, m152, rfl, rfl, rfl, ?_⟩
                                                exact Lib.hid (St.pick (St.bpick hV154_7.out [0, 2, 1] (by decide) rfl) [0, 2, 3] rfl)
                                            exact AllReadyH.nil
                                        exact AllReadyH.nil
                                    refine AllReadyH.cons (o := ⟨_, _, _, _, _, _⟩) rfl (fun Kq hKq => ?_) ?_
                                    · as_aux_lemma =>
                                        go_simp
                                        refine stepH hKq (show St w _ [(b205, #[.slice a1 n1 c1, .bool m1], 27), (V154_0.heap.size, #[.slice none 0 0, .bool false], 27)] [fun V => Zd V (.slice a1 n1 c1) m1 ((15511210043330985984000000))] from (hV154_0.out.al V154_0.heap.size #[.slice none 0 0, .bool false] 27 rfl rfl)) (fun _ hX => ⟨hX.cell 0 0 rfl rfl, hX.cell 0 1 rfl rfl, trivial⟩) ?_
                                        intro V154_1 hc hH154_1
                                        have hV154_1 := Lib.hid hc
                                        clear hc hKq Kq hV154_0 hH154_0
                                        try simp only [Act.put, List.setIfInBounds_toArray, List.set_cons_zero, List.set_cons_succ]
                                        refine wpAnyH_ready (rs := [1, 8]) (by kernel_rfl) (by simp) ?_
                                        refine AllReadyH.cons (o := ⟨_, _, _, _, _, _⟩) rfl (fun Kq hKq => ?_) ?_
                                        · as_aux_lemma =>
                                            go_simp
                                            go_at_call 14
                                            refine (z_is (by decide) z99).mono ?_
                                            rintro e w150 ⟨a150, n150, c150, m150, rfl, hz, hb⟩
                                            (try go_wp2_with fail)
                                            refine stepH hKq (show St w _ [(b205, #[.slice a1 n1 c1, .bool m1], 27), (V154_0.heap.size, #[.slice none 0 0, .bool false], 27)] [fun V => Zd V (.slice a1 n1 c1) m1 ((15511210043330985984000000)), fun V => Zd V (.slice a150 n150 c150) m150 (9999999967)] from ((hV154_1.out.call hb).pz hz)) (fun _ hX => ⟨hX.cell 0 0 rfl rfl, hX.cell 0 1 rfl rfl, trivial⟩) ?_
                                            intro V154_2 hc hH154_2
                                            have hV154_2 := Lib.hid hc
                                            clear hc hKq Kq hV154_1 hb hz hH154_1
                                            try simp only [Act.put, List.setIfInBounds_toArray, List.set_cons_zero, List.set_cons_succ]
                                            refine wpAnyH_ready (rs := [2, 8]) (by kernel_rfl) (by simp) ?_
                                            refine AllReadyH.cons (o := ⟨_, _, _, _, _, _⟩) rfl (fun Kq hKq => ?_) ?_
                                            · as_aux_lemma =>
                                                go_simp
                                                go_at_call 12
                                                refine (quo_b (hV154_2.out.z 0 rfl) (hV154_2.out.z 1 rfl) (by omega) (bdl (n := 90) (z := 15511210043330985984000000) (by decide)) (bdl (n := 40) (z := 9999999967) (by decide)) (by omega) (by omega)).mono ?_
                                                rintro e w151 ⟨a151, n151, c151, m151, a152, n152, c152, m152, rfl, hz, hz2, hb⟩
                                                rw [big_q] at hz
                                                rw [big_m] at hz2
                                                (try go_wp2_with fail)
                                                refine stepH hKq (show St w _ [(b205, #[.slice a1 n1 c1, .bool m1], 27), (V154_0.heap.size, #[.slice none 0 0, .bool false], 27)] [fun V => Zd V (.slice a1 n1 c1) m1 ((15511210043330985984000000)), fun V => Zd V (.slice a150 n150 c150) m150 (9999999967), fun V => Zd V (.slice a151 n151 c151) m151 (1551121009451797), fun V => Zd V (.slice a152 n152 c152) m152 (9295909301)] from (((hV154_2.out.call hb).pz hz).pz hz2)) (fun _ hX => ⟨hX.cell 0 0 rfl rfl, hX.cell 0 1 rfl rfl, trivial⟩) ?_
                                                intro V154_3 hc hH154_3
                                                have hV154_3 := Lib.hid hc
                                                clear hc hKq Kq hV154_2 hb hz hz2 hH154_2
                                                try simp only [Act.put, List.setIfInBounds_toArray, List.set_cons_zero, List.set_cons_succ]
                                                refine wpAnyH_take (i := 3) (oi := ⟨_, _, _, _, _, _⟩) (v := ?_) rfl (by kernel_rfl) (by kernel_rfl) (by kernel_rfl) (fun _ _ _ h => h) (Or.inl ⟨by rfl, ?_⟩) hH154_3 ?_
                                                rotate_left
                                                · intro wS hSw; (try dsimp only at hSw); go_simp; try with_reducible rfl
                                                try simp only [Act.put, List.setIfInBounds_toArray, List.set_cons_zero, List.set_cons_succ]
                                                refine wpAnyH_take (i := 4) (oi := ⟨_, _, _, _, _, _⟩) (v := ?_) rfl (by kernel_rfl) (by kernel_rfl) (by kernel_rfl) (fun _ _ _ h => h) (Or.inl ⟨by rfl, ?_⟩) hH154_3 ?_
                                                rotate_left
                                                · intro wS hSw; (try dsimp only at hSw); go_simp; try with_reducible rfl
                                                try simp only [Act.put, List.setIfInBounds_toArray, List.set_cons_zero, List.set_cons_succ]
                                                refine wpAnyH_take (i := 5) (oi := ⟨_, _, _, _, _, _⟩) (v := ?_) rfl (by kernel_rfl) (by kernel_rfl) (by kernel_rfl) (fun _ _ _ h => h) (Or.inl ⟨by rfl, ?_⟩) hH154_3 ?_
                                                rotate_left
                                                · intro wS hSw; (try dsimp only at hSw); go_simp; try with_reducible rfl
                                                try simp only [Act.put, List.setIfInBounds_toArray, List.set_cons_zero, List.set_cons_succ]
                                                refine wpAnyH_take (i := 6) (oi := ⟨_, _, _, _, _, _⟩) (v := ?_) rfl (by kernel_rfl) (by kernel_rfl) (by kernel_rfl) (fun _ _ _ h => h) (Or.inl ⟨by rfl, ?_⟩) hH154_3 ?_
                                                rotate_left
                                                · intro wS hSw; (try dsimp only at hSw); go_simp; try with_reducible rfl
                                                try simp only [Act.put, List.setIfInBounds_toArray, List.set_cons_zero, List.set_cons_succ]
                                                refine wpAnyH_ready (rs := [8]) (by kernel_rfl) (by simp) ?_
                                                refine AllReadyH.cons (o := ⟨_, _, _, _, _, _⟩) rfl (fun Kq hKq => ?_) AllReadyH.nil
                                                go_simp
                                                refine stepH hKq (show St w _ [(b205, #[.slice a1 n1 c1, .bool m1], 27), (V154_0.heap.size, #[.slice none 0 0, .bool false], 27), (V154_3.heap.size, #[.slice none 0 0, .bool false], 27)] [fun V => Zd V (.slice a1 n1 c1) m1 ((15511210043330985984000000)), fun V => Zd V (.slice a150 n150 c150) m150 (9999999967), fun V => Zd V (.slice a151 n151 c151) m151 (1551121009451797), fun V => Zd V (.slice a152 n152 c152) m152 (9295909301)] from (hV154_3.out.al V154_3.heap.size #[.slice none 0 0, .bool false] 27 rfl rfl)) (fun _ hX => ⟨hX.cell 0 0 rfl rfl, hX.cell 0 1 rfl rfl, trivial⟩) ?_
                                                intro V154_4 hc hH154_4
                                                have hV154_4 := Lib.hid hc
                                                clear hc hKq Kq hV154_3 hH154_3
                                                try simp only [Act.put, List.setIfInBounds_toArray, List.set_cons_zero, List.set_cons_succ]
                                                refine wpAnyH_ready (rs := [9]) (by kernel_rfl) (by simp) ?_
                                                refine AllReadyH.cons (o := ⟨_, _, _, _, _, _⟩) rfl (fun Kq hKq => ?_) AllReadyH.nil
                                                have cQ0 := hV154_4.out.cell 1 0 rfl rfl
                                                have fQ0 := hV154_4.out.free 1 0 rfl
                                                have cQ1 := hV154_4.out.cell 1 1 rfl rfl
                                                have fQ1 := hV154_4.out.free 1 1 rfl
                                                go_simp
                                                refine stepH hKq (show St w _ [(b205, #[.slice a1 n1 c1, .bool m1], 27), (V154_0.heap.size, #[.slice a151 n151 c151, .bool m151], 27), (V154_3.heap.size, #[.slice none 0 0, .bool false], 27)] [fun V => Zd V (.slice a1 n1 c1) m1 ((15511210043330985984000000)), fun V => Zd V (.slice a150 n150 c150) m150 (9999999967), fun V => Zd V (.slice a151 n151 c151) m151 (1551121009451797), fun V => Zd V (.slice a152 n152 c152) m152 (9295909301)] from (hV154_4.out.set2 1 rfl)) (fun _ hX => ⟨hX.cell 0 0 rfl rfl, hX.cell 0 1 rfl rfl, trivial⟩) ?_
                                                intro V154_5 hc hH154_5
                                                have hV154_5 := Lib.hid hc
                                                clear hc hKq Kq hV154_4 cQ0 fQ0 cQ1 fQ1 hH154_4
                                                try simp only [Act.put, List.setIfInBounds_toArray, List.set_cons_zero, List.set_cons_succ]
                                                refine wpAnyH_ready (rs := [10]) (by kernel_rfl) (by simp) ?_
                                                refine AllReadyH.cons (o := ⟨_, _, _, _, _, _⟩) rfl (fun Kq hKq => ?_) AllReadyH.nil
                                                have cQ0 := hV154_5.out.cell 2 0 rfl rfl
                                                have fQ0 := hV154_5.out.free 2 0 rfl
                                                have cQ1 := hV154_5.out.cell 2 1 rfl rfl
                                                have fQ1 := hV154_5.out.free 2 1 rfl
                                                go_simp
                                                refine stepH hKq (show St w _ [(b205, #[.slice a1 n1 c1, .bool m1], 27), (V154_0.heap.size, #[.slice a151 n151 c151, .bool m151], 27), (V154_3.heap.size, #[.slice a152 n152 c152, .bool m152], 27)] [fun V => Zd V (.slice a1 n1 c1) m1 ((15511210043330985984000000)), fun V => Zd V (.slice a150 n150 c150) m150 (9999999967), fun V => Zd V (.slice a151 n151 c151) m151 (1551121009451797), fun V => Zd V (.slice a152 n152 c152) m152 (9295909301)] from (hV154_5.out.set2 2 rfl)) (fun _ hX => ⟨hX.cell 0 0 rfl rfl, hX.cell 0 1 rfl rfl, trivial⟩) ?_
                                                intro V154_6 hc hH154_6
                                                have hV154_6 := Lib.hid hc
                                                clear hc hKq Kq hV154_5 cQ0 fQ0 cQ1 fQ1 hH154_5
                                                try simp only [Act.put, List.setIfInBounds_toArray, List.set_cons_zero, List.set_cons_succ]
                                                refine wpAnyH_ready (rs := [11]) (by kernel_rfl) (by simp) ?_
                                                refine AllReadyH.cons (o := ⟨_, _, _, _, _, _⟩) rfl (fun Kq hKq => ?_) AllReadyH.nil
                                                go_simp
                                                refine stepH hKq (show St w _ [(b205, #[.slice a1 n1 c1, .bool m1], 27), (V154_0.heap.size, #[.slice a151 n151 c151, .bool m151], 27), (V154_3.heap.size, #[.slice a152 n152 c152, .bool m152], 27)] [fun V => Zd V (.slice a1 n1 c1) m1 ((15511210043330985984000000)), fun V => Zd V (.slice a150 n150 c150) m150 (9999999967), fun V => Zd V (.slice a151 n151 c151) m151 (1551121009451797), fun V => Zd V (.slice a152 n152 c152) m152 (9295909301)] from hV154_6.out) (fun _ hX => ⟨hX.cell 0 0 rfl rfl, hX.cell 0 1 rfl rfl, trivial⟩) ?_
                                                intro V154_7 hc hH154_7
                                                have hV154_7 := Lib.hid hc
                                                clear hc hKq Kq hV154_6 hH154_6
                                                try simp only [Act.put, List.setIfInBounds_toArray, List.set_cons_zero, List.set_cons_succ]
                                                refine wpAnyH_done (by kernel_rfl) ?_ _
                                                go_wp2_with fail
                                                go_meet
                                                refine ⟨_, _, a151, n151, c151, m151, a152, n152, c152, m152, rfl, rfl, rfl, ?_⟩
                                                exact Lib.hid (St.pick (St.bpick hV154_7.out [0, 1, 2] (by decide) rfl) [0, 2, 3] rfl)
                                            refine AllReadyH.cons (o := ⟨_, _, _, _, _, _⟩) rfl (fun Kq hKq => ?_) ?_
                                            · as_aux_lemma =>
                                                go_simp
                                                refine stepH hKq (show St w _ [(b205, #[.slice a1 n1 c1, .bool m1], 27), (V154_0.heap.size, #[.slice none 0 0, .bool false], 27), (V154_2.heap.size, #[.slice none 0 0, .bool false], 27)] [fun V => Zd V (.slice a1 n1 c1) m1 ((15511210043330985984000000)), fun V => Zd V (.slice a150 n150 c150) m150 (9999999967)] from (hV154_2.out.al V154_2.heap.size #[.slice none 0 0, .bool false] 27 rfl rfl)) (fun _ hX => ⟨hX.cell 0 0 rfl rfl, hX.cell 0 1 rfl rfl, trivial⟩) ?_
                                                intro V154_3 hc hH154_3
                                                have hV154_3 := Lib.hid hc
                                                clear hc hKq Kq hV154_2 hH154_2
                                                try simp only [Act.put, List.setIfInBounds_toArray, List.set_cons_zero, List.set_cons_succ]
                                                refine wpAnyH_ready (rs := [2]) (by kernel_rfl) (by simp) ?_
                                                refine AllReadyH.cons (o := ⟨_, _, _, _, _, _⟩) rfl (fun Kq hKq => ?_) AllReadyH.nil
                                                go_simp
                                                go_at_call 12
                                                refine (quo_b (hV154_3.out.z 0 rfl) (hV154_3.out.z 1 rfl) (by omega) (bdl (n := 90) (z := 15511210043330985984000000) (by decide)) (bdl (n := 40) (z := 9999999967) (by decide)) (by omega) (by omega)).mono ?_
                                                rintro e w151 ⟨a151, n151, c151, m151, a152, n152, c152, m152, rfl, hz, hz2, hb⟩
                                                rw [big_q] at hz
                                                rw [big_m] at hz2
                                                (try go_wp2_with fail)
                                                refine stepH hKq (show St w _ [(b205, #[.slice a1 n1 c1, .bool m1], 27), (V154_0.heap.size, #[.slice none 0 0, .bool false], 27), (V154_2.heap.size, #[.slice none 0 0, .bool false], 27)] [fun V => Zd V (.slice a1 n1 c1) m1 ((15511210043330985984000000)), fun V => Zd V (.slice a150 n150 c150) m150 (9999999967), fun V => Zd V (.slice a151 n151 c151) m151 (1551121009451797), fun V => Zd V (.slice a152 n152 c152) m152 (9295909301)] from (((hV154_3.out.call hb).pz hz).pz hz2)) (fun _ hX => ⟨hX.cell 0 0 rfl rfl, hX.cell 0 1 rfl rfl, trivial⟩) ?_
                                                intro V154_4 hc hH154_4
                                                have hV154_4 := Lib.hid hc
                                                clear hc hKq Kq hV154_3 hb hz hz2 hH154_3
                                                try simp only [Act.put, List.setIfInBounds_toArray, List.set_cons_zero, List.set_cons_succ]
                                                refine wpAnyH_take (i := 3) (oi := ⟨_, _, _, _, _, _⟩) (v := ?_) rfl (by kernel_rfl) (by kernel_rfl) (by kernel_rfl) (fun _ _ _ h => h) (Or.inl ⟨by rfl, ?_⟩) hH154_4 ?_
                                                rotate_left
                                                · intro wS hSw; (try dsimp only at hSw); go_simp; try with_reducible rfl
                                                try simp only [Act.put, List.setIfInBounds_toArray, List.set_cons_zero, List.set_cons_succ]
                                                refine wpAnyH_take (i := 4) (oi := ⟨_, _, _, _, _, _⟩) (v := ?_) rfl (by kernel_rfl) (by kernel_rfl) (by kernel_rfl) (fun _ _ _ h => h) (Or.inl ⟨by rfl, ?_⟩) hH154_4 ?_
                                                rotate_left
                                                · intro wS hSw; (try dsimp only at hSw); go_simp; try with_reducible rfl
                                                try simp only [Act.put, List.setIfInBounds_toArray, List.set_cons_zero, List.set_cons_succ]
                                                refine wpAnyH_take (i := 5) (oi := ⟨_, _, _, _, _, _⟩) (v := ?_) rfl (by kernel_rfl) (by kernel_rfl) (by kernel_rfl) (fun _ _ _ h => h) (Or.inl ⟨by rfl, ?_⟩) hH154_4 ?_
                                                rotate_left
                                                · intro wS hSw; (try dsimp only at hSw); go_simp; try with_reducible rfl
                                                try simp only [Act.put, List.setIfInBounds_toArray, List.set_cons_zero, List.set_cons_succ]
                                                refine wpAnyH_take (i := 6) (oi := ⟨_, _, _, _, _, _⟩) (v := ?_) rfl (by kernel_rfl) (by kernel_rfl) (by kernel_rfl) (fun _ _ _ h => h) (Or.inl ⟨by rfl, ?_⟩) hH154_4 ?_
                                                rotate_left
                                                · intro wS hSw; (try dsimp only at hSw); go_simp; try with_reducible rfl
                                                try simp only [Act.put, List.setIfInBounds_toArray, List.set_cons_zero, List.set_cons_succ]
                                                refine wpAnyH_ready (rs := [9]) (by kernel_rfl) (by simp) ?_
                                                refine AllReadyH.cons (o := ⟨_, _, _, _, _, _⟩) rfl (fun Kq hKq => ?_) AllReadyH.nil
                                                have cQ0 := hV154_4.out.cell 1 0 rfl rfl
                                                have fQ0 := hV154_4.out.free 1 0 rfl
                                                have cQ1 := hV154_4.out.cell 1 1 rfl rfl
                                                have fQ1 := hV154_4.out.free 1 1 rfl
                                                go_simp
                                                refine stepH hKq (show St w _ [(b205, #[.slice a1 n1 c1, .bool m1], 27), (V154_0.heap.size, #[.slice a151 n151 c151, .bool m151], 27), (V154_2.heap.size, #[.slice none 0 0, .bool false], 27)] [fun V => Zd V (.slice a1 n1 c1) m1 ((15511210043330985984000000)), fun V => Zd V (.slice a150 n150 c150) m150 (9999999967), fun V => Zd V (.slice a151 n151 c151) m151 (1551121009451797), fun V => Zd V (.slice a152 n152 c152) m152 (9295909301)] from (hV154_4.out.set2 1 rfl)) (fun _ hX => ⟨hX.cell 0 0 rfl rfl, hX.cell 0 1 rfl rfl, trivial⟩) ?_
                                                intro V154_5 hc hH154_5
                                                have hV154_5 := Lib.hid hc
                                                clear hc hKq Kq hV154_4 cQ0 fQ0 cQ1 fQ1 hH154_4
                                                try simp only [Act.put, List.setIfInBounds_toArray, List.set_cons_zero, List.set_cons_succ]
                                                refine wpAnyH_ready (rs := [10]) (by kernel_rfl) (by simp) ?_
                                                refine AllReadyH.cons (o := ⟨_, _, _, _, _, _⟩) rfl (fun Kq hKq => ?_) AllReadyH.nil
                                                have cQ0 := hV154_5.out.cell 2 0 rfl rfl
                                                have fQ0 := hV154_5.out.free 2 0 rfl
                                                have cQ1 := hV154_5.out.cell 2 1 rfl rfl
                                                have fQ1 := hV154_5.out.free 2 1 rfl
                                                go_simp
                                                refine stepH hKq (show St w _ [(b205, #[.slice a1 n1 c1, .bool m1], 27), (V154_0.heap.size, #[.slice a151 n151 c151, .bool m151], 27), (V154_2.heap.size, #[.slice a152 n152 c152, .bool m152], 27)] [fun V => Zd V (.slice a1 n1 c1) m1 ((15511210043330985984000000)), fun V => Zd V (.slice a150 n150 c150) m150 (9999999967), fun V => Zd V (.slice a151 n151 c151) m151 (1551121009451797), fun V => Zd V (.slice a152 n152 c152) m152 (9295909301)] from (hV154_5.out.set2 2 rfl)) (fun _ hX => ⟨hX.cell 0 0 rfl rfl, hX.cell 0 1 rfl rfl, trivial⟩) ?_
                                                intro V154_6 hc hH154_6
                                                have hV154_6 := Lib.hid hc
                                                clear hc hKq Kq hV154_5 cQ0 fQ0 cQ1 fQ1 hH154_5
                                                try simp only [Act.put, List.setIfInBounds_toArray, List.set_cons_zero, List.set_cons_succ]
                                                refine wpAnyH_ready (rs := [11]) (by kernel_rfl) (by simp) ?_
                                                refine AllReadyH.cons (o := ⟨_, _, _, _, _, _⟩) rfl (fun Kq hKq => ?_) AllReadyH.nil
                                                go_simp
                                                refine stepH hKq (show St w _ [(b205, #[.slice a1 n1 c1, .bool m1], 27), (V154_0.heap.size, #[.slice a151 n151 c151, .bool m151], 27), (V154_2.heap.size, #[.slice a152 n152 c152, .bool m152], 27)] [fun V => Zd V (.slice a1 n1 c1) m1 ((15511210043330985984000000)), fun V => Zd V (.slice a150 n150 c150) m150 (9999999967), fun V => Zd V (.slice a151 n151 c151) m151 (1551121009451797), fun V => Zd V (.slice a152 n152 c152) m152 (9295909301)] from hV154_6.out) (fun _ hX => ⟨hX.cell 0 0 rfl rfl, hX.cell 0 1 rfl rfl, trivial⟩) ?_
                                                intro V154_7 hc hH154_7
                                                have hV154_7 := Lib.hid hc
                                                clear hc hKq Kq hV154_6 hH154_6
                                                try simp only [Act.put, List.setIfInBounds_toArray, List.set_cons_zero, List.set_cons_succ]
                                                refine wpAnyH_done (by kernel_rfl) ?_ _
                                                go_wp2_with fail
                                                go_meet
                                                refine ⟨_, _, a151, n151, c151, m151, a152, n152, c152, m152, rfl, rfl, rfl, ?_⟩
                                                exact Lib.hid (St.pick (St.bpick hV154_7.out [0, 1, 2] (by decide) rfl) [0, 2, 3] rfl)
                                            exact AllReadyH.nil
                                        refine AllReadyH.cons (o := ⟨_, _, _, _, _, _⟩) rfl (fun Kq hKq => ?_) ?_
                                        · as_aux_lemma =>
                                            go_simp
                                            refine stepH hKq (show St w _ [(b205, #[.slice a1 n1 c1, .bool m1], 27), (V154_0.heap.size, #[.slice none 0 0, .bool false], 27), (V154_1.heap.size, #[.slice none 0 0, .bool false], 27)] [fun V => Zd V (.slice a1 n1 c1) m1 ((15511210043330985984000000))] from (hV154_1.out.al V154_1.heap.size #[.slice none 0 0, .bool false] 27 rfl rfl)) (fun _ hX => ⟨hX.cell 0 0 rfl rfl, hX.cell 0 1 rfl rfl, trivial⟩) ?_
                                            intro V154_2 hc hH154_2
                                            have hV154_2 := Lib.hid hc
                                            clear hc hKq Kq hV154_1 hH154_1
                                            try simp only [Act.put, List.setIfInBounds_toArray, List.set_cons_zero, List.set_cons_succ]
                                            refine wpAnyH_ready (rs := [1]) (by kernel_rfl) (by simp) ?_
                                            refine AllReadyH.cons (o := ⟨_, _, _, _, _, _⟩) rfl (fun Kq hKq => ?_) AllReadyH.nil
                                            go_simp
                                            go_at_call 14
                                            refine (z_is (by decide) z99).mono ?_
                                            rintro e w150 ⟨a150, n150, c150, m150, rfl, hz, hb⟩
                                            (try go_wp2_with fail)
                                            refine stepH hKq (show St w _ [(b205, #[.slice a1 n1 c1, .bool m1], 27), (V154_0.heap.size, #[.slice none 0 0, .bool false], 27), (V154_1.heap.size, #[.slice none 0 0, .bool false], 27)] [fun V => Zd V (.slice a1 n1 c1) m1 ((15511210043330985984000000)), fun V => Zd V (.slice a150 n150 c150) m150 (9999999967)] from ((hV154_2.out.call hb).pz hz)) (fun _ hX => ⟨hX.cell 0 0 rfl rfl, hX.cell 0 1 rfl rfl, trivial⟩) ?_
                                            intro V154_3 hc hH154_3
                                            have hV154_3 := Lib.hid hc
                                            clear hc hKq Kq hV154_2 hb hz hH154_2
                                            try simp only [Act.put, List.setIfInBounds_toArray, List.set_cons_zero, List.set_cons_succ]
                                            refine wpAnyH_ready (rs := [2]) (by kernel_rfl) (by simp) ?_
                                            refine AllReadyH.cons (o := ⟨_, _, _, _, _, _⟩) rfl (fun Kq hKq => ?_) AllReadyH.nil
                                            go_simp
                                            go_at_call 12
                                            refine (quo_b (hV154_3.out.z 0 rfl) (hV154_3.out.z 1 rfl) (by omega) (bdl (n := 90) (z := 15511210043330985984000000) (by decide)) (bdl (n := 40) (z := 9999999967) (by decide)) (by omega) (by omega)).mono ?_
                                            rintro e w151 ⟨a151, n151, c151, m151, a152, n152, c152, m152, rfl, hz, hz2, hb⟩
                                            rw [big_q] at hz
                                            rw [big_m] at hz2
                                            (try go_wp2_with fail)
                                            refine stepH hKq (show St w _ [(b205, #[.slice a1 n1 c1, .bool m1], 27), (V154_0.heap.size, #[.slice none 0 0, .bool false], 27), (V154_1.heap.size, #[.slice none 0 0, .bool false], 27)] [fun V => Zd V (.slice a1 n1 c1) m1 ((15511210043330985984000000)), fun V => Zd V (.slice a150 n150 c150) m150 (9999999967), fun V => Zd V (.slice a151 n151 c151) m151 (1551121009451797), fun V => Zd V (.slice a152 n152 c152) m152 (9295909301)] from (((hV154_3.out.call hb).pz hz).pz hz2)) (fun _ hX => ⟨hX.cell 0 0 rfl rfl, hX.cell 0 1 rfl rfl, trivial⟩) ?_
                                            intro V154_4 hc hH154_4
                                            have hV154_4 := Lib.hid hc
                                            clear hc hKq Kq hV154_3 hb hz hz2 hH154_3
                                            try simp only [Act.put, List.setIfInBounds_toArray, List.set_cons_zero, List.set_cons_succ]
                                            refine wpAnyH_take (i := 3) (oi := ⟨_, _, _, _, _, _⟩) (v := ?_) rfl (by kernel_rfl) (by kernel_rfl) (by kernel_rfl) (fun _ _ _ h => h) (Or.inl ⟨by rfl, ?_⟩) hH154_4 ?_
                                            rotate_left
                                            · intro wS hSw; (try dsimp only at hSw); go_simp; try with_reducible rfl
                                            try simp only [Act.put, List.setIfInBounds_toArray, List.set_cons_zero, List.set_cons_succ]
                                            refine wpAnyH_take (i := 4) (oi := ⟨_, _, _, _, _, _⟩) (v := ?_) rfl (by kernel_rfl) (by kernel_rfl) (by kernel_rfl) (fun _ _ _ h => h) (Or.inl ⟨by rfl, ?_⟩) hH154_4 ?_
                                            rotate_left
                                            · intro wS hSw; (try dsimp only at hSw); go_simp; try with_reducible rfl
                                            try simp only [Act.put, List.setIfInBounds_toArray, List.set_cons_zero, List.set_cons_succ]
                                            refine wpAnyH_take (i := 5) (oi := ⟨_, _, _, _, _, _⟩) (v := ?_) rfl (by kernel_rfl) (by kernel_rfl) (by kernel_rfl) (fun _ _ _ h => h) (Or.inl ⟨by rfl, ?_⟩) hH154_4 ?_
                                            rotate_left
                                            · intro wS hSw; (try dsimp only at hSw); go_simp; try with_reducible rfl
                                            try simp only [Act.put, List.setIfInBounds_toArray, List.set_cons_zero, List.set_cons_succ]
                                            refine wpAnyH_take (i := 6) (oi := ⟨_, _, _, _, _, _⟩) (v := ?_) rfl (by kernel_rfl) (by kernel_rfl) (by kernel_rfl) (fun _ _ _ h => h) (Or.inl ⟨by rfl, ?_⟩) hH154_4 ?_
                                            rotate_left
                                            · intro wS hSw; (try dsimp only at hSw); go_simp; try with_reducible rfl
                                            try simp only [Act.put, List.setIfInBounds_toArray, List.set_cons_zero, List.set_cons_succ]
                                            refine wpAnyH_ready (rs := [9]) (by kernel_rfl) (by simp) ?_
                                            refine AllReadyH.cons (o := ⟨_, _, _, _, _, _⟩) rfl (fun Kq hKq => ?_) AllReadyH.nil
                                            have cQ0 := hV154_4.out.cell 1 0 rfl rfl
                                            have fQ0 := hV154_4.out.free 1 0 rfl
                                            have cQ1 := hV154_4.out.cell 1 1 rfl rfl
                                            have fQ1 := hV154_4.out.free 1 1 rfl
                                            go_simp
                                            refine stepH hKq (show St w _ [(b205, #[.slice a1 n1 c1, .bool m1], 27), (V154_0.heap.size, #[.slice a151 n151 c151, .bool m151], 27), (V154_1.heap.size, #[.slice none 0 0, .bool false], 27)] [fun V => Zd V (.slice a1 n1 c1) m1 ((15511210043330985984000000)), fun V => Zd V (.slice a150 n150 c150) m150 (9999999967), fun V => Zd V (.slice a151 n151 c151) m151 (1551121009451797), fun V => Zd V (.slice a152 n152 c152) m152 (9295909301)] from (hV154_4.out.set2 1 rfl)) (fun _ hX => ⟨hX.cell 0 0 rfl rfl, hX.cell 0 1 rfl rfl, trivial⟩) ?_
                                            intro V154_5 hc hH154_5
                                            have hV154_5 := Lib.hid hc
                                            clear hc hKq Kq hV154_4 cQ0 fQ0 cQ1 fQ1 hH154_4
                                            try simp only [Act.put, List.setIfInBounds_toArray, List.set_cons_zero, List.set_cons_succ]
                                            refine wpAnyH_ready (rs := [10]) (by kernel_rfl) (by simp) ?_
                                            refine AllReadyH.cons (o := ⟨_, _, _, _, _, _⟩) rfl (fun Kq hKq => ?_) AllReadyH.nil
                                            have cQ0 := hV154_5.out.cell 2 0 rfl rfl
                                            have fQ0 := hV154_5.out.free 2 0 rfl
                                            have cQ1 := hV154_5.out.cell 2 1 rfl rfl
                                            have fQ1 := hV154_5.out.free 2 1 rfl
                                            go_simp
                                            refine stepH hKq (show St w _ [(b205, #[.slice a1 n1 c1, .bool m1], 27), (V154_0.heap.size, #[.slice a151 n151 c151, .bool m151], 27), (V154_1.heap.size, #[.slice a152 n152 c152, .bool m152], 27)] [fun V => Zd V (.slice a1 n1 c1) m1 ((15511210043330985984000000)), fun V => Zd V (.slice a150 n150 c150) m150 (9999999967), fun V => Zd V (.slice a151 n151 c151) m151 (1551121009451797), fun V => Zd V (.slice a152 n152 c152) m152 (9295909301)] from (hV154_5.out.set2 2 rfl)) (fun _ hX => ⟨hX.cell 0 0 rfl rfl, hX.cell 0 1 rfl rfl, trivial⟩) ?_
                                            intro V154_6 hc hH154_6
                                            have hV154_6 := Lib.hid hc
                                            clear hc hKq Kq hV154_5 cQ0 fQ0 cQ1 fQ1 hH154_5
                                            try simp only [Act.put, List.setIfInBounds_toArray, List.set_cons_zero, List.set_cons_succ]
                                            refine wpAnyH_ready (rs := [11]) (by kernel_rfl) (by simp) ?_
                                            refine AllReadyH.cons (o := ⟨_, _, _, _, _, _⟩) rfl (fun Kq hKq => ?_) AllReadyH.nil
                                            go_simp
                                            refine stepH hKq (show St w _ [(b205, #[.slice a1 n1 c1, .bool m1], 27), (V154_0.heap.size, #[.slice a151 n151 c151, .bool m151], 27), (V154_1.heap.size, #[.slice a152 n152 c152, .bool m152], 27)] [fun V => Zd V (.slice a1 n1 c1) m1 ((15511210043330985984000000)), fun V => Zd V (.slice a150 n150 c150) m150 (9999999967), fun V => Zd V (.slice a151 n151 c151) m151 (1551121009451797), fun V => Zd V (.slice a152 n152 c152) m152 (9295909301)] from hV154_6.out) (fun _ hX => ⟨hX.cell 0 0 rfl rfl, hX.cell 0 1 rfl rfl, trivial⟩) ?_
                                            intro V154_7 hc hH154_7
                                            have hV154_7 := Lib.hid hc
                                            clear hc hKq Kq hV154_6 hH154_6
                                            try simp only [Act.put, List.setIfInBounds_toArray, List.set_cons_zero, List.set_cons_succ]
                                            refine wpAnyH_done (by kernel_rfl) ?_ _
                                            go_wp2_with fail
                                            go_meet
                                            refine ⟨_, _, a151, n151, c151, m151, a152, n152, c152, m152, rfl, rfl, rfl, ?_⟩
                                            exact Lib.hid (St.pick (St.bpick hV154_7.out [0, 1, 2] (by decide) rfl) [0, 2, 3] rfl)
                                        exact AllReadyH.nil
                                    refine AllReadyH.cons (o := ⟨_, _, _, _, _, _⟩) rfl (fun Kq hKq => ?_) ?_
                                    · as_aux_lemma =>
                                        go_simp
                                        refine stepH hKq (show St w _ [(b205, #[.slice a1 n1 c1, .bool m1], 27), (V154_0.heap.size, #[.slice none 0 0, .bool false], 27)] [fun V => Zd V (.slice a1 n1 c1) m1 ((15511210043330985984000000))] from (hV154_0.out.al V154_0.heap.size #[.slice none 0 0, .bool false] 27 rfl rfl)) (fun _ hX => ⟨hX.cell 0 0 rfl rfl, hX.cell 0 1 rfl rfl, trivial⟩) ?_
                                        intro V154_1 hc hH154_1
                                        have hV154_1 := Lib.hid hc
                                        clear hc hKq Kq hV154_0 hH154_0
                                        try simp only [Act.put, List.setIfInBounds_toArray, List.set_cons_zero, List.set_cons_succ]
                                        refine wpAnyH_ready (rs := [1, 7]) (by kernel_rfl) (by simp) ?_
                                        refine AllReadyH.cons (o := ⟨_, _, _, _, _, _⟩) rfl (fun Kq hKq => ?_) ?_
                                        · as_aux_lemma =>
                                            go_simp
                                            go_at_call 14
                                            refine (z_is (by decide) z99).mono ?_
                                            rintro e w150 ⟨a150, n150, c150, m150, rfl, hz, hb⟩
                                            (try go_wp2_with fail)
                                            refine stepH hKq (show St w _ [(b205, #[.slice a1 n1 c1, .bool m1], 27), (V154_0.heap.size, #[.slice none 0 0, .bool false], 27)] [fun V => Zd V (.slice a1 n1 c1) m1 ((15511210043330985984000000)), fun V => Zd V (.slice a150 n150 c150) m150 (9999999967)] from ((hV154_1.out.call hb).pz hz)) (fun _ hX => ⟨hX.cell 0 0 rfl rfl, hX.cell 0 1 rfl rfl, trivial⟩) ?_
                                            intro V154_2 hc hH154_2
                                            have hV154_2 := Lib.hid hc
                                            clear hc hKq Kq hV154_1 hb hz hH154_1
                                            try simp only [Act.put, List.setIfInBounds_toArray, List.set_cons_zero, List.set_cons_succ]
                                            refine wpAnyH_ready (rs := [2, 7]) (by kernel_rfl) (by simp) ?_
                                            refine AllReadyH.cons (o := ⟨_, _, _, _, _, _⟩) rfl (fun Kq hKq => ?_) ?_
                                            · as_aux_lemma =>
                                                go_simp
                                                go_at_call 12
                                                refine (quo_b (hV154_2.out.z 0 rfl) (hV154_2.out.z 1 rfl) (by omega) (bdl (n := 90) (z := 15511210043330985984000000) (by decide)) (bdl (n := 40) (z := 9999999967) (by decide)) (by omega) (by omega)).mono ?_
                                                rintro e w151 ⟨a151, n151, c151, m151, a152, n152, c152, m152, rfl, hz, hz2, hb⟩
                                                rw [big_q] at hz
                                                rw [big_m] at hz2
                                                (try go_wp2_with fail)
                                                refine stepH hKq (show St w _ [(b205, #[.slice a1 n1 c1, .bool m1], 27), (V154_0.heap.size, #[.slice none 0 0, .bool false], 27)] [fun V => Zd V (.slice a1 n1 c1) m1 ((15511210043330985984000000)), fun V => Zd V (.slice a150 n150 c150) m150 (9999999967), fun V => Zd V (.slice a151 n151 c151) m151 (1551121009451797), fun V => Zd V (.slice a152 n152 c152) m152 (9295909301)] from (((hV154_2.out.call hb).pz hz).pz hz2)) (fun _ hX => ⟨hX.cell 0 0 rfl rfl, hX.cell 0 1 rfl rfl, trivial⟩) ?_
                                                intro V154_3 hc hH154_3
                                                have hV154_3 := Lib.hid hc
                                                clear hc hKq Kq hV154_2 hb hz hz2 hH154_2
                                                try simp only [Act.put, List.setIfInBounds_toArray, List.set_cons_zero, List.set_cons_succ]
                                                refine wpAnyH_take (i := 3) (oi := ⟨_, _, _, _, _, _⟩) (v := ?_) rfl (by kernel_rfl) (by kernel_rfl) (by kernel_rfl) (fun _ _ _ h => h) (Or.inl ⟨by rfl, ?_⟩) hH154_3 ?_
                                                rotate_left
                                                · intro wS hSw; (try dsimp only at hSw); go_simp; try with_reducible rfl
                                                try simp only [Act.put, List.setIfInBounds_toArray, List.set_cons_zero, List.set_cons_succ]
                                                refine wpAnyH_take (i := 4) (oi := ⟨_, _, _, _, _, _⟩) (v := ?_) rfl (by kernel_rfl) (by kernel_rfl) (by kernel_rfl) (fun _ _ _ h => h) (Or.inl ⟨by rfl, ?_⟩) hH154_3 ?_
                                                rotate_left
                                                · intro wS hSw; (try dsimp only at hSw); go_simp; try with_reducible rfl
                                                try simp only [Act.put, List.setIfInBounds_toArray, List.set_cons_zero, List.set_cons_succ]
                                                refine wpAnyH_take (i := 5) (oi := ⟨_, _, _, _, _, _⟩) (v := ?_) rfl (by kernel_rfl) (by kernel_rfl) (by kernel_rfl) (fun _ _ _ h => h) (Or.inl ⟨by rfl, ?_⟩) hH154_3 ?_
                                                rotate_left
                                                · intro wS hSw; (try dsimp only at hSw); go_simp; try with_reducible rfl
                                                try simp only [Act.put, List.setIfInBounds_toArray, List.set_cons_zero, List.set_cons_succ]
                                                refine wpAnyH_take (i := 6) (oi := ⟨_, _, _, _, _, _⟩) (v := ?_) rfl (by kernel_rfl) (by kernel_rfl) (by kernel_rfl) (fun _ _ _ h => h) (Or.inl ⟨by rfl, ?_⟩) hH154_3 ?_
                                                rotate_left
                                                · intro wS hSw; (try dsimp only at hSw); go_simp; try with_reducible rfl
                                                try simp only [Act.put, List.setIfInBounds_toArray, List.set_cons_zero, List.set_cons_succ]
                                                refine wpAnyH_ready (rs := [7]) (by kernel_rfl) (by simp) ?_
                                                refine AllReadyH.cons (o := ⟨_, _, _, _, _, _⟩) rfl (fun Kq hKq => ?_) AllReadyH.nil
                                                go_simp
                                                refine stepH hKq (show St w _ [(b205, #[.slice a1 n1 c1, .bool m1], 27), (V154_0.heap.size, #[.slice none 0 0, .bool false], 27), (V154_3.heap.size, #[.slice none 0 0, .bool false], 27)] [fun V => Zd V (.slice a1 n1 c1) m1 ((15511210043330985984000000)), fun V => Zd V (.slice a150 n150 c150) m150 (9999999967), fun V => Zd V (.slice a151 n151 c151) m151 (1551121009451797), fun V => Zd V (.slice a152 n152 c152) m152 (9295909301)] from (hV154_3.out.al V154_3.heap.size #[.slice none 0 0, .bool false] 27 rfl rfl)) (fun _ hX => ⟨hX.cell 0 0 rfl rfl, hX.cell 0 1 rfl rfl, trivial⟩) ?_
                                                intro V154_4 hc hH154_4
                                                have hV154_4 := Lib.hid hc
                                                clear hc hKq Kq hV154_3 hH154_3
                                                try simp only [Act.put, List.setIfInBounds_toArray, List.set_cons_zero, List.set_cons_succ]
                                                refine wpAnyH_ready (rs := [9]) (by kernel_rfl) (by simp) ?_
                                                refine AllReadyH.cons (o := ⟨_, _, _, _, _, _⟩) rfl (fun Kq hKq => ?_) AllReadyH.nil
                                                have cQ0 := hV154_4.out.cell 2 0 rfl rfl
                                                have fQ0 := hV154_4.out.free 2 0 rfl
                                                have cQ1 := hV154_4.out.cell 2 1 rfl rfl
                                                have fQ1 := hV154_4.out.free 2 1 rfl
                                                go_simp
                                                refine stepH hKq (show St w _ [(b205, #[.slice a1 n1 c1, .bool m1], 27), (V154_0.heap.size, #[.slice none 0 0, .bool false], 27), (V154_3.heap.size, #[.slice a151 n151 c151, .bool m151], 27)] [fun V => Zd V (.slice a1 n1 c1) m1 ((15511210043330985984000000)), fun V => Zd V (.slice a150 n150 c150) m150 (9999999967), fun V => Zd V (.slice a151 n151 c151) m151 (1551121009451797), fun V => Zd V (.slice a152 n152 c152) m152 (9295909301)] from (hV154_4.out.set2 2 rfl)) (fun _ hX => ⟨hX.cell 0 0 rfl rfl, hX.cell 0 1 rfl rfl, trivial⟩) ?_
                                                intro V154_5 hc hH154_5
                                                have hV154_5 := Lib.hid hc
                                                clear hc hKq Kq hV154_4 cQ0 fQ0 cQ1 fQ1 hH154_4
                                                try simp only [Act.put, List.setIfInBounds_toArray, List.set_cons_zero, List.set_cons_succ]
                                                refine wpAnyH_ready (rs := [10]) (by kernel_rfl) (by simp) ?_
                                                refine AllReadyH.cons (o := ⟨_, _, _, _, _, _⟩) rfl (fun Kq hKq => ?_) AllReadyH.nil
                                                have cQ0 := hV154_5.out.cell 1 0 rfl rfl
                                                have fQ0 := hV154_5.out.free 1 0 rfl
                                                have cQ1 := hV154_5.out.cell 1 1 rfl rfl
                                                have fQ1 := hV154_5.out.free 1 1 rfl
                                                go_simp
                                                refine stepH hKq (show St w _ [(b205, #[.slice a1 n1 c1, .bool m1], 27), (V154_0.heap.size, #[.slice a152 n152 c152, .bool m152], 27), (V154_3.heap.size, #[.slice a151 n151 c151, .bool m151], 27)] [fun V => Zd V (.slice a1 n1 c1) m1 ((15511210043330985984000000)), fun V => Zd V (.slice a150 n150 c150) m150 (9999999967), fun V => Zd V (.slice a151 n151 c151) m151 (1551121009451797), fun V => Zd V (.slice a152 n152 c152) m152 (9295909301)] from (hV154_5.out.set2 1 rfl)) (fun _ hX => ⟨hX.cell 0 0 rfl rfl, hX.cell 0 1 rfl rfl, trivial⟩) ?_
                                                intro V154_6 hc hH154_6
                                                have hV154_6 := Lib.hid hc
                                                clear hc hKq Kq hV154_5 cQ0 fQ0 cQ1 fQ1 hH154_5
                                                try simp only [Act.put, List.setIfInBounds_toArray, List.set_cons_zero, List.set_cons_succ]
                                                refine wpAnyH_ready (rs := [11]) (by kernel_rfl) (by simp) ?_
                                                refine AllReadyH.cons (o := ⟨_, _, _, _, _, _⟩) rfl (fun Kq hKq => ?_) AllReadyH.nil
                                                go_simp
                                                refine stepH hKq (show St w _ [(b205, #[.slice a1 n1 c1, .bool m1], 27), (V154_0.heap.size, #[.slice a152 n152 c152, .bool m152], 27), (V154_3.heap.size, #[.slice a151 n151 c151, .bool m151], 27)] [fun V => Zd V (.slice a1 n1 c1) m1 ((15511210043330985984000000)), fun V => Zd V (.slice a150 n150 c150) m150 (9999999967), fun V => Zd V (.slice a151 n151 c151) m151 (1551121009451797), fun V => Zd V (.slice a152 n152 c152) m152 (9295909301)] from hV154_6.out) (fun _ hX => ⟨hX.cell 0 0 rfl rfl, hX.cell 0 1 rfl rfl, trivial⟩) ?_
                                                intro V154_7 hc hH154_7
                                                have hV154_7 := Lib.hid hc
                                                clear hc hKq Kq hV154_6 hH154_6
                                                try simp only [Act.put, List.setIfInBounds_toArray, List.set_cons_zero, List.set_cons_succ]
                                                refine wpAnyH_done (by kernel_rfl) ?_ _
                                                go_wp2_with fail
                                                go_meet
                                                refine ⟨_, _, a151, n151, c151, m151, a152, n152, c152, m152, rfl, rfl, rfl, ?_⟩
                                                exact Lib.hid (St.pick (St.bpick hV154_7.out [0, 2, 1] (by decide) rfl) [0, 2, 3] rfl)
                                            refine AllReadyH.cons (o := ⟨_, _, _, _, _, _⟩) rfl (fun Kq hKq => ?_) ?_
                                            · as_aux_lemma =>
                                                go_simp
                                                refine stepH hKq (show St w _ [(b205, #[.slice a1 n1 c1, .bool m1], 27), (V154_0.heap.size, #[.slice none 0 0, .bool false], 27), (V154_2.heap.size, #[.slice none 0 0, .bool false], 27)] [fun V => Zd V (.slice a1 n1 c1) m1 ((15511210043330985984000000)), fun V => Zd V (.slice a150 n150 c150) m150 (9999999967)] from (hV154_2.out.al V154_2.heap.size #[.slice none 0 0, .bool false] 27 rfl rfl)) (fun _ hX => ⟨hX.cell 0 0 rfl rfl, hX.cell 0 1 rfl rfl, trivial⟩) ?_
                                                intro V154_3 hc hH154_3
                                                have hV154_3 := Lib.hid hc
                                                clear hc hKq Kq hV154_2 hH154_2
                                                try simp only [Act.put, List.setIfInBounds_toArray, List.set_cons_zero, List.set_cons_succ]
                                                refine wpAnyH_ready (rs := [2]) (by kernel_rfl) (by simp) ?_
                                                refine AllReadyH.cons (o := ⟨_, _, _, _, _, _⟩) rfl (fun Kq hKq => ?_) AllReadyH.nil
                                                go_simp
                                                go_at_call 12
                                                refine (quo_b (hV154_3.out.z 0 rfl) (hV154_3.out.z 1 rfl) (by omega) (bdl (n := 90) (z := 15511210043330985984000000) (by decide)) (bdl (n := 40) (z := 9999999967) (by decide)) (by omega) (by omega)).mono ?_
                                                rintro e w151 ⟨a151, n151, c151, m151, a152, n152, c152, m152, rfl, hz, hz2, hb⟩
                                                rw [big_q] at hz
                                                rw [big_m] at hz2
                                                (try go_wp2_with fail)
                                                refine stepH hKq (show St w _ [(b205, #[.slice a1 n1 c1, .bool m1], 27), (V154_0.heap.size, #[.slice none 0 0, .bool false], 27), (V154_2.heap.size, #[.slice none 0 0, .bool false], 27)] [fun V => Zd V (.slice a1 n1 c1) m1 ((15511210043330985984000000)), fun V => Zd V (.slice a150 n150 c150) m150 (9999999967), fun V => Zd V (.slice a151 n151 c151) m151 (1551121009451797), fun V => Zd V (.slice a152 n152 c152) m152 (9295909301)] from (((hV154_3.out.call hb).pz hz).pz hz2)) (fun _ hX => ⟨hX.cell 0 0 rfl rfl, hX.cell 0 1 rfl rfl, trivial⟩) ?_
                                                intro V154_4 hc hH154_4
                                                have hV154_4 := Lib.hid hc
                                                clear hc hKq Kq hV154_3 hb hz hz2 hH154_3
                                                try simp only [Act.put, List.setIfInBounds_toArray, List.set_cons_zero, List.set_cons_succ]
                                                refine wpAnyH_take (i := 3) (oi := ⟨_, _, _, _, _, _⟩) (v := ?_) rfl (by kernel_rfl) (by kernel_rfl) (by kernel_rfl) (fun _ _ _ h => h) (Or.inl ⟨by rfl, ?_⟩) hH154_4 ?_
                                                rotate_left
                                                · intro wS hSw; (try dsimp only at hSw); go_simp; try with_reducible rfl
                                                try simp only [Act.put, List.setIfInBounds_toArray, List.set_cons_zero, List.set_cons_succ]
                                                refine wpAnyH_take (i := 4) (oi := ⟨_, _, _, _, _, _⟩) (v := ?_) rfl (by kernel_rfl) (by kernel_rfl) (by kernel_rfl) (fun _ _ _ h => h) (Or.inl ⟨by rfl, ?_⟩) hH154_4 ?_
                                                rotate_left
                                                · intro wS hSw; (try dsimp only at hSw); go_simp; try with_reducible rfl
                                                try simp only [Act.put, List.setIfInBounds_toArray, List.set_cons_zero, List.set_cons_succ]
                                                refine wpAnyH_take (i := 5) (oi := ⟨_, _, _, _, _, _⟩) (v := ?_) rfl (by kernel_rfl) (by kernel_rfl) (by kernel_rfl) (fun _ _ _ h => h) (Or.inl ⟨by rfl, ?_⟩) hH154_4 ?_
                                                rotate_left
                                                · intro wS hSw; (try dsimp only at hSw); go_simp; try with_reducible rfl
                                                try simp only [Act.put, List.setIfInBounds_toArray, List.set_cons_zero, List.set_cons_succ]
                                                refine wpAnyH_take (i := 6) (oi := ⟨_, _, _, _, _, _⟩) (v := ?_) rfl (by kernel_rfl) (by kernel_rfl) (by kernel_rfl) (fun _ _ _ h => h) (Or.inl ⟨by rfl, ?_⟩) hH154_4 ?_
                                                rotate_left
                                                · intro wS hSw; (try dsimp only at hSw); go_simp; try with_reducible rfl
                                                try simp only [Act.put, List.setIfInBounds_toArray, List.set_cons_zero, List.set_cons_succ]
                                                refine wpAnyH_ready (rs := [9]) (by kernel_rfl) (by simp) ?_
                                                refine AllReadyH.cons (o := ⟨_, _, _, _, _, _⟩) rfl (fun Kq hKq => ?_) AllReadyH.nil
                                                have cQ0 := hV154_4.out.cell 2 0 rfl rfl
                                                have fQ0 := hV154_4.out.free 2 0 rfl
                                                have cQ1 := hV154_4.out.cell 2 1 rfl rfl
                                                have fQ1 := hV154_4.out.free 2 1 rfl
                                                go_simp
                                                refine stepH hKq (show St w _ [(b205, #[.slice a1 n1 c1, .bool m1], 27), (V154_0.heap.size, #[.slice none 0 0, .bool false], 27), (V154_2.heap.size, #[.slice a151 n151 c151, .bool m151], 27)] [fun V => Zd V (.slice a1 n1 c1) m1 ((15511210043330985984000000)), fun V => Zd V (.slice a150 n150 c150) m150 (9999999967), fun V => Zd V (.slice a151 n151 c151) m151 (1551121009451797), fun V => Zd V (.slice a152 n152 c152) m152 (9295909301)] from (hV154_4.out.set2 2 rfl)) (fun _ hX => ⟨hX.cell 0 0 rfl rfl, hX.cell 0 1 rfl rfl, trivial⟩) ?_
                                                intro V154_5 hc hH154_5
                                                have hV154_5 := Lib.hid hc
                                                clear hc hKq Kq hV154_4 cQ0 fQ0 cQ1 fQ1 hH154_4
                                                try simp only [Act.put, List.setIfInBounds_toArray, List.set_cons_zero, List.set_cons_succ]
                                                refine wpAnyH_ready (rs := [10]) (by kernel_rfl) (by simp) ?_
                                                refine AllReadyH.cons (o := ⟨_, _, _, _, _, _⟩) rfl (fun Kq hKq => ?_) AllReadyH.nil
                                                have cQ0 := hV154_5.out.cell 1 0 rfl rfl
                                                have fQ0 := hV154_5.out.free 1 0 rfl
                                                have cQ1 := hV154_5.out.cell 1 1 rfl rfl
                                                have fQ1 := hV154_5.out.free 1 1 rfl
                                                go_simp
                                                refine stepH hKq (show St w _ [(b205, #[.slice a1 n1 c1, .bool m1], 27), (V154_0.heap.size, #[.slice a152 n152 c152, .bool m152], 27), (V154_2.heap.size, #[.slice a151 n151 c151, .bool m151], 27)] [fun V => Zd V (.slice a1 n1 c1) m1 ((15511210043330985984000000)), fun V => Zd V (.slice a150 n150 c150) m150 (9999999967), fun V => Zd V (.slice a151 n151 c151) m151 (1551121009451797), fun V => Zd V (.slice a152 n152 c152) m152 (9295909301)] from (hV154_5.out.set2 1 rfl)) (fun _ hX => ⟨hX.cell 0 0 rfl rfl, hX.cell 0 1 rfl rfl, trivial⟩) ?_
                                                intro V154_6 hc hH154_6
                                                have hV154_6 := Lib.hid hc
                                                clear hc hKq Kq hV154_5 cQ0 fQ0 cQ1 fQ1 hH154_5
                                                try simp only [Act.put, List.setIfInBounds_toArray, List.set_cons_zero, List.set_cons_succ]
                                                refine wpAnyH_ready (rs := [11]) (by kernel_rfl) (by simp) ?_
                                                refine AllReadyH.cons (o := ⟨_, _, _, _, _, _⟩) rfl (fun Kq hKq => ?_) AllReadyH.nil
                                                go_simp
                                                refine stepH hKq (show St w _ [(b205, #[.slice a1 n1 c1, .bool m1], 27), (V154_0.heap.size, #[.slice a152 n152 c152, .bool m152], 27), (V154_2.heap.size, #[.slice a151 n151 c151, .bool m151], 27)] [fun V => Zd V (.slice a1 n1 c1) m1 ((15511210043330985984000000)), fun V => Zd V (.slice a150 n150 c150) m150 (9999999967), fun V => Zd V (.slice a151 n151 c151) m151 (1551121009451797), fun V => Zd V (.slice a152 n152 c152) m152 (9295909301)] from hV154_6.out) (fun _ hX => ⟨hX.cell 0 0 rfl rfl, hX.cell 0 1 rfl rfl, trivial⟩) ?_
                                                intro V154_7 hc hH154_7
                                                have hV154_7 := Lib.hid hc
                                                clear hc hKq Kq hV154_6 hH154_6
                                                try simp only [Act.put, List.setIfInBounds_toArray, List.set_cons_zero, List.set_cons_succ]
                                                refine wpAnyH_done (by kernel_rfl) ?_ _
                                                go_wp2_with fail
                                                go_meet
                                                refine ⟨_, _, a151, n151, c151, m151, a152, n152, c152, m152, rfl, rfl, rfl, ?_⟩
                                                exact Lib.hid (St.pick (St.bpick hV154_7.out [0, 2, 1] (by decide) rfl) [0, 2, 3] rfl)
                                            exact AllReadyH.nil
                                        refine AllReadyH.cons (o := ⟨_, _, _, _, _, _⟩) rfl (fun Kq hKq => ?_) ?_
                                        · as_aux_lemma =>
                                            go_simp
                                            refine stepH hKq (show St w _ [(b205, #[.slice a1 n1 c1, .bool m1], 27), (V154_0.heap.size, #[.slice none 0 0, .bool false], 27), (V154_1.heap.size, #[.slice none 0 0, .bool false], 27)] [fun V => Zd V (.slice a1 n1 c1) m1 ((15511210043330985984000000))] from (hV154_1.out.al V154_1.heap.size #[.slice none 0 0, .bool false] 27 rfl rfl)) (fun _ hX => ⟨hX.cell 0 0 rfl rfl, hX.cell 0 1 rfl rfl, trivial⟩) ?_
                                            intro V154_2 hc hH154_2
                                            have hV154_2 := Lib.hid hc
                                            clear hc hKq Kq hV154_1 hH154_1
                                            try simp only [Act.put, List.setIfInBounds_toArray, List.set_cons_zero, List.set_cons_succ]
                                            refine wpAnyH_ready (rs := [1]) (by kernel_rfl) (by simp) ?_
                                            refine AllReadyH.cons (o := ⟨_, _, _, _, _, _⟩) rfl (fun Kq hKq => ?_) AllReadyH.nil
                                            go_simp
                                            go_at_call 14
                                            refine (z_is (by decide) z99).mono ?_
                                            rintro e w150 ⟨a150, n150, c150, m150, rfl, hz, hb⟩
                                            (try go_wp2_with fail)
                                            refine stepH hKq (show St w _ [(b205, #[.slice a1 n1 c1, .bool m1], 27), (V154_0.heap.size, #[.slice none 0 0, .bool false], 27), (V154_1.heap.size, #[.slice none 0 0, .bool false], 27)] [fun V => Zd V (.slice a1 n1 c1) m1 ((15511210043330985984000000)), fun V => Zd V (.slice a150 n150 c150) m150 (9999999967)] from ((hV154_2.out.call hb).pz hz)) (fun _ hX => ⟨hX.cell 0 0 rfl rfl, hX.cell 0 1 rfl rfl, trivial⟩) ?_
                                            intro V154_3 hc hH154_3
                                            have hV154_3 := Lib.hid hc
                                            clear hc hKq Kq hV154_2 hb hz hH154_2
                                            try simp only [Act.put, List.setIfInBounds_toArray, List.set_cons_zero, List.set_cons_succ]
                                            refine wpAnyH_ready (rs := [2]) (by kernel_rfl) (by simp) ?_
                                            refine AllReadyH.cons (o := ⟨_, _, _, _, _, _⟩) rfl (fun Kq hKq => ?_) AllReadyH.nil
                                            go_simp
                                            go_at_call 12
                                            refine (quo_b (hV154_3.out.z 0 rfl) (hV154_3.out.z 1 rfl) (by omega) (bdl (n := 90) (z := 15511210043330985984000000) (by decide)) (bdl (n := 40) (z := 9999999967) (by decide)) (by omega) (by omega)).mono ?_
                                            rintro e w151 ⟨a151, n151, c151, m151, a152, n152, c152, m152, rfl, hz, hz2, hb⟩
                                            rw [big_q] at hz
                                            rw [big_m] at hz2
                                            (try go_wp2_with fail)
                                            refine stepH hKq (show St w _ [(b205, #[.slice a1 n1 c1, .bool m1], 27), (V154_0.heap.size, #[.slice none 0 0, .bool false], 27), (V154_1.heap.size, #[.slice none 0 0, .bool false], 27)] [fun V => Zd V (.slice a1 n1 c1) m1 ((15511210043330985984000000)), fun V => Zd V (.slice a150 n150 c150) m150 (9999999967), fun V => Zd V (.slice a151 n151 c151) m151 (1551121009451797), fun V => Zd V (.slice a152 n152 c152) m152 (9295909301)] from (((hV154_3.out.call hb).pz hz).pz hz2)) (fun _ hX => ⟨hX.cell 0 0 rfl rfl, hX.cell 0 1 rfl rfl, trivial⟩) ?_
                                            intro V154_4 hc hH154_4
                                            have hV154_4 := Lib.hid hc
                                            clear hc hKq Kq hV154_3 hb hz hz2 hH154_3
                                            try simp only [Act.put, List.setIfInBounds_toArray, List.set_cons_zero, List.set_cons_succ]
                                            refine wpAnyH_take (i := 3) (oi := ⟨_, _, _, _, _, _⟩) (v := ?_) rfl (by kernel_rfl) (by kernel_rfl) (by kernel_rfl) (fun _ _ _ h => h) (Or.inl ⟨by rfl, ?_⟩) hH154_4 ?_
                                            rotate_left
                                            · intro wS hSw; (try dsimp only at hSw); go_simp; try with_reducible rfl
                                            try simp only [Act.put, List.setIfInBounds_toArray, List.set_cons_zero, List.set_cons_succ]
                                            refine wpAnyH_take (i := 4) (oi := ⟨_, _, _, _, _, _⟩) (v := ?_) rfl (by kernel_rfl) (by kernel_rfl) (by kernel_rfl) (fun _ _ _ h => h) (Or.inl ⟨by rfl, ?_⟩) hH154_4 ?_
                                            rotate_left
                                            · intro wS hSw; (try dsimp only at hSw); go_simp; try with_reducible rfl
                                            try simp only [Act.put, List.setIfInBounds_toArray, List.set_cons_zero, List.set_cons_succ]
                                            refine wpAnyH_take (i := 5) (oi := ⟨_, _, _, _, _, _⟩) (v := ?_) rfl (by kernel_rfl) (by kernel_rfl) (by kernel_rfl) (fun _ _ _ h => h) (Or.inl ⟨by rfl, ?_⟩) hH154_4 ?_
                                            rotate_left
                                            · intro wS hSw; (try dsimp only at hSw); go_simp; try with_reducible rfl
                                            try simp only [Act.put, List.setIfInBounds_toArray, List.set_cons_zero, List.set_cons_succ]
                                            refine wpAnyH_take (i := 6) (oi := ⟨_, _, _, _, _, _⟩) (v := ?_) rfl (by kernel_rfl) (by kernel_rfl) (by kernel_rfl) (fun _ _ _ h => h) (Or.inl ⟨by rfl, ?_⟩) hH154_4 ?_
                                            rotate_left
                                            · intro wS hSw; (try dsimp only at hSw); go_simp; try with_reducible rfl
                                            try simp only [Act.put, List.setIfInBounds_toArray, List.set_cons_zero, List.set_cons_succ]
                                            refine wpAnyH_ready (rs := [9]) (by kernel_rfl) (by simp) ?_
                                            refine AllReadyH.cons (o := ⟨_, _, _, _, _, _⟩) rfl (fun Kq hKq => ?_) AllReadyH.nil
                                            have cQ0 := hV154_4.out.cell 2 0 rfl rfl
                                            have fQ0 := hV154_4.out.free 2 0 rfl
                                            have cQ1 := hV154_4.out.cell 2 1 rfl rfl
                                            have fQ1 := hV154_4.out.free 2 1 rfl
                                            go_simp
                                            refine stepH hKq (show St w _ [(b205, #[.slice a1 n1 c1, .bool m1], 27), (V154_0.heap.size, #[.slice none 0 0, .bool false], 27), (V154_1.heap.size, #[.slice a151 n151 c151, .bool m151], 27)] [fun V => Zd V (.slice a1 n1 c1) m1 ((15511210043330985984000000)), fun V => Zd V (.slice a150 n150 c150) m150 (9999999967), fun V => Zd V (.slice a151 n151 c151) m151 (1551121009451797), fun V => Zd V (.slice a152 n152 c152) m152 (9295909301)] from (hV154_4.out.set2 2 rfl)) (fun _ hX => ⟨hX.cell 0 0 rfl rfl, hX.cell 0 1 rfl rfl, trivial⟩) ?_
                                            intro V154_5 hc hH154_5
                                            have hV154_5 := Lib.hid hc
                                            clear hc hKq Kq hV154_4 cQ0 fQ0 cQ1 fQ1 hH154_4
                                            try simp only [Act.put, List.setIfInBounds_toArray, List.set_cons_zero, List.set_cons_succ]
                                            refine wpAnyH_ready (rs := [10]) (by kernel_rfl) (by simp) ?_
                                            refine AllReadyH.cons (o := ⟨_, _, _, _, _, _⟩) rfl (fun Kq hKq => ?_) AllReadyH.nil
                                            have cQ0 := hV154_5.out.cell 1 0 rfl rfl
                                            have fQ0 := hV154_5.out.free 1 0 rfl
                                            have cQ1 := hV154_5.out.cell 1 1 rfl rfl
                                            have fQ1 := hV154_5.out.free 1 1 rfl
                                            go_simp
                                            refine stepH hKq (show St w _ [(b205, #[.slice a1 n1 c1, .bool m1], 27), (V154_0.heap.size, #[.slice a152 n152 c152, .bool m152], 27), (V154_1.heap.size, #[.slice a151 n151 c151, .bool m151], 27)] [fun V => Zd V (.slice a1 n1 c1) m1 ((15511210043330985984000000)), fun V => Zd V (.slice a150 n150 c150) m150 (9999999967), fun V => Zd V (.slice a151 n151 c151) m151 (1551121009451797), fun V => Zd V (.slice a152 n152 c152) m152 (9295909301)] from (hV154_5.out.set2 1 rfl)) (fun _ hX => ⟨hX.cell 0 0 rfl rfl, hX.cell 0 1 rfl rfl, trivial⟩) ?_
                                            intro V154_6 hc hH154_6
                                            have hV154_6 := Lib.hid hc
                                            clear hc hKq Kq hV154_5 cQ0 fQ0 cQ1 fQ1 hH154_5
                                            try simp only [Act.put, List.setIfInBounds_toArray, List.set_cons_zero, List.set_cons_succ]
                                            refine wpAnyH_ready (rs := [11]) (by kernel_rfl) (by simp) ?_
                                            refine AllReadyH.cons (o := ⟨_, _, _, _, _, _⟩) rfl (fun Kq hKq => ?_) AllReadyH.nil
                                            go_simp
                                            refine stepH hKq (show St w _ [(b205, #[.slice a1 n1 c1, .bool m1], 27), (V154_0.heap.size, #[.slice a152 n152 c152, .bool m152], 27), (V154_1.heap.size, #[.slice a151 n151 c151, .bool m151], 27)] [fun V => Zd V (.slice a1 n1 c1) m1 ((15511210043330985984000000)), fun V => Zd V (.slice a150 n150 c150) m150 (9999999967), fun V => Zd V (.slice a151 n151 c151) m151 (1551121009451797), fun V => Zd V (.slice a152 n152 c152) m152 (9295909301)] from hV154_6.out) (fun _ hX => ⟨hX.cell 0 0 rfl rfl, hX.cell 0 1 rfl rfl, trivial⟩) ?_
                                            intro V154_7 hc hH154_7
                                            have hV154_7 := Lib.hid hc
                                            clear hc hKq Kq hV154_6 hH154_6
                                            try simp only [Act.put, List.setIfInBounds_toArray, List.set_cons_zero, List.set_cons_succ]
                                            refine wpAnyH_done (by kernel_rfl) ?_ _
                                            go_wp2_with fail
                                            go_meet
                                            refine ⟨_, _, a151, n151, c151, m151, a152, n152, c152, m152, rfl, rfl, rfl, ?_⟩
                                            exact Lib.hid (St.pick (St.bpick hV154_7.out [0, 2, 1] (by decide) rfl) [0, 2, 3] rfl)
                                        exact AllReadyH.nil
                                    exact AllReadyH.nil
                                case rest =>
                                  obtain ⟨b153_0, b153_1, a151, n151, c151, m151, a152, n152, c152, m152, rfl, rfl, rfl, hE153⟩ := hcut
                                  clear hD153
                                  go_upto_region 32 with fail
                                  go_cut [235] (fun s235 wx => s235 = .bool false ∧ Hid (St w wx [] []))
                                  case first =>
                                    as_aux_lemma =>
                                      refine wp_gen hE153.out ?_
                                      intro W9 hc
                                      clear hE153
                                      have hQ : Hid (St w W9 [(b205, #[.slice a1 n1 c1, .bool m1], 27), (b153_0, #[.slice a151 n151 c151, .bool m151], 27), (b153_1, #[.slice a152 n152 c152, .bool m152], 27)] [fun V => Zd V (.slice a1 n1 c1) m1 ((15511210043330985984000000)), fun V => Zd V (.slice a151 n151 c151) m151 (1551121009451797), fun V => Zd V (.slice a152 n152 c152) m152 (9295909301)]) := Lib.hid hc
                                      clear hc
                                      refine wp_region_held_drew (S := (fun w' => w'.cell? ⟨b205, 0, none⟩ = some (.slice a1 n1 c1) ∧ w'.cell? ⟨b205, 1, none⟩ = some (.bool m1) ∧ w'.cell? ⟨b153_0, 0, none⟩ = some (.slice a151 n151 c151) ∧ w'.cell? ⟨b153_0, 1, none⟩ = some (.bool m151) ∧ w'.cell? ⟨b153_1, 0, none⟩ = some (.slice a152 n152 c152) ∧ w'.cell? ⟨b153_1, 1, none⟩ = some (.bool m152) ∧ True)) (by kernel_rfl) ?_ (fun hH0 => ?_)
                                      · (try dsimp only)
                                        all_goals (with_reducible refine And.intro (?_ : World.cell? (World.drew W9) _ = _) ?_; exact hQ.out.drew.cell 0 0 rfl rfl; exact ⟨hQ.out.drew.cell 0 1 rfl rfl, hQ.out.drew.cell 1 0 rfl rfl, hQ.out.drew.cell 1 1 rfl rfl, hQ.out.drew.cell 2 0 rfl rfl, hQ.out.drew.cell 2 1 rfl rfl, trivial⟩)
                                      refine wpAnyH_take (i := 0) (oi := ⟨_, _, _, _, _, _⟩) (v := ?_) rfl (by kernel_rfl) (by kernel_rfl) (by kernel_rfl) (fun _ _ _ h => h) (Or.inl ⟨by rfl, ?_⟩) hH0 ?_
                                      rotate_left
                                      · intro wS hSw; (try dsimp only at hSw); go_simp; try with_reducible rfl
                                      try simp only [Act.put, List.setIfInBounds_toArray, List.set_cons_zero, List.set_cons_succ]
                                      refine wpAnyH_take (i := 1) (oi := ⟨_, _, _, _, _, _⟩) (v := ?_) rfl (by kernel_rfl) (by kernel_rfl) (by kernel_rfl) (fun _ _ _ h => h) (Or.inl ⟨by rfl, ?_⟩) hH0 ?_
                                      rotate_left
                                      · intro wS hSw; (try dsimp only at hSw); go_simp; try with_reducible rfl
                                      try simp only [Act.put, List.setIfInBounds_toArray, List.set_cons_zero, List.set_cons_succ]
                                      refine wpAnyH_take (i := 2) (oi := ⟨_, _, _, _, _, _⟩) (v := ?_) rfl (by kernel_rfl) (by kernel_rfl) (by kernel_rfl) (fun _ _ _ h => h) (Or.inl ⟨by rfl, ?_⟩) hH0 ?_
                                      rotate_left
                                      · intro wS hSw; (try dsimp only at hSw); go_simp; try with_reducible rfl
                                      try simp only [Act.put, List.setIfInBounds_toArray, List.set_cons_zero, List.set_cons_succ]
                                      refine wpAnyH_take (i := 3) (oi := ⟨_, _, _, _, _, _⟩) (v := ?_) rfl (by kernel_rfl) (by kernel_rfl) (by kernel_rfl) (fun _ _ _ h => h) (Or.inl ⟨by rfl, ?_⟩) hH0 ?_
                                      rotate_left
                                      · intro wS hSw; (try dsimp only at hSw); go_simp; try with_reducible rfl
                                      try simp only [Act.put, List.setIfInBounds_toArray, List.set_cons_zero, List.set_cons_succ]
                                      refine wpAnyH_ready (rs := [4]) (by kernel_rfl) (by simp) ?_
                                      refine AllReadyH.cons (o := ⟨_, _, _, _, _, _⟩) rfl (fun Kq hKq => ?_) AllReadyH.nil
                                      go_simp
                                      (have _t := hQ; go_at_call 15; refine (ztext_is (B := ⟨#[49, 53, 53, 49, 49, 50, 49, 48, 48, 52, 51, 51, 51, 48, 57, 56, 53, 57, 56, 52, 48, 48, 48, 48, 48, 48]⟩) (hQ.out.drew.z 0 rfl) (bdl (n := 90) (z := 15511210043330985984000000) (by decide)) (by omega) t_big).mono ?_; rintro e w155 ⟨rfl, hb⟩; have hC155 : Hid (St w w155 [(b205, #[.slice a1 n1 c1, .bool m1], 27), (b153_0, #[.slice a151 n151 c151, .bool m151], 27), (b153_1, #[.slice a152 n152 c152, .bool m152], 27)] [fun V => Zd V (.slice a1 n1 c1) m1 ((15511210043330985984000000)), fun V => Zd V (.slice a151 n151 c151) m151 (1551121009451797), fun V => Zd V (.slice a152 n152 c152) m152 (9295909301)]) := Lib.hid (St.pick ((hQ.out.drew.call hb)) [0, 1, 2] rfl); clear hb; clear _t hQ)
                                      (try go_wp2_with fail)
                                      refine hKq.out _ _ ?_ (fun hH1 => ?_)
                                      · (try dsimp only)
                                        all_goals (with_reducible refine And.intro (?_ : World.cell? w155 _ = _) ?_; exact hC155.out.cell 0 0 rfl rfl; exact ⟨hC155.out.cell 0 1 rfl rfl, hC155.out.cell 1 0 rfl rfl, hC155.out.cell 1 1 rfl rfl, hC155.out.cell 2 0 rfl rfl, hC155.out.cell 2 1 rfl rfl, trivial⟩)
                                      clear hKq Kq hH0
                                      try simp only [Act.put, List.setIfInBounds_toArray, List.set_cons_zero, List.set_cons_succ]
                                      refine wpAnyH_take (i := 5) (oi := ⟨_, _, _, _, _, _⟩) (v := ?_) rfl (by kernel_rfl) (by kernel_rfl) (by kernel_rfl) (fun _ _ _ h => h) (Or.inl ⟨by rfl, ?_⟩) hH1 ?_
                                      rotate_left
                                      · intro wS hSw; (try dsimp only at hSw); go_simp; try with_reducible rfl
                                      try simp only [Act.put, List.setIfInBounds_toArray, List.set_cons_zero, List.set_cons_succ]
                                      refine wpAnyH_take (i := 6) (oi := ⟨_, _, _, _, _, _⟩) (v := ?_) rfl (by kernel_rfl) (by kernel_rfl) (by kernel_rfl) (fun _ _ _ h => h) (Or.inl ⟨by rfl, ?_⟩) hH1 ?_
                                      rotate_left
                                      · intro wS hSw; (try dsimp only at hSw); go_simp; try with_reducible rfl
                                      try simp only [Act.put, List.setIfInBounds_toArray, List.set_cons_zero, List.set_cons_succ]
                                      refine wpAnyH_take (i := 7) (oi := ⟨_, _, _, _, _, _⟩) (v := ?_) rfl (by kernel_rfl) (by kernel_rfl) (by kernel_rfl) (fun _ _ _ h => h) (Or.inl ⟨by rfl, ?_⟩) hH1 ?_
                                      rotate_left
                                      · intro wS hSw; (try dsimp only at hSw); go_simp; try with_reducible rfl
                                      try simp only [Act.put, List.setIfInBounds_toArray, List.set_cons_zero, List.set_cons_succ]
                                      refine wpAnyH_take (i := 8) (oi := ⟨_, _, _, _, _, _⟩) (v := ?_) rfl (by kernel_rfl) (by kernel_rfl) (by kernel_rfl) (fun _ _ _ h => h) (Or.inl ⟨by rfl, ?_⟩) hH1 ?_
                                      rotate_left
                                      · intro wS hSw; (try dsimp only at hSw); go_simp; try with_reducible rfl
                                      try simp only [Act.put, List.setIfInBounds_toArray, List.set_cons_zero, List.set_cons_succ]
                                      refine wpAnyH_take (i := 11) (oi := ⟨_, _, _, _, _, _⟩) (v := ?_) rfl (by kernel_rfl) (by kernel_rfl) (by kernel_rfl) (fun _ _ _ h => h) (Or.inl ⟨by rfl, ?_⟩) hH1 ?_
                                      rotate_left
                                      · intro wS hSw; (try dsimp only at hSw); go_simp; try with_reducible rfl
                                      try simp only [Act.put, List.setIfInBounds_toArray, List.set_cons_zero, List.set_cons_succ]
                                      refine wpAnyH_take (i := 13) (oi := ⟨_, _, _, _, _, _⟩) (v := ?_) rfl (by kernel_rfl) (by kernel_rfl) (by kernel_rfl) (fun _ _ _ h => h) (Or.inl ⟨by rfl, ?_⟩) hH1 ?_
                                      rotate_left
                                      · intro wS hSw; (try dsimp only at hSw); go_simp; try with_reducible rfl
                                      try simp only [Act.put, List.setIfInBounds_toArray, List.set_cons_zero, List.set_cons_succ]
                                      refine wpAnyH_ready (rs := [9]) (by kernel_rfl) (by simp) ?_
                                      refine AllReadyH.cons (o := ⟨_, _, _, _, _, _⟩) rfl (fun Kq hKq => ?_) AllReadyH.nil
                                      go_simp
                                      (have _t := hC155; go_at_call 14; refine (z_is (by decide) z99).mono ?_; rintro e w156 ⟨a156, n156, c156, m156, rfl, hz, hb⟩; have hC156 : Hid (St w w156 [(b205, #[.slice a1 n1 c1, .bool m1], 27), (b153_0, #[.slice a151 n151 c151, .bool m151], 27), (b153_1, #[.slice a152 n152 c152, .bool m152], 27)] [fun V => Zd V (.slice a1 n1 c1) m1 ((15511210043330985984000000)), fun V => Zd V (.slice a151 n151 c151) m151 (1551121009451797), fun V => Zd V (.slice a152 n152 c152) m152 (9295909301), fun V => Zd V (.slice a156 n156 c156) m156 (9999999967)]) := Lib.hid (St.pick ((hC155.out.call hb).pz hz) [0, 1, 2, 3] rfl); clear hb hz; clear _t hC155)
                                      (try go_wp2_with fail)
                                      refine hKq.out _ _ ?_ (fun hH2 => ?_)
                                      · (try dsimp only)
                                        all_goals (with_reducible refine And.intro (?_ : World.cell? w156 _ = _) ?_; exact hC156.out.cell 0 0 rfl rfl; exact ⟨hC156.out.cell 0 1 rfl rfl, hC156.out.cell 1 0 rfl rfl, hC156.out.cell 1 1 rfl rfl, hC156.out.cell 2 0 rfl rfl, hC156.out.cell 2 1 rfl rfl, trivial⟩)
                                      clear hKq Kq hH1
                                      try simp only [Act.put, List.setIfInBounds_toArray, List.set_cons_zero, List.set_cons_succ]
                                      refine wpAnyH_ready (rs := [10]) (by kernel_rfl) (by simp) ?_
                                      refine AllReadyH.cons (o := ⟨_, _, _, _, _, _⟩) rfl (fun Kq hKq => ?_) AllReadyH.nil
                                      go_simp
                                      (have _t := hC156; go_at_call 21; refine (mul_b (hC156.out.z 1 rfl) (hC156.out.z 3 rfl) (bdl (n := 60) (z := 1551121009451797) (by decide)) (bdl (n := 40) (z := 9999999967) (by decide)) (by omega) (by omega)).mono ?_; rintro e w157 ⟨a157, n157, c157, m157, rfl, hz, hb⟩; have hC157 : Hid (St w w157 [(b205, #[.slice a1 n1 c1, .bool m1], 27), (b153_0, #[.slice a151 n151 c151, .bool m151], 27), (b153_1, #[.slice a152 n152 c152, .bool m152], 27)] [fun V => Zd V (.slice a1 n1 c1) m1 ((15511210043330985984000000)), fun V => Zd V (.slice a151 n151 c151) m151 (1551121009451797), fun V => Zd V (.slice a152 n152 c152) m152 (9295909301), fun V => Zd V (.slice a157 n157 c157) m157 ((1551121009451797 * 9999999967))]) := Lib.hid (St.pick ((hC156.out.call hb).pz hz) [0, 1, 2, 4] rfl); clear hb hz; clear _t hC156)
                                      (try go_wp2_with fail)
                                      refine hKq.out _ _ ?_ (fun hH3 => ?_)
                                      · (try dsimp only)
                                        all_goals (with_reducible refine And.intro (?_ : World.cell? w157 _ = _) ?_; exact hC157.out.cell 0 0 rfl rfl; exact ⟨hC157.out.cell 0 1 rfl rfl, hC157.out.cell 1 0 rfl rfl, hC157.out.cell 1 1 rfl rfl, hC157.out.cell 2 0 rfl rfl, hC157.out.cell 2 1 rfl rfl, trivial⟩)
                                      clear hKq Kq hH2
                                      try simp only [Act.put, List.setIfInBounds_toArray, List.set_cons_zero, List.set_cons_succ]
                                      refine wpAnyH_ready (rs := [12]) (by kernel_rfl) (by simp) ?_
                                      refine AllReadyH.cons (o := ⟨_, _, _, _, _, _⟩) rfl (fun Kq hKq => ?_) AllReadyH.nil
                                      go_simp
                                      (have _t := hC157; go_at_call 22; refine (add_b (hC157.out.z 3 rfl) (hC157.out.z 2 rfl) (((bdl (n := 60) (z := 1551121009451797) (by decide))).mul ((bdl (n := 40) (z := 9999999967) (by decide)))) (bdl (n := 40) (z := 9295909301) (by decide)) (by omega) (by omega)).mono ?_; rintro e w158 ⟨a158, n158, c158, m158, rfl, hz, hb⟩; have hC158 : Hid (St w w158 [(b205, #[.slice a1 n1 c1, .bool m1], 27), (b153_0, #[.slice a151 n151 c151, .bool m151], 27), (b153_1, #[.slice a152 n152 c152, .bool m152], 27)] [fun V => Zd V (.slice a1 n1 c1) m1 ((15511210043330985984000000)), fun V => Zd V (.slice a151 n151 c151) m151 (1551121009451797), fun V => Zd V (.slice a152 n152 c152) m152 (9295909301), fun V => Zd V (.slice a158 n158 c158) m158 (((1551121009451797 * 9999999967) + 9295909301))]) := Lib.hid (St.pick ((hC157.out.call hb).pz hz) [0, 1, 2, 4] rfl); clear hb hz; clear _t hC157)
                                      (try go_wp2_with fail)
                                      refine hKq.out _ _ ?_ (fun hH4 => ?_)
                                      · (try dsimp only)
                                        all_goals (with_reducible refine And.intro (?_ : World.cell? w158 _ = _) ?_; exact hC158.out.cell 0 0 rfl rfl; exact ⟨hC158.out.cell 0 1 rfl rfl, hC158.out.cell 1 0 rfl rfl, hC158.out.cell 1 1 rfl rfl, hC158.out.cell 2 0 rfl rfl, hC158.out.cell 2 1 rfl rfl, trivial⟩)
                                      clear hKq Kq hH3
                                      try simp only [Act.put, List.setIfInBounds_toArray, List.set_cons_zero, List.set_cons_succ]
                                      refine wpAnyH_ready (rs := [14]) (by kernel_rfl) (by simp) ?_
                                      refine AllReadyH.cons (o := ⟨_, _, _, _, _, _⟩) rfl (fun Kq hKq => ?_) AllReadyH.nil
                                      go_simp
                                      (have _t := hC158; go_at_call 23; refine (cmp_is (hC158.out.z 3 rfl) (hC158.out.z 0 rfl) (((((bdl (n := 60) (z := 1551121009451797) (by decide))).mul ((bdl (n := 40) (z := 9999999967) (by decide))))).add ((bdl (n := 40) (z := 9295909301) (by decide)))) (bdl (n := 90) (z := 15511210043330985984000000) (by decide)) (by omega) (by omega) (sgn_eq big_e)).mono ?_; rintro e w159 ⟨rfl, hb⟩; have hC159 : Hid (St w w159 [(b205, #[.slice a1 n1 c1, .bool m1], 27), (b153_0, #[.slice a151 n151 c151, .bool m151], 27), (b153_1, #[.slice a152 n152 c152, .bool m152], 27)] [fun V => Zd V (.slice a1 n1 c1) m1 ((15511210043330985984000000)), fun V => Zd V (.slice a151 n151 c151) m151 (1551121009451797), fun V => Zd V (.slice a152 n152 c152) m152 (9295909301)]) := Lib.hid (St.pick ((hC158.out.call hb)) [0, 1, 2] rfl); clear hb; clear _t hC158)
                                      (try go_wp2_with fail)
                                      refine hKq.out _ _ ?_ (fun hH5 => ?_)
                                      · (try dsimp only)
                                        all_goals (with_reducible refine And.intro (?_ : World.cell? w159 _ = _) ?_; exact hC159.out.cell 0 0 rfl rfl; exact ⟨hC159.out.cell 0 1 rfl rfl, hC159.out.cell 1 0 rfl rfl, hC159.out.cell 1 1 rfl rfl, hC159.out.cell 2 0 rfl rfl, hC159.out.cell 2 1 rfl rfl, trivial⟩)
                                      clear hKq Kq hH4
                                      try simp only [Act.put, List.setIfInBounds_toArray, List.set_cons_zero, List.set_cons_succ]
                                      refine wpAnyH_take (i := 15) (oi := ⟨_, _, _, _, _, _⟩) (v := ?_) rfl (by kernel_rfl) (by kernel_rfl) (by kernel_rfl) (fun _ _ _ h => h) (Or.inl ⟨by rfl, ?_⟩) hH5 ?_
                                      rotate_left
                                      · intro wS hSw; (try dsimp only at hSw); go_simp; try with_reducible rfl
                                      try simp only [Act.put, List.setIfInBounds_toArray, List.set_cons_zero, List.set_cons_succ]
                                      refine wpAnyH_take (i := 16) (oi := ⟨_, _, _, _, _, _⟩) (v := ?_) rfl (by kernel_rfl) (by kernel_rfl) (by kernel_rfl) (fun _ _ _ h => h) (Or.inl ⟨by rfl, ?_⟩) hH5 ?_
                                      rotate_left
                                      · intro wS hSw; (try dsimp only at hSw); go_simp; try with_reducible rfl
                                      try simp only [Act.put, List.setIfInBounds_toArray, List.set_cons_zero, List.set_cons_succ]
                                      refine wpAnyH_take (i := 17) (oi := ⟨_, _, _, _, _, _⟩) (v := ?_) rfl (by kernel_rfl) (by kernel_rfl) (by kernel_rfl) (fun _ _ _ h => h) (Or.inl ⟨by rfl, ?_⟩) hH5 ?_
                                      rotate_left
                                      · intro wS hSw; (try dsimp only at hSw); go_simp; try with_reducible rfl
                                      try simp only [Act.put, List.setIfInBounds_toArray, List.set_cons_zero, List.set_cons_succ]
                                      refine wpAnyH_take (i := 18) (oi := ⟨_, _, _, _, _, _⟩) (v := ?_) rfl (by kernel_rfl) (by kernel_rfl) (by kernel_rfl) (fun _ _ _ h => h) (Or.inl ⟨by rfl, ?_⟩) hH5 ?_
                                      rotate_left
                                      · intro wS hSw; (try dsimp only at hSw); go_simp; try with_reducible rfl
                                      try simp only [Act.put, List.setIfInBounds_toArray, List.set_cons_zero, List.set_cons_succ]
                                      refine wpAnyH_ready (rs := [19]) (by kernel_rfl) (by simp) ?_
                                      refine AllReadyH.cons (o := ⟨_, _, _, _, _, _⟩) rfl (fun Kq hKq => ?_) AllReadyH.nil
                                      go_simp
                                      (have _t := hC159; go_at_call 6; refine (sign_is (hC159.out.z 2 rfl) (sgn_1 (by decide))).mono ?_; rintro e w160 ⟨rfl, hb⟩; have hC160 : Hid (St w w160 [(b205, #[.slice a1 n1 c1, .bool m1], 27), (b153_0, #[.slice a151 n151 c151, .bool m151], 27), (b153_1, #[.slice a152 n152 c152, .bool m152], 27)] [fun V => Zd V (.slice a1 n1 c1) m1 ((15511210043330985984000000)), fun V => Zd V (.slice a151 n151 c151) m151 (1551121009451797), fun V => Zd V (.slice a152 n152 c152) m152 (9295909301)]) := Lib.hid (St.pick ((hC159.out.call hb)) [0, 1, 2] rfl); clear hb; clear _t hC159)
                                      (try go_wp2_with fail)
                                      refine hKq.out _ _ ?_ (fun hH6 => ?_)
                                      · (try dsimp only)
                                        all_goals (with_reducible refine And.intro (?_ : World.cell? w160 _ = _) ?_; exact hC160.out.cell 0 0 rfl rfl; exact ⟨hC160.out.cell 0 1 rfl rfl, hC160.out.cell 1 0 rfl rfl, hC160.out.cell 1 1 rfl rfl, hC160.out.cell 2 0 rfl rfl, hC160.out.cell 2 1 rfl rfl, trivial⟩)
                                      clear hKq Kq hH5
                                      try simp only [Act.put, List.setIfInBounds_toArray, List.set_cons_zero, List.set_cons_succ]
                                      refine wpAnyH_take (i := 20) (oi := ⟨_, _, _, _, _, _⟩) (v := ?_) rfl (by kernel_rfl) (by kernel_rfl) (by kernel_rfl) (fun _ _ _ h => h) (Or.inl ⟨by rfl, ?_⟩) hH6 ?_
                                      rotate_left
                                      · intro wS hSw; (try dsimp only at hSw); go_simp; try with_reducible rfl
                                      try simp only [Act.put, List.setIfInBounds_toArray, List.set_cons_zero, List.set_cons_succ]
                                      refine wpAnyH_take (i := 21) (oi := ⟨_, _, _, _, _, _⟩) (v := ?_) rfl (by kernel_rfl) (by kernel_rfl) (by kernel_rfl) (fun _ _ _ h => h) (Or.inl ⟨by rfl, ?_⟩) hH6 ?_
                                      rotate_left
                                      · intro wS hSw; (try dsimp only at hSw); go_simp; try with_reducible rfl
                                      try simp only [Act.put, List.setIfInBounds_toArray, List.set_cons_zero, List.set_cons_succ]
                                      refine wpAnyH_take (i := 22) (oi := ⟨_, _, _, _, _, _⟩) (v := ?_) rfl (by kernel_rfl) (by kernel_rfl) (by kernel_rfl) (fun _ _ _ h => h) (Or.inl ⟨by rfl, ?_⟩) hH6 ?_
                                      rotate_left
                                      · intro wS hSw; (try dsimp only at hSw); go_simp; try with_reducible rfl
                                      try simp only [Act.put, List.setIfInBounds_toArray, List.set_cons_zero, List.set_cons_succ]
                                      refine wpAnyH_take (i := 23) (oi := ⟨_, _, _, _, _, _⟩) (v := ?_) rfl (by kernel_rfl) (by kernel_rfl) (by kernel_rfl) (fun _ _ _ h => h) (Or.inl ⟨by rfl, ?_⟩) hH6 ?_
                                      rotate_left
                                      · intro wS hSw; (try dsimp only at hSw); go_simp; try with_reducible rfl
                                      try simp only [Act.put, List.setIfInBounds_toArray, List.set_cons_zero, List.set_cons_succ]
                                      refine wpAnyH_ready (rs := [24]) (by kernel_rfl) (by simp) ?_
                                      refine AllReadyH.cons (o := ⟨_, _, _, _, _, _⟩) rfl (fun Kq hKq => ?_) AllReadyH.nil
                                      go_simp
                                      (have _t := hC160; go_at_call 14; refine (z_is (by decide) z99).mono ?_; rintro e w161 ⟨a161, n161, c161, m161, rfl, hz, hb⟩; have hC161 : Hid (St w w161 [(b205, #[.slice a1 n1 c1, .bool m1], 27), (b153_0, #[.slice a151 n151 c151, .bool m151], 27), (b153_1, #[.slice a152 n152 c152, .bool m152], 27)] [fun V => Zd V (.slice a1 n1 c1) m1 ((15511210043330985984000000)), fun V => Zd V (.slice a151 n151 c151) m151 (1551121009451797), fun V => Zd V (.slice a152 n152 c152) m152 (9295909301), fun V => Zd V (.slice a161 n161 c161) m161 (9999999967)]) := Lib.hid (St.pick ((hC160.out.call hb).pz hz) [0, 1, 2, 3] rfl); clear hb hz; clear _t hC160)
                                      (try go_wp2_with fail)
                                      refine hKq.out _ _ ?_ (fun hH7 => ?_)
                                      · (try dsimp only)
                                        all_goals (with_reducible refine And.intro (?_ : World.cell? w161 _ = _) ?_; exact hC161.out.cell 0 0 rfl rfl; exact ⟨hC161.out.cell 0 1 rfl rfl, hC161.out.cell 1 0 rfl rfl, hC161.out.cell 1 1 rfl rfl, hC161.out.cell 2 0 rfl rfl, hC161.out.cell 2 1 rfl rfl, trivial⟩)
                                      clear hKq Kq hH6
                                      try simp only [Act.put, List.setIfInBounds_toArray, List.set_cons_zero, List.set_cons_succ]
                                      refine wpAnyH_ready (rs := [25]) (by kernel_rfl) (by simp) ?_
                                      refine AllReadyH.cons (o := ⟨_, _, _, _, _, _⟩) rfl (fun Kq hKq => ?_) AllReadyH.nil
                                      go_simp
                                      (have _t := hC161; go_at_call 23; refine (cmp_is (hC161.out.z 2 rfl) (hC161.out.z 3 rfl) (bdl (n := 40) (z := 9295909301) (by decide)) (bdl (n := 40) (z := 9999999967) (by decide)) (by omega) (by omega) (sgn_m (by decide))).mono ?_; rintro e w162 ⟨rfl, hb⟩; have hC162 : Hid (St w w162 [(b205, #[.slice a1 n1 c1, .bool m1], 27), (b153_0, #[.slice a151 n151 c151, .bool m151], 27), (b153_1, #[.slice a152 n152 c152, .bool m152], 27)] [fun V => Zd V (.slice a1 n1 c1) m1 ((15511210043330985984000000)), fun V => Zd V (.slice a151 n151 c151) m151 (1551121009451797), fun V => Zd V (.slice a152 n152 c152) m152 (9295909301)]) := Lib.hid (St.pick ((hC161.out.call hb)) [0, 1, 2] rfl); clear hb; clear _t hC161)
                                      (try go_wp2_with fail)
                                      refine hKq.out _ _ ?_ (fun hH8 => ?_)
                                      · (try dsimp only)
                                        all_goals (with_reducible refine And.intro (?_ : World.cell? w162 _ = _) ?_; exact hC162.out.cell 0 0 rfl rfl; exact ⟨hC162.out.cell 0 1 rfl rfl, hC162.out.cell 1 0 rfl rfl, hC162.out.cell 1 1 rfl rfl, hC162.out.cell 2 0 rfl rfl, hC162.out.cell 2 1 rfl rfl, trivial⟩)
                                      clear hKq Kq hH7
                                      try simp only [Act.put, List.setIfInBounds_toArray, List.set_cons_zero, List.set_cons_succ]
                                      refine wpAnyH_take (i := 26) (oi := ⟨_, _, _, _, _, _⟩) (v := ?_) rfl (by kernel_rfl) (by kernel_rfl) (by kernel_rfl) (fun _ _ _ h => h) (Or.inl ⟨by rfl, ?_⟩) hH8 ?_
                                      rotate_left
                                      · intro wS hSw; (try dsimp only at hSw); go_simp; try with_reducible rfl
                                      try simp only [Act.put, List.setIfInBounds_toArray, List.set_cons_zero, List.set_cons_succ]
                                      refine wpAnyH_take (i := 27) (oi := ⟨_, _, _, _, _, _⟩) (v := ?_) rfl (by kernel_rfl) (by kernel_rfl) (by kernel_rfl) (fun _ _ _ h => h) (Or.inl ⟨by rfl, ?_⟩) hH8 ?_
                                      rotate_left
                                      · intro wS hSw; (try dsimp only at hSw); go_simp; try with_reducible rfl
                                      try simp only [Act.put, List.setIfInBounds_toArray, List.set_cons_zero, List.set_cons_succ]
                                      refine wpAnyH_done (by kernel_rfl) ?_ _
                                      go_wp2_with fail
                                      go_meet
                                      exact ⟨rfl, Lib.hid ((hC162.out.pick [] (rs' := []) rfl).bpick [] (by decide) (bs' := []) rfl)⟩
                                  case rest =>
                                    clear hE153
                                    obtain ⟨rfl, hE⟩ := hcut
                                    go_upto_region 34 with fail
                                    go_cut [31, 32] (fun s31 s32 wx => s31 = .int .i64 (-9223372036854775808) ∧ s32 = .bool true ∧ Hid (St w wx [] []))
                                    case first =>
                                      as_aux_lemma =>
                                        go_wp2_with fail
                                        refine (int_any (-9223372036854775808) (by omega) _).mono ?_
                                        rintro e w171 ⟨a171, n171, c171, m171, rfl, hz, hb⟩
                                        have hC171 : Hid (St w _ [] [fun V => Zd V (.slice a171 n171 c171) m171 ((-9223372036854775808))]) := Lib.hid (((hE.out.call hb).pz (show Zd w171 (.slice a171 n171 c171) m171 ((-9223372036854775808)) from hz)).pick [0] rfl)
                                        clear hb hz hE 
                                        go_wp2_with fail
                                        refine (int64_is (v := -9223372036854775808) (o := true) (hC171.out.z 0 rfl) (Bd.i64 (k := (-9223372036854775808)) (by omega)) (by omega) (by decide)).mono ?_
                                        rintro e w172 ⟨rfl, hb⟩
                                        have hC172 : Hid (St w _ [] []) := Lib.hid ((hC171.out.call hb).pick [] rfl)
                                        clear hb hC171 
                                        go_wp2_with fail
                                        go_meet
                                        exact ⟨rfl, rfl, hC172⟩
                                    case rest =>
                                      clear hE
                                      obtain ⟨rfl, rfl, hK34⟩ := hcut
                                      go_upto_region 35 with fail
                                      go_cut [34] (fun s34 wx => s34 = .bool false ∧ Hid (St w wx [] []))
                                      case first =>
                                        as_aux_lemma =>
                                          go_wp2_with fail
                                          refine (int_any (9223372036854775807) (by omega) _).mono ?_
                                          rintro e w173 ⟨a173, n173, c173, m173, rfl, hz, hb⟩
                                          have hC173 : Hid (St w _ [] [fun V => Zd V (.slice a173 n173 c173) m173 ((9223372036854775807))]) := Lib.hid (((hK34.out.call hb).pz (show Zd w173 (.slice a173 n173 c173) m173 ((9223372036854775807)) from hz)).pick [0] rfl)
                                          clear hb hz hK34 
                                          go_wp2_with fail
                                          refine (int_any (1) (by omega) _).mono ?_
                                          rintro e w174 ⟨a174, n174, c174, m174, rfl, hz, hb⟩
                                          have hC174 : Hid (St w _ [] [fun V => Zd V (.slice a173 n173 c173) m173 ((9223372036854775807)), fun V => Zd V (.slice a174 n174 c174) m174 ((1))]) := Lib.hid (((hC173.out.call hb).pz (show Zd w174 (.slice a174 n174 c174) m174 ((1)) from hz)).pick [0, 1] rfl)
                                          clear hb hz hC173 
                                          go_wp2_with fail
                                          refine (add_b (hC174.out.z 0 rfl) (hC174.out.z 1 rfl) (Bd.i64 (k := (9223372036854775807)) (by omega)) (Bd.i64 (k := (1)) (by omega)) (by omega) (by omega)).mono ?_
                                          rintro e w175 ⟨a175, n175, c175, m175, rfl, hz, hb⟩
                                          have hC175 : Hid (St w _ [] [fun V => Zd V (.slice a175 n175 c175) m175 (9223372036854775808)]) := Lib.hid (((hC174.out.call hb).pz (show Zd w175 (.slice a175 n175 c175) m175 (9223372036854775808) from hz)).pick [2] rfl)
                                          clear hb hz hC174 
                                          go_wp2_with fail
                                          refine (int64_is (v := 0) (o := false) (hC175.out.z 0 rfl) (bdl (n := 70) (z := 9223372036854775808) (by decide)) (by omega) (by decide)).mono ?_
                                          rintro e w176 ⟨rfl, hb⟩
                                          have hC176 : Hid (St w _ [] []) := Lib.hid ((hC175.out.call hb).pick [] rfl)
                                          clear hb hC175 
                                          go_wp2_with fail
                                          go_meet
                                          exact ⟨rfl, hC176⟩
                                      case rest =>
                                        clear hK34
                                        obtain ⟨rfl, hK35⟩ := hcut
                                        as_aux_lemma =>
                                          go_upto_region 36 with fail
                                          go_wp2_with fail
                                          refine (of_any 1 (by omega) _).mono ?_
                                          rintro e w177 ⟨a177, n177, c177, m177, d177, e177, f177, rfl, hz, hb⟩
                                          have hC177 : Hid (St w _ [] [fun V => Rd V (.slice a177 n177 c177) m177 (.slice d177 e177 f177) (((1 : Int) : Rat))]) := Lib.hid (((hK35.out.call hb).pr (show Rd w177 (.slice a177 n177 c177) m177 (.slice d177 e177 f177) (((1 : Int) : Rat)) from hz)).pick [0] rfl)
                                          clear hb hz hK35 
                                          go_wp2_with fail
                                          refine (of_any 2 (by omega) _).mono ?_
                                          rintro e w178 ⟨a178, n178, c178, m178, d178, e178, f178, rfl, hz, hb⟩
                                          have hC178 : Hid (St w _ [] [fun V => Rd V (.slice a177 n177 c177) m177 (.slice d177 e177 f177) (((1 : Int) : Rat)), fun V => Rd V (.slice a178 n178 c178) m178 (.slice d178 e178 f178) (((2 : Int) : Rat))]) := Lib.hid (((hC177.out.call hb).pr (show Rd w178 (.slice a178 n178 c178) m178 (.slice d178 e178 f178) (((2 : Int) : Rat)) from hz)).pick [0, 1] rfl)
                                          clear hb hz hC177 
                                          go_wp2_with fail
                                          refine (of_any 3 (by omega) _).mono ?_
                                          rintro e w179 ⟨a179, n179, c179, m179, d179, e179, f179, rfl, hz, hb⟩
                                          have hC179 : Hid (St w _ [] [fun V => Rd V (.slice a177 n177 c177) m177 (.slice d177 e177 f177) (((1 : Int) : Rat)), fun V => Rd V (.slice a178 n178 c178) m178 (.slice d178 e178 f178) (((2 : Int) : Rat)), fun V => Rd V (.slice a179 n179 c179) m179 (.slice d179 e179 f179) (((3 : Int) : Rat))]) := Lib.hid (((hC178.out.call hb).pr (show Rd w179 (.slice a179 n179 c179) m179 (.slice d179 e179 f179) (((3 : Int) : Rat)) from hz)).pick [0, 1, 2] rfl)
                                          clear hb hz hC178 
                                          go_wp2_with fail
                                          refine (of_any 4 (by omega) _).mono ?_
                                          rintro e w180 ⟨a180, n180, c180, m180, d180, e180, f180, rfl, hz, hb⟩
                                          have hC180 : Hid (St w _ [] [fun V => Rd V (.slice a177 n177 c177) m177 (.slice d177 e177 f177) (((1 : Int) : Rat)), fun V => Rd V (.slice a178 n178 c178) m178 (.slice d178 e178 f178) (((2 : Int) : Rat)), fun V => Rd V (.slice a179 n179 c179) m179 (.slice d179 e179 f179) (((3 : Int) : Rat)), fun V => Rd V (.slice a180 n180 c180) m180 (.slice d180 e180 f180) (((4 : Int) : Rat))]) := Lib.hid (((hC179.out.call hb).pr (show Rd w180 (.slice a180 n180 c180) m180 (.slice d180 e180 f180) (((4 : Int) : Rat)) from hz)).pick [0, 1, 2, 3] rfl)
                                          clear hb hz hC179 
                                          go_upto_region 37 with fail
                                          have hV := Lib.hid ((hC180.out.al w180.heap.size #[.slice a177 n177 c177, .bool m177, .slice d177 e177 f177, .slice a178 n178 c178, .bool m178, .slice d178 e178 f178] 53 rfl rfl).al (w180.heap.size + 1) #[.slice a179 n179 c179, .bool m179, .slice d179 e179 f179, .slice a180 n180 c180, .bool m180, .slice d180 e180 f180] 53 (by simp) rfl)
                                          refine wp_gen hV.out ?_
                                          intro WV hc
                                          clear hV hC180
                                          have hV := Lib.hid hc
                                          clear hc
                                          have y0_0 := hV.out.cell 0 0 rfl rfl
                                          have y0_1 := hV.out.cell 0 1 rfl rfl
                                          have y0_2 := hV.out.cell 0 2 rfl rfl
                                          have y0_3 := hV.out.cell 0 3 rfl rfl
                                          have y0_4 := hV.out.cell 0 4 rfl rfl
                                          have y0_5 := hV.out.cell 0 5 rfl rfl
                                          have y1_0 := hV.out.cell 1 0 rfl rfl
                                          have y1_1 := hV.out.cell 1 1 rfl rfl
                                          have y1_2 := hV.out.cell 1 2 rfl rfl
                                          have y1_3 := hV.out.cell 1 3 rfl rfl
                                          have y1_4 := hV.out.cell 1 4 rfl rfl
                                          have y1_5 := hV.out.cell 1 5 rfl rfl
                                          go_wp2_with fail
                                          refine (vcross_any _ _ _ _ _ _ _ _ _ _ _ _ _ _ _ _ _ _ _ _ _ _ _ _ _ _ _ _ _ _ _ (⟨hV.out.r 0 rfl, hV.out.r 1 rfl⟩ : Vd _ _ _ _ _ _ _ (((1 : Int) : Rat), ((2 : Int) : Rat))) (⟨hV.out.r 2 rfl, hV.out.r 3 rfl⟩ : Vd _ _ _ _ _ _ _ (((3 : Int) : Rat), ((4 : Int) : Rat))) _ _ (⟨(Bq.int (Bd.i64 (k := 1) (by omega))), (Bq.int (Bd.i64 (k := 2) (by omega)))⟩ : Bv 65 (((1 : Int) : Rat), ((2 : Int) : Rat))) (⟨(Bq.int (Bd.i64 (k := 3) (by omega))), (Bq.int (Bd.i64 (k := 4) (by omega)))⟩ : Bv 65 (((3 : Int) : Rat), ((4 : Int) : Rat))) (by omega) (by omega)).mono ?_
                                          rintro e w181 ⟨a181, n181, c181, m181, d181, e181, f181, rfl, hz, hb⟩
                                          rw [cross12] at hz
                                          have hC181 : Hid (St w _ [(w180.heap.size, #[.slice a177 n177 c177, .bool m177, .slice d177 e177 f177, .slice a178 n178 c178, .bool m178, .slice d178 e178 f178], 53), (w180.heap.size + 1, #[.slice a179 n179 c179, .bool m179, .slice d179 e179 f179, .slice a180 n180 c180, .bool m180, .slice d180 e180 f180], 53)] [fun V => Rd V (.slice a177 n177 c177) m177 (.slice d177 e177 f177) (((1 : Int) : Rat)), fun V => Rd V (.slice a178 n178 c178) m178 (.slice d178 e178 f178) (((2 : Int) : Rat)), fun V => Rd V (.slice a179 n179 c179) m179 (.slice d179 e179 f179) (((3 : Int) : Rat)), fun V => Rd V (.slice a180 n180 c180) m180 (.slice d180 e180 f180) (((4 : Int) : Rat)), fun V => Rd V (.slice a181 n181 c181) m181 (.slice d181 e181 f181) (((-2 : Int) : Rat))]) := Lib.hid (((hV.out.call hb).pr (show Rd w181 (.slice a181 n181 c181) m181 (.slice d181 e181 f181) (((-2 : Int) : Rat)) from hz)).pick [0, 1, 2, 3, 4] rfl)
                                          clear hb hz hV y0_0 y0_1 y0_2 y0_3 y0_4 y0_5 y1_0 y1_1 y1_2 y1_3 y1_4 y1_5
                                          go_wp2_with fail
                                          refine (rtext_is (B := ⟨#[45, 50]⟩) (hC181.out.r 4 rfl) (Bq.int (Bd.i64 (k := (-2)) (by omega))) (by omega) r_m2).mono ?_
                                          rintro e w182 ⟨rfl, hb⟩
                                          have hC182 : Hid (St w _ [(w180.heap.size, #[.slice a177 n177 c177, .bool m177, .slice d177 e177 f177, .slice a178 n178 c178, .bool m178, .slice d178 e178 f178], 53), (w180.heap.size + 1, #[.slice a179 n179 c179, .bool m179, .slice d179 e179 f179, .slice a180 n180 c180, .bool m180, .slice d180 e180 f180], 53)] [fun V => Rd V (.slice a177 n177 c177) m177 (.slice d177 e177 f177) (((1 : Int) : Rat)), fun V => Rd V (.slice a178 n178 c178) m178 (.slice d178 e178 f178) (((2 : Int) : Rat)), fun V => Rd V (.slice a179 n179 c179) m179 (.slice d179 e179 f179) (((3 : Int) : Rat)), fun V => Rd V (.slice a180 n180 c180) m180 (.slice d180 e180 f180) (((4 : Int) : Rat))]) := Lib.hid ((hC181.out.call hb).pick [0, 1, 2, 3] rfl)
                                          clear hb hC181 
                                          have y0_0 := hC182.out.cell 0 0 rfl rfl
                                          have y0_1 := hC182.out.cell 0 1 rfl rfl
                                          have y0_2 := hC182.out.cell 0 2 rfl rfl
                                          have y0_3 := hC182.out.cell 0 3 rfl rfl
                                          have y0_4 := hC182.out.cell 0 4 rfl rfl
                                          have y0_5 := hC182.out.cell 0 5 rfl rfl
                                          have y1_0 := hC182.out.cell 1 0 rfl rfl
                                          have y1_1 := hC182.out.cell 1 1 rfl rfl
                                          have y1_2 := hC182.out.cell 1 2 rfl rfl
                                          have y1_3 := hC182.out.cell 1 3 rfl rfl
                                          have y1_4 := hC182.out.cell 1 4 rfl rfl
                                          have y1_5 := hC182.out.cell 1 5 rfl rfl
                                          go_wp2_with fail
                                          refine (vdot_any _ _ _ _ _ _ _ _ _ _ _ _ _ _ _ _ _ _ _ _ _ _ _ _ _ _ _ _ _ _ _ (⟨hC182.out.r 0 rfl, hC182.out.r 1 rfl⟩ : Vd _ _ _ _ _ _ _ (((1 : Int) : Rat), ((2 : Int) : Rat))) (⟨hC182.out.r 2 rfl, hC182.out.r 3 rfl⟩ : Vd _ _ _ _ _ _ _ (((3 : Int) : Rat), ((4 : Int) : Rat))) _ _ (⟨(Bq.int (Bd.i64 (k := 1) (by omega))), (Bq.int (Bd.i64 (k := 2) (by omega)))⟩ : Bv 65 (((1 : Int) : Rat), ((2 : Int) : Rat))) (⟨(Bq.int (Bd.i64 (k := 3) (by omega))), (Bq.int (Bd.i64 (k := 4) (by omega)))⟩ : Bv 65 (((3 : Int) : Rat), ((4 : Int) : Rat))) (by omega) (by omega)).mono ?_
                                          rintro e w183 ⟨a183, n183, c183, m183, d183, e183, f183, rfl, hz, hb⟩
                                          rw [dot12] at hz
                                          have hC183 : Hid (St w _ [(w180.heap.size, #[.slice a177 n177 c177, .bool m177, .slice d177 e177 f177, .slice a178 n178 c178, .bool m178, .slice d178 e178 f178], 53), (w180.heap.size + 1, #[.slice a179 n179 c179, .bool m179, .slice d179 e179 f179, .slice a180 n180 c180, .bool m180, .slice d180 e180 f180], 53)] [fun V => Rd V (.slice a177 n177 c177) m177 (.slice d177 e177 f177) (((1 : Int) : Rat)), fun V => Rd V (.slice a178 n178 c178) m178 (.slice d178 e178 f178) (((2 : Int) : Rat)), fun V => Rd V (.slice a179 n179 c179) m179 (.slice d179 e179 f179) (((3 : Int) : Rat)), fun V => Rd V (.slice a180 n180 c180) m180 (.slice d180 e180 f180) (((4 : Int) : Rat)), fun V => Rd V (.slice a183 n183 c183) m183 (.slice d183 e183 f183) (((11 : Int) : Rat))]) := Lib.hid (((hC182.out.call hb).pr (show Rd w183 (.slice a183 n183 c183) m183 (.slice d183 e183 f183) (((11 : Int) : Rat)) from hz)).pick [0, 1, 2, 3, 4] rfl)
                                          clear hb hz hC182 y0_0 y0_1 y0_2 y0_3 y0_4 y0_5 y1_0 y1_1 y1_2 y1_3 y1_4 y1_5
                                          go_wp2_with fail
                                          refine (rtext_is (B := ⟨#[49, 49]⟩) (hC183.out.r 4 rfl) (Bq.int (Bd.i64 (k := (11)) (by omega))) (by omega) r_11).mono ?_
                                          rintro e w184 ⟨rfl, hb⟩
                                          have hC184 : Hid (St w _ [(w180.heap.size, #[.slice a177 n177 c177, .bool m177, .slice d177 e177 f177, .slice a178 n178 c178, .bool m178, .slice d178 e178 f178], 53), (w180.heap.size + 1, #[.slice a179 n179 c179, .bool m179, .slice d179 e179 f179, .slice a180 n180 c180, .bool m180, .slice d180 e180 f180], 53)] [fun V => Rd V (.slice a177 n177 c177) m177 (.slice d177 e177 f177) (((1 : Int) : Rat)), fun V => Rd V (.slice a178 n178 c178) m178 (.slice d178 e178 f178) (((2 : Int) : Rat)), fun V => Rd V (.slice a179 n179 c179) m179 (.slice d179 e179 f179) (((3 : Int) : Rat)), fun V => Rd V (.slice a180 n180 c180) m180 (.slice d180 e180 f180) (((4 : Int) : Rat))]) := Lib.hid ((hC183.out.call hb).pick [0, 1, 2, 3] rfl)
                                          clear hb hC183 
                                          have y0_0 := hC184.out.cell 0 0 rfl rfl
                                          have y0_1 := hC184.out.cell 0 1 rfl rfl
                                          have y0_2 := hC184.out.cell 0 2 rfl rfl
                                          have y0_3 := hC184.out.cell 0 3 rfl rfl
                                          have y0_4 := hC184.out.cell 0 4 rfl rfl
                                          have y0_5 := hC184.out.cell 0 5 rfl rfl
                                          go_wp2_with fail
                                          refine (vtext_is0 (B := ⟨#[40, 49, 44, 32, 50, 41]⟩) (⟨hC184.out.r 0 rfl, hC184.out.r 1 rfl⟩ : Vd _ _ _ _ _ _ _ (((1 : Int) : Rat), ((2 : Int) : Rat))) (⟨(Bq.int (Bd.i64 (k := 1) (by omega))), (Bq.int (Bd.i64 (k := 2) (by omega)))⟩ : Bv 65 (((1 : Int) : Rat), ((2 : Int) : Rat))) (by omega) vt12).mono ?_
                                          rintro e w185 ⟨rfl, hb⟩
                                          have hC185 : Hid (St w _ [(w180.heap.size, #[.slice a177 n177 c177, .bool m177, .slice d177 e177 f177, .slice a178 n178 c178, .bool m178, .slice d178 e178 f178], 53), (w180.heap.size + 1, #[.slice a179 n179 c179, .bool m179, .slice d179 e179 f179, .slice a180 n180 c180, .bool m180, .slice d180 e180 f180], 53)] [fun V => Rd V (.slice a177 n177 c177) m177 (.slice d177 e177 f177) (((1 : Int) : Rat)), fun V => Rd V (.slice a178 n178 c178) m178 (.slice d178 e178 f178) (((2 : Int) : Rat)), fun V => Rd V (.slice a179 n179 c179) m179 (.slice d179 e179 f179) (((3 : Int) : Rat)), fun V => Rd V (.slice a180 n180 c180) m180 (.slice d180 e180 f180) (((4 : Int) : Rat))]) := Lib.hid ((hC184.out.call hb).pick [0, 1, 2, 3] rfl)
                                          clear hb hC184 y0_0 y0_1 y0_2 y0_3 y0_4 y0_5
                                          go_wp2
                                          go_ret
                                          exact ⟨rfl, hC185.out.be⟩
      
end Go.Proofs.YtnimnoodpnhodaaDoor

/- (digits).shifted, word -/
import Derived.Test.YtnimnoodpnhodaaDoorSettled
namespace Go.Proofs.YtnimnoodpnhodaaDoor
open Go.RowKit Dig

theorem vl_map_mul (b k : Int) : ∀ l : List Int, vl b (l.map (· * k)) = vl b l * k
  | [] => by simp [vl]
  | x :: l => by simp only [List.map_cons, vl, vl_map_mul b k l]; grind

theorem pow24 (r : Nat) (h : r < 24) : (1 : Int) ≤ 2 ^ r ∧ (2 : Int) ^ r ≤ 8388608 := by
  constructor
  · exact Int.pow_pos (by omega)
  · have h1 : 2 ^ r ≤ 2 ^ 23 := Nat.pow_le_pow_right (by omega) (by omega)
    have h2 : ((2 ^ r : Nat) : Int) ≤ ((2 ^ 23 : Nat) : Int) := by exact_mod_cast h1
    rw [Int.natCast_pow] at h2
    exact h2
theorem mul_bd24 {x y : Int} (hx : 0 ≤ x ∧ x < 16777216) (hy : 1 ≤ y ∧ y ≤ 8388608) : 0 ≤ x * y ∧ x * y ≤ 140737479966720 :=
  ⟨Int.mul_nonneg hx.1 (by omega), Int.le_trans (Int.mul_le_mul (show x ≤ 16777215 by omega) hy.2 (by omega) (by omega)) (by omega)⟩
theorem pow_split (k : Nat) : (2 : Nat) ^ k = 16777216 ^ (k / 24) * 2 ^ (k % 24) := by
  have h : (16777216 : Nat) = 2 ^ 24 := by decide
  rw [h, ← Nat.pow_mul, ← Nat.pow_add]
  congr 1
  omega

set_option maxRecDepth 100000 in
set_option maxHeartbeats 1000000 in
theorem shifted_any (a : Option Addr) (n c : Nat) (M k : Nat) (w : World) (h1 : Dg w (.slice a n c) M) (hlM : (dg 16777216 M).length ≤ 10000000) (hk : k ≤ 10000000) :
    Calls Tryd.prog 66 #[.agg #[.slice a n c], .int .i64 k] w (RetD w (M * 2 ^ k)) := by
  unfold Dg at h1
  have hn := h1.len
  have L1 := Lib.hid h1.lt
  have HM := Lib.hid h1
  have VM := Lib.hid (show vl 16777216 (dg 16777216 M) = (M : Int) from vl_dg (b := 16777216) (by omega) M)
  have MM := Lib.hid (show ∀ x ∈ dg 16777216 M, 0 ≤ x ∧ x < 16777216 from dg_mem (b := 16777216) (by omega) M)
  clear h1
  generalize dg 16777216 M = xs at *
  subst hn
  go_enter Tryd.func66, Tryd.ntmps66
  go_wp2_with (first | (at_make; refine wpList_make_sl _ rfl _ _ _ rfl 2 Tryd.underlying23 info_i64 _ _ _ _ (k / 24) (k / 24 + xs.length + 1) rfl rfl (by omega) (by omega) (by omega) (by omega) ?_; intro ho0; simp only [World.size_alloc] at ho0))
  have hB1 := Lib.hid (((((Below.refl w.heap.size w).alloc (Nat.le_refl _) (.cells #[.slice a xs.length c] 25)).alloc (by go_size) (.cells #[.slice none 0 0] 25)).alloc (by go_size) (.cells (madeCells #[.int .i64 0] (k / 24 + xs.length + 1)) 2)))
  have hX2 := Lib.hid ((((Box.new' (v := .slice none 0 0) (t := 25) (w := w.alloc (.cells #[.slice a xs.length c] 25)) (b := w.heap.size + 1) (by simp)).alloc (.cells (madeCells #[.int .i64 0] (k / 24 + xs.length + 1)) 2))))
  have hO := Lib.hid ho0
  clear ho0
  go_loopw [5, 21] (fun d ix wr => ∃ (i : Nat) (g c' : Nat), ix = .int .i64 i ∧ i ≤ xs.length ∧ d = .slice (some ⟨g, 0, none⟩) (k / 24 + i) c' ∧ w.heap.size + 1 < g ∧ Below w.heap.size w wr ∧ Box wr (w.heap.size + 1) (.slice none 0 0) 25 ∧
      Sl 2 wr (.slice (some ⟨g, 0, none⟩) (k / 24 + i) c') (List.replicate (k / 24) 0 ++ (xs.map (· * 2 ^ (k % 24))).take i)) (fun _ ix _ => xs.length - (intOf ix).toNat)
  case atStart => exact ⟨0, _, _, rfl, Nat.zero_le _, rfl, by omega, hB1.out, hX2.out, by simpa using hO.out⟩
  case round =>
    clear hB1 hX2 hO
    obtain ⟨i, g, c', rfl, hi, rfl, hgb, hB, hX2, ho⟩ := hrel
    by_cases hlt : i < xs.length
    · have sx : Sl 2 wr (.slice a xs.length c) xs := HM.out.below hB L1.out
      obtain ⟨g1, rfl, hg1⟩ := sx.row (by omega)
      have cx := sx.cell hlt
      have bX := MM.out _ (List.getElem_mem hlt)
      have HB := Lib.hid hB
      have HX2 := Lib.hid hX2
      have HO := Lib.hid ho
      clear sx hB hX2 ho
      have hr := pow24 (k % 24) (by omega)
      have hm := Lib.hid (mul_bd24 bX hr)
      have hmo := hm.out
      go_wp2_with (at_builtin; refine wpList_append_sl _ rfl _ _ 23 rfl 2 Tryd.underlying23 info_i64 _ _ rfl (HO.out.alloc _) _ _ rfl (Sl.one _ _ _) ?c3 ?_)
      case c3 => simp; omega
      intro a2 n2 c2 w2 ho2 hg2 hs2
      have hn2 := ho2.len
      obtain ⟨g2, rfl, hgg⟩ := ho2.row (by simp; omega)
      have HO2 := Lib.hid ho2
      have HG2 := Lib.hid hg2
      have HS2 := Lib.hid hs2
      have hlen : n2 = k / 24 + (i + 1) := by rw [hn2]; simp; omega
      subst hlen
      clear ho2 hg2 hs2 hn2 hm
      go_wp2
      go_roundw
      case rel =>
        have hgz := HG2.out.size
        simp only [World.size_alloc] at hgz
        have hbz := HB.out.size
        have hxl := HX2.out.lt
        refine ⟨i + 1, g2, c2, by go_num, by omega, rfl, ?_, ?_, ?_, ?_⟩
        · rcases HS2.out g2 rfl with h | h
          · simp only [Value.ownBlock, Option.some.injEq] at h; omega
          · omega
        · exact ((HB.out.alloc hbz _).grown HG2.out (by go_size) (fun j hj => by simp only [Value.ownBlock, Option.some.injEq] at hj; omega))
        · exact (HX2.out.alloc _).grown HG2.out (by simp only [Value.ownBlock, ne_eq, Option.some.injEq]; omega)
        · have h := HO2.out
          rw [List.take_succ_eq_append_getElem (by simpa using hlt), List.getElem_map]
          exact h
      case measure => simp [intOf]; omega
    · obtain rfl : i = xs.length := by omega
      rw [List.take_of_length_le (by simp)] at ho
      have hv : vl 16777216 (List.replicate (k / 24) 0 ++ xs.map (· * 2 ^ (k % 24))) = ((M * 2 ^ k : Nat) : Int) := by
        rw [vl_append, vl_replicate, vl_map_mul, VM.out, List.length_replicate, pow_split k]
        simp only [Int.natCast_mul, Int.natCast_pow]
        grind
      have e0 := Lib.hid (show 0 ≤ vl 16777216 (List.replicate (k / 24) 0 ++ xs.map (· * 2 ^ (k % 24))) by rw [hv]; omega)
      have e1 := Lib.hid (show (List.replicate (k / 24) 0 ++ xs.map (· * 2 ^ (k % 24))).length ≤ 100000000 by simp; omega)
      have e2 := Lib.hid (show ∀ x ∈ List.replicate (k / 24) 0 ++ xs.map (· * 2 ^ (k % 24)), -4611686018427387904 ≤ x ∧ x ≤ 4611686018427387904 from fun x hx => by
        rcases List.mem_append.1 hx with h | h
        · rw [(List.mem_replicate.1 h).2]; omega
        · obtain ⟨y, hy, rfl⟩ := List.mem_map.1 h
          have := mul_bd24 (MM.out y hy) (pow24 (k % 24) (by omega))
          omega)
      have HV := Lib.hid hv
      have HB := Lib.hid hB
      have HX2 := Lib.hid hX2
      have HO := Lib.hid ho
      clear hB hX2 ho hv
      generalize List.replicate (k / 24) 0 ++ xs.map (· * 2 ^ (k % 24)) = L at *
      go_wp2_with fail
      refine (settled_any _ L _ ⟨_, _, _, rfl⟩ HO.out e2.out e0.out e1.out).mono ?_
      rintro e w2 ⟨a3, n3, c3, rfl, hd, hg2, hs2⟩
      have bx := HX2.out.grown hg2 (by simp [Value.ownBlock]; omega)
      have bc := bx.cell
      have bf := bx.free
      have bs := fun u => (bx.set u).cell
      have HF := Lib.hid (fin_D (R := w.heap.size + 1) HB.out (by omega) HX2.out.lt (by omega) (by omega) hd hg2 hs2 HV.out)
      clear hd hg2 hs2 bx
      go_wp2
      exact bodyPost_ret (v := .agg #[.slice a3 n3 c3]) (by simp [results, Tryd.results66, go_sem, bs]) rfl HF.out

set_option maxRecDepth 100000 in
set_option maxHeartbeats 1000000 in
theorem word_any (n : Nat) (w : World) (h : n < 18446744073709551616) :
    Calls Tryd.prog 37 #[.int .u64 n] w (RetD w n) := by
  go_enter Tryd.func37, Tryd.ntmps37
  go_wp2
  go_loopw [0, 3] (fun u d wr => ∃ (r : Nat) (a' : Option Addr) (n' c' : Nat) (done : List Int), u = .int .u64 r ∧ d = .slice a' n' c' ∧ r < 18446744073709551616 ∧ Hid (done ++ dg 16777216 r = dg 16777216 n) ∧ Below w.heap.size w wr ∧ Box wr w.heap.size (.slice none 0 0) 25 ∧
      (∀ k, Value.ownBlock (.slice a' n' c') = some k → w.heap.size < k) ∧ Sl 2 wr (.slice a' n' c') done) (fun u _ _ => (intOf u).toNat)
  case atStart => exact ⟨n, none, 0, 0, [], rfl, rfl, h, by simp [Hid], (Below.refl _ w).alloc (Nat.le_refl _) _, Box.new _ _ _, fun k hk => by simp [Value.ownBlock] at hk, Sl.nil⟩
  case round =>
    obtain ⟨r, a', n', c', done, rfl, rfl, hr, hd, hB, hX2, hlt, ho⟩ := hrel
    by_cases h0 : r = 0
    · subst h0
      have hd' := hd.out
      rw [dg_zero, List.append_nil] at hd'
      subst hd'
      have bc := hX2.cell
      have bf := hX2.free
      have bs := fun u => (hX2.set u).cell
      have HB := Lib.hid hB
      have HL := Lib.hid hlt
      have HO := Lib.hid ho
      clear hB hX2 hlt ho hd
      go_wp2
      refine bodyPost_ret (v := .agg #[.slice a' n' c']) (by simp [results, Tryd.results37, go_sem, bs]) rfl ⟨a', n', c', rfl, HO.out.other (fun e => by have := HL.out _ e; omega) _, HB.out.setCell (Nat.le_refl _) _⟩
    · have hpos : dg 16777216 r = ((r % 16777216 : Nat) : Int) :: dg 16777216 (r / 16777216) := dg_pos (by omega) (by omega)
      have hlen : (dg 16777216 n).length ≤ 3 := dg_len_le (by omega) (Nat.lt_of_lt_of_le h (by decide))
      have hl2 : done.length + 1 ≤ 3 := by rw [← hd.out, hpos] at hlen; simp at hlen; omega
      have HD := Lib.hid hd.out
      have HP := Lib.hid hpos
      have HB := Lib.hid hB
      have HX2 := Lib.hid hX2
      have HO := Lib.hid ho
      have HL := Lib.hid hlt
      have hr1 : 1 ≤ r := by omega
      clear hd hpos hB hX2 ho hlt hlen
      go_wp2_with (at_builtin; refine wpList_append_sl _ rfl _ _ 23 rfl 2 Tryd.underlying23 info_i64 _ _ rfl (HO.out.alloc _) _ _ rfl (Sl.one _ _ _) ?c3 ?_)
      case c3 => simp; omega
      intro a2 n2 c2 w2 ho2 hg2 hs2
      go_wp2
      go_roundw
      case rel =>
        have hm : wrap64 (bits BinOp.and IntKind.u64 (r : Int) 16777215) = ((r % 16777216 : Nat) : Int) := by
          rw [u64_mask24 r hr]; exact IntWalk.wrap64_in _ (by omega)
        rw [hm] at ho2 hg2
        have hgz := hg2.size
        simp only [World.size_alloc] at hgz
        have hbz := HB.out.size
        refine ⟨r / 16777216, a2, n2, c2, _, by rw [Int.natCast_ediv]; rfl, rfl, by omega, by unfold Hid; rw [← HD.out, HP.out, List.append_assoc]; rfl, ?_, ?_, ?_, ho2⟩
        · exact ((HB.out.alloc hbz _).grown hg2 (by go_size) (fun j hj => by have := HL.out j hj; omega))
        · exact (HX2.out.alloc _).grown hg2 (fun e => by have := HL.out _ e.symm; omega)
        · intro k hk
          have hx := HX2.out.lt
          rcases hs2 k hk with h | h
          · exact HL.out k h
          · omega
      case measure => simp [intOf]; omega

end Go.Proofs.YtnimnoodpnhodaaDoor

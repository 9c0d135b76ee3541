/- (digits).times: the product -/
import Derived.Test.YtnimnoodpnhodaaDoorSettled
namespace Go.Proofs.YtnimnoodpnhodaaDoor
open Go.RowKit Dig

/-- what holds of the row in the rounds of the inner loop: i whole rounds, k digits of this one, the carry cy -/
structure TI (xs ys : List Int) (L : List Int) (i k : Nat) (cy : Int) : Prop where
  len : L.length = xs.length + ys.length
  val : vl 16777216 L + 16777216 ^ (i + k) * cy = (vl 16777216 (xs.take i) + 16777216 ^ i * (xs[i]?.getD 0 * vl 16777216 (ys.take k)) - 16777216 ^ i * (xs[i]?.getD 0 * vl 16777216 ys)) + 16777216 ^ i * (xs[i]?.getD 0 * vl 16777216 ys) + vl 16777216 (xs.take i) * (vl 16777216 ys - 1)
  rng : ∀ x ∈ L, 0 ≤ x ∧ x < 16777216
  zer : ∀ j, i + ys.length ≤ j → L[j]?.getD 0 = 0
  cy0 : 0 ≤ cy
  cy1 : cy < 16777216

structure TO (xs ys : List Int) (L : List Int) (i : Nat) : Prop where
  len : L.length = xs.length + ys.length
  val : vl 16777216 L = vl 16777216 (xs.take i) * vl 16777216 ys
  rng : ∀ x ∈ L, 0 ≤ x ∧ x < 16777216
  zer : ∀ j, i + ys.length ≤ j → L[j]?.getD 0 = 0

theorem TO.start (xs ys : List Int) : TO xs ys (List.replicate (xs.length + ys.length) 0) 0 :=
  ⟨by simp, by simp [vl_replicate, vl], fun x hx => by rw [(List.mem_replicate.1 hx).2]; omega, fun j _ => by rw [List.getElem?_replicate]; split <;> rfl⟩

theorem TO.inner {xs ys L : List Int} {i : Nat} (h : TO xs ys L i) : TI xs ys L i 0 0 :=
  ⟨h.len, by rw [h.val]; simp [vl]; grind, h.rng, h.zer, by omega, by omega⟩

theorem mul_bd {x y : Int} (hx : 0 ≤ x ∧ x < 16777216) (hy : 0 ≤ y ∧ y < 16777216) : 0 ≤ x * y ∧ x * y ≤ 281474943156225 :=
  ⟨Int.mul_nonneg hx.1 hy.1, Int.le_trans (Int.mul_le_mul (show x ≤ 16777215 by omega) (show y ≤ 16777215 by omega) hy.1 (by omega)) (by omega)⟩

theorem getD_set (L : List Int) (i j : Nat) (y : Int) (hi : i < L.length) : (L.set i y)[j]?.getD 0 = if i = j then y else L[j]?.getD 0 := by
  rw [List.getElem?_set]
  by_cases h : i = j
  · rw [if_pos h, if_pos h, if_pos (by omega)]; rfl
  · rw [if_neg h, if_neg h]

theorem TI.step {xs ys L : List Int} {i k : Nat} {cy : Int} (h : TI xs ys L i k cy) (hx : ∀ x ∈ xs, 0 ≤ x ∧ x < 16777216) (hy : ∀ y ∈ ys, 0 ≤ y ∧ y < 16777216) (hi : i < xs.length) (hk : k < ys.length) (hl : i + k < L.length) :
    TI xs ys (L.set (i + k) ((cy + (xs[i] * ys[k] + L[i + k])) % 16777216)) i (k + 1) ((cy + (xs[i] * ys[k] + L[i + k])) / 16777216) := by
  have b1 := mul_bd (hx _ (List.getElem_mem hi)) (hy _ (List.getElem_mem hk))
  have b2 := h.rng _ (List.getElem_mem hl)
  have b3 := h.cy0
  have b4 := h.cy1
  refine ⟨by rw [List.length_set, h.len], ?_, ?_, ?_, by omega, by omega⟩
  · have hv := h.val
    rw [vl_set _ _ hl, vl_take_succ _ hk]
    have hgi : xs[i]?.getD 0 = xs[i] := by rw [List.getElem?_eq_getElem hi]; rfl
    rw [hgi] at hv ⊢
    have hd := Int.mul_ediv_add_emod (cy + (xs[i] * ys[k] + L[i + k])) 16777216
    generalize (cy + (xs[i] * ys[k] + L[i + k])) % 16777216 = m at *
    generalize (cy + (xs[i] * ys[k] + L[i + k])) / 16777216 = q at *
    have hp : (16777216 : Int) ^ (i + (k + 1)) = 16777216 ^ (i + k) * 16777216 := by rw [← Nat.add_assoc, Int.pow_succ]
    have hq : (16777216 : Int) ^ (i + k) = 16777216 ^ i * 16777216 ^ k := Int.pow_add ..
    rw [hp]
    have e : (16777216 : Int) ^ (i + k) * 16777216 * q = 16777216 ^ (i + k) * (cy + (xs[i] * ys[k] + L[i + k]) - m) := by
      rw [← hd]; grind
    rw [e]
    rw [hq] at hv ⊢
    grind
  · intro x hx'
    rcases List.mem_or_eq_of_mem_set hx' with h' | h'
    · exact h.rng x h'
    · omega
  · intro j hj
    rw [getD_set _ _ _ _ hl, if_neg (by omega)]
    exact h.zer j hj

theorem TI.done {xs ys L : List Int} {i : Nat} {cy : Int} (h : TI xs ys L i ys.length cy) (hi : i < xs.length) (hl : i + ys.length < L.length) : TO xs ys (L.set (i + ys.length) cy) (i + 1) := by
  have hz : L[i + ys.length] = 0 := by have := h.zer (i + ys.length) (Nat.le_refl _); rwa [List.getElem?_eq_getElem hl] at this
  refine ⟨by rw [List.length_set, h.len], ?_, ?_, ?_⟩
  · have hv := h.val
    rw [vl_set _ _ hl, hz, vl_take_succ _ hi]
    have hgi : xs[i]?.getD 0 = xs[i] := by rw [List.getElem?_eq_getElem hi]; rfl
    rw [hgi, List.take_length] at hv
    grind
  · intro x hx'
    rcases List.mem_or_eq_of_mem_set hx' with h' | h'
    · exact h.rng x h'
    · rw [h']; exact ⟨h.cy0, h.cy1⟩
  · intro j hj
    rw [getD_set _ _ _ _ hl, if_neg (by omega)]
    exact h.zer j (by omega)

set_option maxRecDepth 100000 in
set_option maxHeartbeats 1000000 in
theorem times_any (a : Option Addr) (n c : Nat) (a2 : Option Addr) (n2 c2 : Nat) (M N : Nat) (w : World) (h1 : Dg w (.slice a n c) M) (h2 : Dg w (.slice a2 n2 c2) N)
    (hlM : (dg 16777216 M).length ≤ 10000000) (hlN : (dg 16777216 N).length ≤ 10000000) :
    Calls Tryd.prog 46 #[.agg #[.slice a n c], .agg #[.slice a2 n2 c2]] w (RetD w (M * N)) := by
  unfold Dg at h1 h2
  have hn := h1.len
  have hn2 := h2.len
  have L1 := Lib.hid h1.lt
  have L2 := Lib.hid h2.lt
  have HM := Lib.hid h1
  have HN := Lib.hid h2
  have VM := Lib.hid (show vl 16777216 (dg 16777216 M) = (M : Int) from vl_dg (b := 16777216) (by omega) M)
  have VN := Lib.hid (show vl 16777216 (dg 16777216 N) = (N : Int) from vl_dg (b := 16777216) (by omega) N)
  have MM := Lib.hid (show ∀ x ∈ dg 16777216 M, 0 ≤ x ∧ x < 16777216 from dg_mem (b := 16777216) (by omega) M)
  have MN := Lib.hid (show ∀ x ∈ dg 16777216 N, 0 ≤ x ∧ x < 16777216 from dg_mem (b := 16777216) (by omega) N)
  clear h1 h2
  generalize dg 16777216 M = xs at *
  generalize dg 16777216 N = ys at *
  subst hn; subst hn2
  go_enter Tryd.func46, Tryd.ntmps46
  go_wp2_with (first | (at_make; refine wpList_make_sl _ rfl _ _ _ rfl 2 Tryd.underlying23 info_i64 _ _ _ _ (xs.length + ys.length) (xs.length + ys.length) rfl rfl (by omega) (by omega) (Nat.le_refl _) (by omega) ?_; intro ho0; simp only [World.size_alloc] at ho0))
  have hB1 := Lib.hid ((((((Below.refl w.heap.size w).alloc (Nat.le_refl _) (.cells #[.slice a xs.length c] 25)).alloc (by go_size) (.cells #[.slice a2 ys.length c2] 25)).alloc (by go_size) (.cells #[.slice none 0 0] 25)).alloc (by go_size) (.cells (madeCells #[.int .i64 0] (xs.length + ys.length)) 2)))
  have hX1 := Lib.hid (((((Box.new' (v := .slice a2 ys.length c2) (t := 25) (w := w.alloc (.cells #[.slice a xs.length c] 25)) (b := w.heap.size + 1) (by simp)).alloc (.cells #[.slice none 0 0] 25)).alloc (.cells (madeCells #[.int .i64 0] (xs.length + ys.length)) 2))))
  have hX2 := Lib.hid ((((Box.new' (v := .slice none 0 0) (t := 25) (w := (w.alloc (.cells #[.slice a xs.length c] 25)).alloc (.cells #[.slice a2 ys.length c2] 25)) (b := w.heap.size + 1 + 1) (by simp)).alloc (.cells (madeCells #[.int .i64 0] (xs.length + ys.length)) 2))))
  have hO := Lib.hid ho0
  clear ho0
  go_loopw [22] (fun ix wr => ∃ (i : Nat) (L : List Int), ix = .int .i64 i ∧ i ≤ xs.length ∧ TO xs ys L i ∧ Below w.heap.size w wr ∧ Box wr (w.heap.size + 1) (.slice a2 ys.length c2) 25 ∧ Box wr (w.heap.size + 1 + 1) (.slice none 0 0) 25 ∧
      Sl 2 wr (.slice (some ⟨w.heap.size + 1 + 1 + 1, 0, none⟩) (xs.length + ys.length) (xs.length + ys.length)) L) (fun ix _ => xs.length - (intOf ix).toNat)
  case atStart => exact ⟨0, _, rfl, Nat.zero_le _, TO.start xs ys, hB1.out, hX1.out, hX2.out, hO.out⟩
  case round =>
    clear hB1 hX1 hX2 hO
    obtain ⟨i, L, rfl, hi, hT, hB, hX1, hX2, ho⟩ := hrel
    have bc1 := hX1.cell
    by_cases hlt : i < xs.length
    · have sx : Sl 2 wr (.slice a xs.length c) xs := HM.out.below hB L1.out
      obtain ⟨g1, rfl, hg1⟩ := sx.row (by omega)
      have cx := sx.cell hlt
      have bX := MM.out _ (List.getElem_mem hlt)
      have HB := Lib.hid hB
      have HX1 := Lib.hid hX1
      have HX2 := Lib.hid hX2
      have HO := Lib.hid ho
      have HT := Lib.hid hT.inner
      clear sx hB hX1 hX2 ho hT
      go_wp2
      clear cx bc1
      obtain ⟨wo, hwo⟩ : ∃ wo : World, wo = wr := ⟨_, rfl⟩
      go_loopw [8, 30] (fun cv ix wi => ∃ (k : Nat) (cy : Int) (Li : List Int), ix = .int .i64 k ∧ cv = .int .i64 cy ∧ k ≤ ys.length ∧ Hid (TI xs ys Li i k cy) ∧ Below w.heap.size w wi ∧ Box wi (w.heap.size + 1) (.slice a2 ys.length c2) 25 ∧ Box wi (w.heap.size + 1 + 1) (.slice none 0 0) 25 ∧
        Sl 2 wi (.slice (some ⟨w.heap.size + 1 + 1 + 1, 0, none⟩) (xs.length + ys.length) (xs.length + ys.length)) Li) (fun _ ix _ => ys.length - (intOf ix).toNat)
      case atStart => exact ⟨0, 0, L, rfl, rfl, Nat.zero_le _, HT, HB.out, HX1.out, HX2.out, HO.out⟩
      case round =>
        clear HB HX1 HX2 HO HT hwo
        obtain ⟨k, cy, Li, rfl, rfl, hk, hT, hB, hX1, hX2, ho⟩ := hrel
        have hlen := hT.out.len
        by_cases hkl : k < ys.length
        · have sy : Sl 2 wr (.slice a2 ys.length c2) ys := HN.out.below hB L2.out
          obtain ⟨g2, rfl, hg2⟩ := sy.row (by omega)
          have hil : i + k < Li.length := by omega
          have hil2 : i + k < xs.length + ys.length := by omega
          have cyv := sy.cell hkl
          have co := ho.cell hil
          have fo := ho.free (i + k)
          have bY := MN.out _ (List.getElem_mem hkl)
          have bO := hT.out.rng _ (List.getElem_mem hil)
          have b0 := hT.out.cy0
          have b1 := hT.out.cy1
          have b2 := mul_bd bX bY
          have HB := Lib.hid hB
          have HX1 := Lib.hid hX1
          have HX2 := Lib.hid hX2
          have HO := Lib.hid ho
          have HT := Lib.hid (hT.out.step MM.out MN.out hlt hkl hil)
          clear sy hB hX1 hX2 ho hT
          go_wp2
          go_roundw
          case rel =>
            rw [i64_mask24]
            exact ⟨k + 1, _, _, by go_num, rfl, by omega, HT, HB.out.setCell (by simp; omega) _, HX1.out.other (by simp) _, HX2.out.other (by simp) _, HO.out.set _ _⟩
          case measure => simp [intOf]; omega
        · obtain rfl : k = ys.length := by omega
          have hil : i + ys.length < Li.length := by omega
          have hil2 : i + ys.length < xs.length + ys.length := by omega
          have co := ho.cell hil
          have fo := ho.free (i + ys.length)
          have bc1 := hX1.cell
          have HB := Lib.hid hB
          have HX1 := Lib.hid hX1
          have HX2 := Lib.hid hX2
          have HO := Lib.hid ho
          have HT := Lib.hid (hT.out.done hlt hil)
          clear hB hX1 hX2 ho hT
          go_wp2
          go_roundw
          case rel => exact ⟨i + 1, _, by go_num, by omega, HT.out, HB.out.setCell (by simp; omega) _, HX1.out.other (by simp) _, HX2.out.other (by simp) _, HO.out.set _ _⟩
          case measure => simp [intOf]; omega
    · obtain rfl : i = xs.length := by omega
      have hv : vl 16777216 L = ((M * N : Nat) : Int) := by rw [hT.val, List.take_length, VM.out, VN.out, Int.natCast_mul]
      have e0 := Lib.hid (show 0 ≤ vl 16777216 L by rw [hv]; omega)
      have e1 := Lib.hid (show L.length ≤ 100000000 by rw [hT.len]; omega)
      have e2 := Lib.hid (show ∀ x ∈ L, -4611686018427387904 ≤ x ∧ x ≤ 4611686018427387904 from fun x hx => by have := hT.rng x hx; omega)
      have HV := Lib.hid hv
      have HB := Lib.hid hB
      have HX2 := Lib.hid hX2
      have HO := Lib.hid ho
      clear hB hX1 hX2 ho hT hv bc1
      go_wp2_with fail
      refine (settled_any _ L _ ⟨_, _, _, rfl⟩ HO.out e2.out e0.out e1.out).mono ?_
      rintro e w2 ⟨a3, n3, c3, rfl, hd, hg2, hs2⟩
      have bx := HX2.out.grown hg2 (by simp [Value.ownBlock])
      have bc := bx.cell
      have bf := bx.free
      have bs := fun u => (bx.set u).cell
      have HF := Lib.hid (fin_D (R := w.heap.size + 1 + 1) HB.out (by omega) HX2.out.lt (by omega) (by omega) hd hg2 hs2 HV.out)
      clear hd hg2 hs2 bx
      go_wp2
      exact bodyPost_ret (v := .agg #[.slice a3 n3 c3]) (by simp [results, Tryd.results46, go_sem, bs]) rfl HF.out

end Go.Proofs.YtnimnoodpnhodaaDoor

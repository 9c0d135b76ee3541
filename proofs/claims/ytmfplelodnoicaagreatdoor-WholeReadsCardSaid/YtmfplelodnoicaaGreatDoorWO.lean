/- the reference's integers: times -/
/- the reference's integers: ZMul -/
/- the reference's integers: the walk of ZMul -/
/- the reference's integers: ZAdd -/
/- the reference's integers: the walk of ZAdd -/
/- the reference's integers: ZSub, ZCmp -/
import Derived.Test.YtmfplelodnoicaaGreatDoorWN
import Derived.IntWalk
import Derived.Test.YtmfplelodnoicaaGreatDoorWB
namespace Go.Proofs.YtmfplelodnoicaaGreatDoor
open Go.RowKit Dig

theorem vl_mapk (b k : Int) : ∀ l : List Int, vl b (l.map (· * k)) = k * vl b l
  | [] => by simp [vl]
  | x :: l => by rw [List.map_cons, vl, vl, vl_mapk b k l]; grind
theorem sgn_mul_abs {z : Int} : sgnN z * (z.natAbs : Int) = z := by
  unfold sgnN
  split
  · omega
  · split <;> omega
theorem Nz.sv {w : World} {s : Int} {g : Value} {z : Int} (h : Nz w s g z) : z = 0 ∨ s = 1 ∨ s = -1 := by
  rw [h.s]; unfold sgnN; split
  · exact .inl (by omega)
  · split
    · exact .inr (.inr rfl)
    · exact .inr (.inl rfl)
theorem mapk_step {xs : List Int} {k : Int} {i : Nat} (h : i < xs.length) :
    ((xs.take i).map (· * k) ++ List.replicate (xs.length - i) 0).set i (xs[i] * k) = (xs.take (i + 1)).map (· * k) ++ List.replicate (xs.length - (i + 1)) 0 := by
  obtain ⟨m, hm⟩ : ∃ m, xs.length - i = m + 1 := ⟨xs.length - i - 1, by omega⟩
  have hl : ((xs.take i).map (· * k)).length = i := by rw [List.length_map, List.length_take]; omega
  rw [List.set_append_right _ _ (by omega), hl, Nat.sub_self, hm, List.replicate_succ, List.set_cons_zero, show xs.length - (i + 1) = m by omega, List.take_succ_eq_append_getElem h, List.map_append]
  simp

set_option maxRecDepth 100000 in
set_option maxHeartbeats 2000000 in
theorem rtimes_any (s1 : Int) (a1 : Option Addr) (n1 c1 : Nat) (z1 : Int) (k : Int) (w : World) (h1 : Nz w s1 (.slice a1 n1 c1) z1) (hl : (dg 10000 z1.natAbs).length ≤ 100000) (hk0 : 0 ≤ k) (hk1 : k ≤ 10000) :
    Calls Tryz.prog 109 #[.agg #[.int .i64 s1, .slice a1 n1 c1], .int .i64 k] w (RetN w (k * z1)) := by
  have hn := h1.g.len
  have hC := Lib.hid ((((St.enter w).al w.heap.size #[.int .i64 s1, .slice a1 n1 c1] 31 rfl rfl).al (w.heap.size + 1) #[.int .i64 0, .slice none 0 0] 31 (by simp) rfl))
  have L1 := Lib.hid h1.g.lt
  have HS := Lib.hid h1.sv
  have HSS := Lib.hid h1.s
  have HM := Lib.hid h1.g
  have VM := Lib.hid (show vl 10000 (dg 10000 z1.natAbs) = (z1.natAbs : Int) from vl_dg (b := 10000) (by omega) _)
  have MM := Lib.hid (show ∀ x ∈ dg 10000 z1.natAbs, 0 ≤ x ∧ x < 10000 from dg_mem (b := 10000) (by omega) _)
  clear h1
  generalize dg 10000 z1.natAbs = xs at *
  subst hn
  go_enter Tryz.func109, Tryz.ntmps109
  go_wp2_with (at_make; refine wpList_make_sl _ rfl _ _ _ rfl 3 Tryz.underlying29 info_int _ _ _ _ xs.length xs.length rfl rfl (by omega) (by omega) (Nat.le_refl _) (by omega) ?_; intro ho0)
  have hC0 := Lib.hid (hC.out.row (o := .cells (madeCells #[.int .i64 0] xs.length) 3))
  have HO0 := Lib.hid ho0
  clear ho0 hC
  go_loopw [6] (fun iv wr => ∃ (i : Nat), iv = .int .i64 i ∧ i ≤ xs.length ∧ Hid (Sl 3 wr (.slice (some ⟨w.heap.size + 1 + 1, 0, none⟩) xs.length xs.length) ((xs.take i).map (· * k) ++ List.replicate (xs.length - i) 0)) ∧
    Hid (St w wr [(w.heap.size, #[.int .i64 s1, .slice a1 xs.length c1], 31), (w.heap.size + 1, #[.int .i64 0, .slice none 0 0], 31)] [])) (fun iv _ => xs.length - (intOf iv).toNat)
  case atStart => exact ⟨0, rfl, Nat.zero_le _, Lib.hid (by have := HO0.out; simpa using this), hC0.out⟩
  case round =>
    clear hC0 HO0
    obtain ⟨i, rfl, hi, HO, hC⟩ := hrel
    have c01 := hC.out.cell 0 1 rfl rfl
    have c00 := hC.out.cell 0 0 rfl rfl
    by_cases hlt : i < xs.length
    · have sx := HM.out.below hC.out.be L1.out
      obtain ⟨g1, rfl, hg1⟩ := sx.row (by omega)
      have cx := sx.cell hlt
      have bX := MM.out _ (List.getElem_mem hlt)
      have HST := Lib.hid (mapk_step (k := k) hlt)
      obtain ⟨X, hX⟩ : ∃ X : Int, X = xs[i] := ⟨_, rfl⟩
      rw [← hX] at cx bX
      have HX := Lib.hid hX
      have hcell := HO.out.cell (k := i) (by simp; omega)
      have hfree := HO.out.free i
      have hb1 : 0 ≤ X * k := Int.mul_nonneg bX.1 hk0
      have hb2 : X * k ≤ 10000 * 10000 := Int.mul_le_mul (by omega) (by omega) hk0 (by omega)
      have hw1 : IntKind.i64.wrap (X * k) = X * k := IntWalk.i64_in _ (by omega)
      have HSX := Lib.hid sx
      clear hX sx
      go_wp2
      go_roundw
      case rel =>
        refine ⟨i + 1, by go_num, by omega, ?_, hC.out.grown (grownBy_setCell _ _ _ _) (fun j hj => ?_)⟩
        · rw [← HST.out, ← HX.out]; exact HO.out.set i _
        · simp only [Option.some.injEq] at hj
          subst hj
          refine ⟨by omega, fun x hx => ?_⟩
          simp only [List.mem_cons, List.not_mem_nil, or_false] at hx
          rcases hx with rfl | rfl
          · show w.heap.size ≠ _; omega
          · show w.heap.size + 1 ≠ _; omega
      case measure => simp [intOf]; omega
    · obtain rfl : i = xs.length := by omega
      have HV := Lib.hid (show vl 10000 (xs.map (· * k)) = k * (z1.natAbs : Int) from by rw [vl_mapk, VM.out])
      have HO2 := Lib.hid (show Sl 3 wr (.slice (some ⟨w.heap.size + 1 + 1, 0, none⟩) xs.length xs.length) (xs.map (· * k)) from by have := HO.out; rw [List.take_length, Nat.sub_self] at this; simpa using this)
      have c10 := hC.out.cell 1 0 rfl rfl
      have c11 := hC.out.cell 1 1 rfl rfl
      go_wp2_with fail
      refine (rmade_b (xs := xs.map (· * k)) HO2.out (fun x hx => ?_) (by rw [HV.out]; exact Int.mul_nonneg hk0 (by omega)) (by simp; omega) ?_).mono ?_
      · obtain ⟨y, hy, rfl⟩ := List.mem_map.1 hx
        have hb := MM.out y hy
        have h1 : 0 ≤ y * k := Int.mul_nonneg hb.1 hk0
        have h2 : y * k ≤ 10000 * 10000 := Int.mul_le_mul (by omega) (by omega) hk0 (by omega)
        omega
      · rcases HS.out with h | h
        · exact .inl (by rw [HV.out, h]; simp)
        · exact .inr h
      rintro e w3 ⟨s3, a3, n3, c3, rfl, hz, hb⟩
      have hC3 := Lib.hid ((hC.out.call hb).pn hz)
      clear hz hb c10 c11 c00 c01 hC
      have c10 := hC3.out.cell 1 0 rfl rfl
      have c11 := hC3.out.cell 1 1 rfl rfl
      have f10 := hC3.out.free 1 0 rfl
      have f11 := hC3.out.free 1 1 rfl
      go_wp2
      refine ret_st (hC3.out.set 1 rfl |>.set 1 rfl) (v := .agg #[.int .i64 s3, .slice a3 n3 c3]) (fun hF => ?_) rfl (fun hF => ⟨s3, a3, n3, c3, rfl, ?_, hF.be⟩)
      · have e0 := hF.cell 1 0 rfl rfl
        have e1 := hF.cell 1 1 rfl rfl
        simp [results, Tryz.results109, go_sem, e0, e1]
      · have := hF.n 0 rfl
        rw [HV.out, HSS.out, Int.mul_left_comm, sgn_mul_abs] at this
        exact this

end Go.Proofs.YtmfplelodnoicaaGreatDoor
namespace Go.Proofs.YtmfplelodnoicaaGreatDoor
open Go.RowKit Dig

/-- what holds of the row: i whole rounds, k groups of this one -/
structure MI (xs ys : List Int) (L : List Int) (i k : Nat) : Prop where
  len : L.length = xs.length + ys.length
  val : vl 10000 L = vl 10000 (xs.take i) * vl 10000 ys + 10000 ^ i * (xs[i]?.getD 0 * vl 10000 (ys.take k))
  rng : ∀ x ∈ L, 0 ≤ x ∧ x ≤ ((i : Int) + 1) * 100000000
  low : ∀ j, i + k ≤ j → L[j]?.getD 0 ≤ (i : Int) * 100000000

theorem mulN_bd {x y : Int} (hx : 0 ≤ x ∧ x < 10000) (hy : 0 ≤ y ∧ y < 10000) : 0 ≤ x * y ∧ x * y ≤ 100000000 :=
  ⟨Int.mul_nonneg hx.1 hy.1, Int.le_trans (Int.mul_le_mul (show x ≤ 10000 by omega) (show y ≤ 10000 by omega) hy.1 (by omega)) (by omega)⟩

theorem MI.start (xs ys : List Int) : MI xs ys (List.replicate (xs.length + ys.length) 0) 0 0 := by
  refine ⟨by simp, by simp [vl_replicate, vl], fun x hx => by rw [(List.mem_replicate.1 hx).2]; omega, fun j _ => by rw [List.getElem?_replicate]; split <;> simp⟩

theorem MI.step {xs ys L : List Int} {i k : Nat} (h : MI xs ys L i k) (hx : ∀ x ∈ xs, 0 ≤ x ∧ x < 10000) (hy : ∀ y ∈ ys, 0 ≤ y ∧ y < 10000) (hi : i < xs.length) (hk : k < ys.length) (hl : i + k < L.length) :
    MI xs ys (L.set (i + k) (L[i + k] + xs[i] * ys[k])) i (k + 1) := by
  have b1 := mulN_bd (hx _ (List.getElem_mem hi)) (hy _ (List.getElem_mem hk))
  have b2 := h.rng _ (List.getElem_mem hl)
  have b3 := h.low (i + k) (Nat.le_refl _)
  rw [List.getElem?_eq_getElem hl] at b3
  simp only [Option.getD_some] at b3
  refine ⟨by rw [List.length_set, h.len], ?_, ?_, ?_⟩
  · have hv := h.val
    rw [vl_set _ _ hl, vl_take_succ _ hk]
    have hgi : xs[i]?.getD 0 = xs[i] := by rw [List.getElem?_eq_getElem hi]; rfl
    rw [hgi] at hv ⊢
    have hq : (10000 : Int) ^ (i + k) = 10000 ^ i * 10000 ^ k := Int.pow_add ..
    rw [hq]
    grind
  · intro x hx'
    rcases List.mem_or_eq_of_mem_set hx' with h' | h'
    · exact h.rng x h'
    · omega
  · intro j hj
    rw [getD_set _ _ _ _ hl, if_neg (by omega)]
    exact h.low j (by omega)
theorem MI.next {xs ys L : List Int} {i : Nat} (h : MI xs ys L i ys.length) (hi : i < xs.length) : MI xs ys L (i + 1) 0 := by
  refine ⟨h.len, ?_, fun x hx => by have := h.rng x hx; omega, fun j hj => ?_⟩
  · rw [h.val, vl_take_succ _ hi, List.take_length]
    have hgi : xs[i]?.getD 0 = xs[i] := by rw [List.getElem?_eq_getElem hi]; rfl
    rw [hgi, List.take_zero]
    simp only [vl]
    grind
  · by_cases hl : j < L.length
    · rw [List.getElem?_eq_getElem hl]
      have := (h.rng _ (List.getElem_mem hl)).2
      simp only [Option.getD_some]
      omega
    · rw [List.getElem?_eq_none (by omega)]
      simp only [Option.getD_none]
      omega
theorem MI.fin {xs ys L : List Int} (h : MI xs ys L xs.length 0) : vl 10000 L = vl 10000 xs * vl 10000 ys := by
  rw [h.val, List.take_length, List.take_zero]; simp [vl]

end Go.Proofs.YtmfplelodnoicaaGreatDoor
namespace Go.Proofs.YtmfplelodnoicaaGreatDoor
open Go.RowKit Dig

theorem vl_bd_nonneg {xs : List Int} (h : ∀ x ∈ xs, 0 ≤ x ∧ x < 10000) : 0 ≤ vl 10000 xs := vl_nonneg (b := 10000) (fun x hx => (h x hx).1)

set_option maxRecDepth 100000 in
set_option maxHeartbeats 4000000 in
theorem zmulN_any (s1 : Int) (a1 : Option Addr) (n1 c1 : Nat) (z1 : Int) (s2 : Int) (a2 : Option Addr) (n2 c2 : Nat) (z2 : Int) (w : World) (h1 : Nz w s1 (.slice a1 n1 c1) z1) (h2 : Nz w s2 (.slice a2 n2 c2) z2)
    (hl1 : (dg 10000 z1.natAbs).length ≤ 50000) (hl2 : (dg 10000 z2.natAbs).length ≤ 50000) :
    Calls Tryz.prog 42 #[.agg #[.int .i64 s1, .slice a1 n1 c1], .agg #[.int .i64 s2, .slice a2 n2 c2]] w (RetN w (z1 * z2)) := by
  have hn := h1.g.len
  have hn2 := h2.g.len
  have hC := Lib.hid (((((St.enter w).al w.heap.size #[.int .i64 s1, .slice a1 n1 c1] 31 rfl rfl).al (w.heap.size + 1) #[.int .i64 s2, .slice a2 n2 c2] 31 (by simp) rfl)).al (w.heap.size + 2) #[.int .i64 0, .slice none 0 0] 31 (by simp) rfl)
  have L1 := Lib.hid h1.g.lt
  have L2 := Lib.hid h2.g.lt
  have HS1 := Lib.hid h1.sv
  have HS2 := Lib.hid h2.sv
  have HSS1 := Lib.hid h1.s
  have HSS2 := Lib.hid h2.s
  have hsb1 := h1.sb
  have hsb2 := h2.sb
  have hws : IntKind.i64.wrap (s1 * s2) = s1 * s2 := by
    rcases hsb1 with h | h | h <;> rcases hsb2 with h' | h' | h' <;> rw [h, h'] <;> rfl
  have HM := Lib.hid h1.g
  have HN := Lib.hid h2.g
  have VM := Lib.hid (show vl 10000 (dg 10000 z1.natAbs) = (z1.natAbs : Int) from vl_dg (b := 10000) (by omega) _)
  have VN := Lib.hid (show vl 10000 (dg 10000 z2.natAbs) = (z2.natAbs : Int) from vl_dg (b := 10000) (by omega) _)
  have MM := Lib.hid (show ∀ x ∈ dg 10000 z1.natAbs, 0 ≤ x ∧ x < 10000 from dg_mem (b := 10000) (by omega) _)
  have MN := Lib.hid (show ∀ x ∈ dg 10000 z2.natAbs, 0 ≤ x ∧ x < 10000 from dg_mem (b := 10000) (by omega) _)
  clear h1 h2 hsb1 hsb2
  generalize dg 10000 z1.natAbs = xs at *
  generalize dg 10000 z2.natAbs = ys at *
  subst hn; subst hn2
  go_enter Tryz.func42, Tryz.ntmps42
  go_wp2_with (at_make; refine wpList_make_sl _ rfl _ _ _ rfl 3 Tryz.underlying29 info_int _ _ _ _ (xs.length + ys.length) (xs.length + ys.length) rfl rfl (by omega) (by omega) (Nat.le_refl _) (by omega) ?_; intro ho0)
  have hC0 := Lib.hid (hC.out.row (o := .cells (madeCells #[.int .i64 0] (xs.length + ys.length)) 3))
  have HO0 := Lib.hid ho0
  clear ho0 hC
  go_loopw [6] (fun iv wr => ∃ (i : Nat) (L : List Int), iv = .int .i64 i ∧ i ≤ xs.length ∧ Hid (MI xs ys L i 0) ∧ Hid (Sl 3 wr (.slice (some ⟨w.heap.size + 1 + 1 + 1, 0, none⟩) (xs.length + ys.length) (xs.length + ys.length)) L) ∧
    Hid (St w wr [(w.heap.size, #[.int .i64 s1, .slice a1 xs.length c1], 31), (w.heap.size + 1, #[.int .i64 s2, .slice a2 ys.length c2], 31), (w.heap.size + 2, #[.int .i64 0, .slice none 0 0], 31)] [])) (fun iv _ => xs.length - (intOf iv).toNat)
  case atStart => exact ⟨0, _, rfl, Nat.zero_le _, MI.start xs ys, Lib.hid (by have := HO0.out; simpa using this), hC0.out⟩
  case round =>
    clear hC0 HO0
    obtain ⟨i, L, rfl, hi, HI, HO, hC⟩ := hrel
    have c01 := hC.out.cell 0 1 rfl rfl
    by_cases hlt : i < xs.length
    · go_wp2
      obtain ⟨wo, hwo⟩ : ∃ wo : World, wo = wr := ⟨_, rfl⟩
      go_loopw [7] (fun kv wi => ∃ (k : Nat) (Li : List Int), kv = .int .i64 k ∧ k ≤ ys.length ∧ Hid (MI xs ys Li i k) ∧ Hid (Sl 3 wi (.slice (some ⟨w.heap.size + 1 + 1 + 1, 0, none⟩) (xs.length + ys.length) (xs.length + ys.length)) Li) ∧
        Hid (St w wi [(w.heap.size, #[.int .i64 s1, .slice a1 xs.length c1], 31), (w.heap.size + 1, #[.int .i64 s2, .slice a2 ys.length c2], 31), (w.heap.size + 2, #[.int .i64 0, .slice none 0 0], 31)] [])) (fun kv _ => ys.length - (intOf kv).toNat)
      case atStart => exact ⟨0, L, rfl, Nat.zero_le _, HI.out, HO.out, hC.out⟩
      case round =>
        clear hC HO HI c01
        obtain ⟨k, Li, rfl, hk, HI, HO, hC⟩ := hrel
        have c11 := hC.out.cell 1 1 rfl rfl
        by_cases hlk : k < ys.length
        · have sx := HM.out.below hC.out.be L1.out
          have sy := HN.out.below hC.out.be L2.out
          obtain ⟨g1, rfl, hg1⟩ := sx.row (by omega)
          obtain ⟨g2, rfl, hg2⟩ := sy.row (by omega)
          have hlL : i + k < Li.length := by rw [HI.out.len]; omega
          have cx := Lib.hid (sx.cell (k := i) hlt)
          have cy := Lib.hid (sy.cell (k := k) hlk)
          have co := HO.out.cell (k := i + k) hlL
          have fo := HO.out.free (i + k)
          have bX := MM.out _ (List.getElem_mem hlt)
          have bY := MN.out _ (List.getElem_mem hlk)
          have bO := HI.out.rng _ (List.getElem_mem hlL)
          have hm := mulN_bd bX bY
          have HST := Lib.hid (HI.out.step MM.out MN.out hlt hlk hlL)
          obtain ⟨X, hX⟩ : ∃ X : Int, X = xs[i] := ⟨_, rfl⟩
          obtain ⟨Y, hY⟩ : ∃ Y : Int, Y = ys[k] := ⟨_, rfl⟩
          obtain ⟨O, hO⟩ : ∃ O : Int, O = Li[i + k] := ⟨_, rfl⟩
          rw [← hX] at cx bX
          rw [← hY] at cy bY
          rw [← hO] at co bO
          rw [← hX, ← hY] at hm
          have HX := Lib.hid hX
          have HY := Lib.hid hY
          have HOO := Lib.hid hO
          have i1 : (0 : Int) ≤ (i : Int) := by omega
          have i2 : (i : Int) < (xs.length : Int) := by omega
          have i3 : (0 : Int) ≤ (k : Int) := by omega
          have i4 : (k : Int) < (ys.length : Int) := by omega
          have i5 : IntKind.i64.wrap ((i : Int) + (k : Int)) = (i : Int) + (k : Int) := IntWalk.i64_in _ (by omega)
          have i6 : (0 : Int) ≤ (i : Int) + (k : Int) := by omega
          have i7 : (i : Int) + (k : Int) < (xs.length : Int) + (ys.length : Int) := by omega
          have i8 : ((i : Int) + (k : Int)).toNat = i + k := by omega
          have j1 : IntKind.i64.wrap (X * Y) = X * Y := IntWalk.i64_in _ (by omega)
          have j2 : IntKind.i64.wrap (O + X * Y) = O + X * Y := IntWalk.i64_in _ (by omega)
          have HB := Lib.hid bO
          have HCS := Lib.hid (fun (v : Value) => hC.out.grown (grownBy_setCell wr (w.heap.size + 1 + 1 + 1) (i + k) v) (fun j hj => by
            simp only [Option.some.injEq] at hj
            subst hj
            refine ⟨by omega, fun x hx => ?_⟩
            simp only [List.mem_cons, List.not_mem_nil, or_false] at hx
            rcases hx with rfl | rfl | rfl
            · show w.heap.size ≠ _; omega
            · show w.heap.size + 1 ≠ _; omega
            · show w.heap.size + 2 ≠ _; omega))
          have HCX := Lib.hid (fun (v : Value) => show (wr.setCell ⟨w.heap.size + 1 + 1 + 1, i + k, none⟩ v).cell? ⟨g1, i, none⟩ = some (.int .i64 X) from by rw [hX]; exact (HM.out.below (HCS.out v).be L1.out).cell hlt)
          have HCY := Lib.hid (fun (v : Value) => show (wr.setCell ⟨w.heap.size + 1 + 1 + 1, i + k, none⟩ v).cell? ⟨g2, k, none⟩ = some (.int .i64 Y) from by rw [hY]; exact (HN.out.below (HCS.out v).be L2.out).cell hlk)
          clear hX hY hO sx sy bX bY bO hm
          go_wp2
          refine wp_region_noPanic ?_
          refine wp_region_held_drew (S := (fun w' => w'.cell? ⟨w.heap.size, 1, none⟩ = some (.slice (some ⟨g1, 0, none⟩) xs.length c1) ∧ w'.cell? ⟨w.heap.size + 1, 1, none⟩ = some (.slice (some ⟨g2, 0, none⟩) ys.length c2) ∧ w'.cell? ⟨g1, i, none⟩ = some (.int .i64 X) ∧ w'.cell? ⟨g2, k, none⟩ = some (.int .i64 Y))) (by kernel_rfl) ?_ (fun hH0 => ?_)
          · (try dsimp only); (first
                | ((with_reducible refine And.intro (?_ : World.cell? (World.drew (World.setCell wr _ _)) _ = _) ?_); exact (HCS.out _).drew.cell 0 1 rfl rfl; exact ⟨(HCS.out _).drew.cell 1 1 rfl rfl, HCX.out _, HCY.out _⟩)
                | exact ⟨hC.out.drew.cell 0 1 rfl rfl, hC.out.drew.cell 1 1 rfl rfl, cx.out, cy.out⟩)
          refine wpAnyH_take (i := 0) (oi := ⟨_, _, _, _, _, _⟩) (v := ?_) rfl (by kernel_rfl) (by kernel_rfl) (by kernel_rfl) (fun _ _ _ h => h) (Or.inl ⟨by rfl, ?_⟩) hH0 ?_
          rotate_left
          · intro wS hSw; (try dsimp only at hSw); go_simp; try with_reducible rfl
          try simp only [Act.put, List.setIfInBounds_toArray, List.set_cons_zero, List.set_cons_succ]
          refine wpAnyH_take (i := 1) (oi := ⟨_, _, _, _, _, _⟩) (v := ?_) rfl (by kernel_rfl) (by kernel_rfl) (by kernel_rfl) (fun _ _ _ h => h) (Or.inl ⟨by rfl, ?_⟩) hH0 ?_
          rotate_left
          · intro wS hSw; (try dsimp only at hSw); go_simp; try with_reducible rfl
          try simp only [Act.put, List.setIfInBounds_toArray, List.set_cons_zero, List.set_cons_succ]
          refine wpAnyH_take (i := 2) (oi := ⟨_, _, _, _, _, _⟩) (v := ?_) rfl (by kernel_rfl) (by kernel_rfl) (by kernel_rfl) (fun _ _ _ h => h) (Or.inl ⟨by rfl, ?_⟩) hH0 ?_
          rotate_left
          · intro wS hSw; (try dsimp only at hSw); go_simp; try with_reducible rfl
          try simp only [Act.put, List.setIfInBounds_toArray, List.set_cons_zero, List.set_cons_succ]
          refine wpAnyH_take (i := 3) (oi := ⟨_, _, _, _, _, _⟩) (v := ?_) rfl (by kernel_rfl) (by kernel_rfl) (by kernel_rfl) (fun _ _ _ h => h) (Or.inl ⟨by rfl, ?_⟩) hH0 ?_
          rotate_left
          · intro wS hSw; (try dsimp only at hSw); go_simp; try with_reducible rfl
          try simp only [Act.put, List.setIfInBounds_toArray, List.set_cons_zero, List.set_cons_succ]
          refine wpAnyH_take (i := 4) (oi := ⟨_, _, _, _, _, _⟩) (v := ?_) rfl (by kernel_rfl) (by kernel_rfl) (by kernel_rfl) (fun _ _ _ h => h) (Or.inl ⟨by rfl, ?_⟩) hH0 ?_
          rotate_left
          · intro wS hSw; (try dsimp only at hSw); go_simp; try with_reducible rfl
          try simp only [Act.put, List.setIfInBounds_toArray, List.set_cons_zero, List.set_cons_succ]
          refine wpAnyH_take (i := 5) (oi := ⟨_, _, _, _, _, _⟩) (v := ?_) rfl (by kernel_rfl) (by kernel_rfl) (by kernel_rfl) (fun _ _ _ h => h) (Or.inl ⟨by rfl, ?_⟩) hH0 ?_
          rotate_left
          · intro wS hSw; (try dsimp only at hSw); go_simp; try with_reducible rfl
          try simp only [Act.put, List.setIfInBounds_toArray, List.set_cons_zero, List.set_cons_succ]
          refine wpAnyH_take (i := 6) (oi := ⟨_, _, _, _, _, _⟩) (v := ?_) rfl (by kernel_rfl) (by kernel_rfl) (by kernel_rfl) (fun _ _ _ h => h) (Or.inl ⟨by rfl, ?_⟩) hH0 ?_
          rotate_left
          · intro wS hSw; (try dsimp only at hSw); go_simp; try with_reducible rfl
          try simp only [Act.put, List.setIfInBounds_toArray, List.set_cons_zero, List.set_cons_succ]
          refine wpAnyH_take (i := 7) (oi := ⟨_, _, _, _, _, _⟩) (v := ?_) rfl (by kernel_rfl) (by kernel_rfl) (by kernel_rfl) (fun _ _ _ h => h) (Or.inl ⟨by rfl, ?_⟩) hH0 ?_
          rotate_left
          · intro wS hSw; (try dsimp only at hSw); go_simp; try with_reducible rfl
          try simp only [Act.put, List.setIfInBounds_toArray, List.set_cons_zero, List.set_cons_succ]
          refine wpAnyH_take (i := 8) (oi := ⟨_, _, _, _, _, _⟩) (v := ?_) rfl (by kernel_rfl) (by kernel_rfl) (by kernel_rfl) (fun _ _ _ h => h) (Or.inl ⟨by rfl, ?_⟩) hH0 ?_
          rotate_left
          · intro wS hSw; (try dsimp only at hSw); go_simp; try with_reducible rfl
          try simp only [Act.put, List.setIfInBounds_toArray, List.set_cons_zero, List.set_cons_succ]
          refine wpAnyH_take (i := 10) (oi := ⟨_, _, _, _, _, _⟩) (v := ?_) rfl (by kernel_rfl) (by kernel_rfl) (by kernel_rfl) (fun _ _ _ h => h) (Or.inl ⟨by rfl, ?_⟩) hH0 ?_
          rotate_left
          · intro wS hSw; (try dsimp only at hSw); go_simp; try with_reducible rfl
          try simp only [Act.put, List.setIfInBounds_toArray, List.set_cons_zero, List.set_cons_succ]
          refine wpAnyH_take (i := 11) (oi := ⟨_, _, _, _, _, _⟩) (v := ?_) rfl (by kernel_rfl) (by kernel_rfl) (by kernel_rfl) (fun _ _ _ h => h) (Or.inl ⟨by rfl, ?_⟩) hH0 ?_
          rotate_left
          · intro wS hSw; (try dsimp only at hSw); go_simp; try with_reducible rfl
          try simp only [Act.put, List.setIfInBounds_toArray, List.set_cons_zero, List.set_cons_succ]
          refine wpAnyH_take (i := 12) (oi := ⟨_, _, _, _, _, _⟩) (v := ?_) rfl (by kernel_rfl) (by kernel_rfl) (by kernel_rfl) (fun _ _ _ h => h) (Or.inl ⟨by rfl, ?_⟩) hH0 ?_
          rotate_left
          · intro wS hSw; (try dsimp only at hSw); go_simp; try with_reducible rfl
          try simp only [Act.put, List.setIfInBounds_toArray, List.set_cons_zero, List.set_cons_succ]
          refine wpAnyH_take (i := 13) (oi := ⟨_, _, _, _, _, _⟩) (v := ?_) rfl (by kernel_rfl) (by kernel_rfl) (by kernel_rfl) (fun _ _ _ h => h) (Or.inl ⟨by rfl, ?_⟩) hH0 ?_
          rotate_left
          · intro wS hSw; (try dsimp only at hSw); go_simp; try with_reducible rfl
          try simp only [Act.put, List.setIfInBounds_toArray, List.set_cons_zero, List.set_cons_succ]
          refine wpAnyH_take (i := 14) (oi := ⟨_, _, _, _, _, _⟩) (v := ?_) rfl (by kernel_rfl) (by kernel_rfl) (by kernel_rfl) (fun _ _ _ h => h) (Or.inl ⟨by rfl, ?_⟩) hH0 ?_
          rotate_left
          · intro wS hSw; (try dsimp only at hSw); go_simp; try with_reducible rfl
          try simp only [Act.put, List.setIfInBounds_toArray, List.set_cons_zero, List.set_cons_succ]
          refine wpAnyH_take (i := 15) (oi := ⟨_, _, _, _, _, _⟩) (v := ?_) rfl (by kernel_rfl) (by kernel_rfl) (by kernel_rfl) (fun _ _ _ h => h) (Or.inl ⟨by rfl, ?_⟩) hH0 ?_
          rotate_left
          · intro wS hSw; (try dsimp only at hSw); go_simp; try with_reducible rfl
          try simp only [Act.put, List.setIfInBounds_toArray, List.set_cons_zero, List.set_cons_succ]
          refine wpAnyH_take (i := 16) (oi := ⟨_, _, _, _, _, _⟩) (v := ?_) rfl (by kernel_rfl) (by kernel_rfl) (by kernel_rfl) (fun _ _ _ h => h) (Or.inl ⟨by rfl, ?_⟩) hH0 ?_
          rotate_left
          · intro wS hSw; (try dsimp only at hSw); go_simp; try with_reducible rfl
          try simp only [Act.put, List.setIfInBounds_toArray, List.set_cons_zero, List.set_cons_succ]
          refine wpAnyH_take (i := 17) (oi := ⟨_, _, _, _, _, _⟩) (v := ?_) rfl (by kernel_rfl) (by kernel_rfl) (by kernel_rfl) (fun _ _ _ h => h) (Or.inl ⟨by rfl, ?_⟩) hH0 ?_
          rotate_left
          · intro wS hSw; (try dsimp only at hSw); go_simp; try with_reducible rfl
          try simp only [Act.put, List.setIfInBounds_toArray, List.set_cons_zero, List.set_cons_succ]
          refine wpAnyH_take (i := 18) (oi := ⟨_, _, _, _, _, _⟩) (v := ?_) rfl (by kernel_rfl) (by kernel_rfl) (by kernel_rfl) (fun _ _ _ h => h) (Or.inl ⟨by rfl, ?_⟩) hH0 ?_
          rotate_left
          · intro wS hSw; (try dsimp only at hSw); go_simp; try with_reducible rfl
          try simp only [Act.put, List.setIfInBounds_toArray, List.set_cons_zero, List.set_cons_succ]
          refine wpAnyH_take (i := 19) (oi := ⟨_, _, _, _, _, _⟩) (v := ?_) rfl (by kernel_rfl) (by kernel_rfl) (by kernel_rfl) (fun _ _ _ h => h) (Or.inl ⟨by rfl, ?_⟩) hH0 ?_
          rotate_left
          · intro wS hSw; (try dsimp only at hSw); go_simp; try with_reducible rfl
          try simp only [Act.put, List.setIfInBounds_toArray, List.set_cons_zero, List.set_cons_succ]
          refine wpAnyH_take (i := 20) (oi := ⟨_, _, _, _, _, _⟩) (v := ?_) rfl (by kernel_rfl) (by kernel_rfl) (by kernel_rfl) (fun _ _ _ h => h) (Or.inl ⟨by rfl, ?_⟩) hH0 ?_
          rotate_left
          · intro wS hSw; (try dsimp only at hSw); go_simp; try with_reducible rfl
          try simp only [Act.put, List.setIfInBounds_toArray, List.set_cons_zero, List.set_cons_succ]
          refine wpAnyH_ready (rs := [9]) (by kernel_rfl) (by simp) ?_
          refine AllReadyH.cons (o := ⟨_, _, _, _, _, _⟩) rfl (fun K hK => ?_) ?_
          · go_simp
            refine hK.out _ _ ?_ (fun hH1 => ?_)
            · (try dsimp only); (first
                  | ((with_reducible refine And.intro (?_ : World.cell? (World.drew (World.setCell wr _ _)) _ = _) ?_); exact (HCS.out _).drew.cell 0 1 rfl rfl; exact ⟨(HCS.out _).drew.cell 1 1 rfl rfl, HCX.out _, HCY.out _⟩)
                  | exact ⟨hC.out.drew.cell 0 1 rfl rfl, hC.out.drew.cell 1 1 rfl rfl, cx.out, cy.out⟩)
            clear hK K hH0
            try simp only [Act.put, List.setIfInBounds_toArray, List.set_cons_zero, List.set_cons_succ]
            refine wpAnyH_take (i := 21) (oi := ⟨_, _, _, _, _, _⟩) (v := ?_) rfl (by kernel_rfl) (by kernel_rfl) (by kernel_rfl) (fun _ _ _ h => h) (Or.inl ⟨by rfl, ?_⟩) hH1 ?_
            rotate_left
            · intro wS hSw; (try dsimp only at hSw); go_simp; try with_reducible rfl
            try simp only [Act.put, List.setIfInBounds_toArray, List.set_cons_zero, List.set_cons_succ]
            refine wpAnyH_take (i := 22) (oi := ⟨_, _, _, _, _, _⟩) (v := ?_) rfl (by kernel_rfl) (by kernel_rfl) (by kernel_rfl) (fun _ _ _ h => h) (Or.inl ⟨by rfl, ?_⟩) hH1 ?_
            rotate_left
            · intro wS hSw; (try dsimp only at hSw); go_simp; try with_reducible rfl
            try simp only [Act.put, List.setIfInBounds_toArray, List.set_cons_zero, List.set_cons_succ]
            refine wpAnyH_ready (rs := [23]) (by kernel_rfl) (by simp) ?_
            refine AllReadyH.cons (o := ⟨_, _, _, _, _, _⟩) rfl (fun K hK => ?_) ?_
            · go_simp
              refine hK.out _ _ ?_ (fun hH2 => ?_)
              · (try dsimp only); (first
                    | ((with_reducible refine And.intro (?_ : World.cell? (World.drew (World.setCell wr _ _)) _ = _) ?_); exact (HCS.out _).drew.cell 0 1 rfl rfl; exact ⟨(HCS.out _).drew.cell 1 1 rfl rfl, HCX.out _, HCY.out _⟩)
                    | exact ⟨hC.out.drew.cell 0 1 rfl rfl, hC.out.drew.cell 1 1 rfl rfl, cx.out, cy.out⟩)
              clear hK K hH1
              try simp only [Act.put, List.setIfInBounds_toArray, List.set_cons_zero, List.set_cons_succ]
              refine wpAnyH_done (by kernel_rfl) ?_ _
              refine NoPanic.normal ?_
              go_wp2
              go_roundw
              case rel =>
                refine ⟨k + 1, Li.set (i + k) (O + X * Y), by go_num, by omega, by rw [HOO.out, HX.out, HY.out]; exact HST.out, (HO.out.set (i + k) (O + X * Y)).drew, (HCS.out _).drew⟩
              case measure => simp [intOf]; omega
            exact AllReadyH.nil
          exact AllReadyH.nil
        · obtain rfl : k = ys.length := by omega
          go_wp2
          go_roundw
          case rel => exact ⟨i + 1, Li, by go_num, by omega, HI.out.next hlt, HO.out, hC.out⟩
          case measure => simp [intOf]; omega
    · obtain rfl : i = xs.length := by omega
      have HV := Lib.hid (show vl 10000 L = (z1.natAbs : Int) * (z2.natAbs : Int) from by rw [HI.out.fin, VM.out, VN.out])
      have c00 := hC.out.cell 0 0 rfl rfl
      have c10 := hC.out.cell 1 0 rfl rfl
      have HLL := Lib.hid HI.out.len
      go_wp2_with fail
      refine (rmade_b (xs := L) HO.out (fun x hx => by have := HI.out.rng x hx; omega) (by rw [HV.out]; exact Int.mul_nonneg (by omega) (by omega)) (by rw [HLL.out]; omega) ?_).mono ?_
      · rcases HS1.out with h | h
        · exact .inl (by rw [HV.out, h]; simp)
        · rcases HS2.out with h' | h'
          · exact .inl (by rw [HV.out, h']; simp)
          · right; rcases h with h | h <;> rcases h' with h' | h' <;> rw [h, h'] <;> simp
      rintro e w3 ⟨s3, a3, n3, c3, rfl, hz, hb⟩
      have hC3 := Lib.hid ((hC.out.call hb).pn hz)
      clear hz hb c00 c10 c01 hC
      have c20 := hC3.out.cell 2 0 rfl rfl
      have c21 := hC3.out.cell 2 1 rfl rfl
      have f20 := hC3.out.free 2 0 rfl
      have f21 := hC3.out.free 2 1 rfl
      go_wp2
      refine ret_st (hC3.out.set 2 rfl |>.set 2 rfl) (v := .agg #[.int .i64 s3, .slice a3 n3 c3]) (fun hF => ?_) rfl (fun hF => ⟨s3, a3, n3, c3, rfl, ?_, hF.be⟩)
      · have e0 := hF.cell 2 0 rfl rfl
        have e1 := hF.cell 2 1 rfl rfl
        simp [results, Tryz.results42, go_sem, e0, e1]
      · have := hF.n 0 rfl
        have e : s1 * s2 * vl 10000 L = z1 * z2 := by
          rw [HV.out, HSS1.out, HSS2.out]
          have e1 := sgn_mul_abs (z := z1)
          have e2 := sgn_mul_abs (z := z2)
          calc sgnN z1 * sgnN z2 * ((z1.natAbs : Int) * (z2.natAbs : Int)) = (sgnN z1 * (z1.natAbs : Int)) * (sgnN z2 * (z2.natAbs : Int)) := by grind
            _ = z1 * z2 := by rw [e1, e2]
        rw [e] at this
        exact this

end Go.Proofs.YtmfplelodnoicaaGreatDoor
namespace Go.Proofs.YtmfplelodnoicaaGreatDoor
open Go.RowKit Dig

/-- what holds of the row: i groups of ys, s times, are added to xs -/
structure AI (xs ys : List Int) (s : Int) (L : List Int) (i : Nat) : Prop where
  len : L.length = xs.length
  val : vl 10000 L = vl 10000 xs + s * vl 10000 (ys.take i)
  rng : ∀ x ∈ L, -10000 ≤ x ∧ x ≤ 20000
  low : ∀ j, i ≤ j → L[j]?.getD 0 = xs[j]?.getD 0

theorem AI.start {xs : List Int} (ys : List Int) (s : Int) (h : ∀ x ∈ xs, 0 ≤ x ∧ x < 10000) : AI xs ys s xs 0 :=
  ⟨rfl, by simp [vl], fun x hx => by have := h x hx; omega, fun _ _ => rfl⟩
theorem AI.step {xs ys L : List Int} {s : Int} {i : Nat} (h : AI xs ys s L i) (hx : ∀ x ∈ xs, 0 ≤ x ∧ x < 10000) (hy : ∀ y ∈ ys, 0 ≤ y ∧ y < 10000) (hs : -1 ≤ s ∧ s ≤ 1) (hi : i < ys.length) (hl : i < L.length) :
    AI xs ys s (L.set i (L[i] + s * ys[i])) (i + 1) := by
  have hL : L[i] = xs[i]'(by rw [← h.len]; exact hl) := by
    have := h.low i (Nat.le_refl _)
    rw [List.getElem?_eq_getElem hl, List.getElem?_eq_getElem (by rw [← h.len]; exact hl)] at this
    exact this
  have b1 := hx _ (List.getElem_mem (show i < xs.length by rw [← h.len]; exact hl))
  have b2 := hy _ (List.getElem_mem hi)
  have b3 : -10000 ≤ s * ys[i] ∧ s * ys[i] ≤ 10000 := by
    rcases (show s = -1 ∨ s = 0 ∨ s = 1 by omega) with h | h | h <;> rw [h] <;> omega
  refine ⟨by rw [List.length_set, h.len], ?_, ?_, ?_⟩
  · have hv := h.val
    rw [vl_set _ _ hl, vl_take_succ _ hi]
    grind
  · intro x hx'
    rcases List.mem_or_eq_of_mem_set hx' with h' | h'
    · exact h.rng x h'
    · rw [h', hL]; omega
  · intro j hj
    rw [getD_set _ _ _ _ hl, if_neg (by omega)]
    exact h.low j (by omega)

end Go.Proofs.YtmfplelodnoicaaGreatDoor
namespace Go.Proofs.YtmfplelodnoicaaGreatDoor
open Go.RowKit Dig

theorem add_end {zA zB : Int} (h : zB.natAbs ≤ zA.natAbs) : 0 ≤ (zA.natAbs : Int) + sgnN zA * sgnN zB * (zB.natAbs : Int) ∧ sgnN zA * ((zA.natAbs : Int) + sgnN zA * sgnN zB * (zB.natAbs : Int)) = zA + zB ∧ (zA = 0 → (zA.natAbs : Int) + sgnN zA * sgnN zB * (zB.natAbs : Int) = 0) := by
  have e1 := sgn_mul_abs (z := zA)
  have e2 := sgn_mul_abs (z := zB)
  have e3 : sgnN zA * sgnN zB * (zB.natAbs : Int) = sgnN zA * zB := by rw [Int.mul_assoc, e2]
  rw [e3]
  have hs : sgnN zA = 0 ∧ zA = 0 ∨ sgnN zA = 1 ∧ 0 < zA ∨ sgnN zA = -1 ∧ zA < 0 := by unfold sgnN; split; exact .inl ⟨rfl, by assumption⟩; split; exact .inr (.inr ⟨rfl, by assumption⟩); exact .inr (.inl ⟨rfl, by omega⟩)
  rcases hs with ⟨h1, h2⟩ | ⟨h1, h2⟩ | ⟨h1, h2⟩ <;> rw [h1] <;> omega

set_option maxRecDepth 100000 in
set_option maxHeartbeats 4000000 in
theorem zaddN_any (s1 : Int) (a1 : Option Addr) (n1 c1 : Nat) (z1 : Int) (s2 : Int) (a2 : Option Addr) (n2 c2 : Nat) (z2 : Int) (w : World) (h1 : Nz w s1 (.slice a1 n1 c1) z1) (h2 : Nz w s2 (.slice a2 n2 c2) z2)
    (hl1 : (dg 10000 z1.natAbs).length ≤ 50000) (hl2 : (dg 10000 z2.natAbs).length ≤ 50000) :
    Calls Tryz.prog 38 #[.agg #[.int .i64 s1, .slice a1 n1 c1], .agg #[.int .i64 s2, .slice a2 n2 c2]] w (RetN w (z1 + z2)) := by
  have hC := Lib.hid (((St.enter w).pn h1).pn h2 |>.al w.heap.size #[.int .i64 s1, .slice a1 n1 c1] 31 rfl rfl |>.al (w.heap.size + 1) #[.int .i64 s2, .slice a2 n2 c2] 31 (by simp) rfl |>.al (w.heap.size + 2) #[.int .i64 0, .slice none 0 0] 31 (by simp) rfl)
  have HW1 := Lib.hid h1.g
  have HW2 := Lib.hid h2.g
  have L1 := Lib.hid h1.g.lt
  have L2 := Lib.hid h2.g.lt
  clear h1 h2
  go_enter Tryz.func38, Tryz.ntmps38
  go_wp2_with fail
  refine (larger_any _ _ _ _ _ _ _ _ _ _ _ (hC.out.n 0 rfl) (hC.out.n 1 rfl) (by omega) (by omega)).mono ?_
  rintro e w3 ⟨rfl, hb⟩
  have hC3 := Lib.hid (hC.out.call hb)
  clear hC hb
  obtain ⟨v, hv⟩ : ∃ v : Int, cmpN z1.natAbs z2.natAbs = v := ⟨_, rfl⟩
  rw [hv]
  by_cases hlt : v < 0
  · have HLE := Lib.hid (show z1.natAbs ≤ z2.natAbs from by unfold cmpN at hv; split at hv <;> (try split at hv) <;> omega)
    have hd : decide (v < 0) = true := by simpa using hlt
    clear hv
    have x00 := hC3.out.cell 0 0 rfl rfl
    have x01 := hC3.out.cell 0 1 rfl rfl
    have x10 := hC3.out.cell 1 0 rfl rfl
    have x11 := hC3.out.cell 1 1 rfl rfl
    have y00 := hC3.out.free 0 0 rfl
    have y01 := hC3.out.free 0 1 rfl
    have y10 := hC3.out.free 1 0 rfl
    have y11 := hC3.out.free 1 1 rfl
    go_upto_region 3 with fail
    refine wp_gen (hC3.out.set 0 rfl |>.set 0 rfl |>.set 1 rfl |>.set 1 rfl) ?_
    intro W4 hc
    have hD := Lib.hid hc
    clear hc hC3 x00 x01 x10 x11 y00 y01 y10 y11
    have HA := Lib.hid (hD.out.n 1 rfl)
    have HB := Lib.hid (hD.out.n 0 rfl)
    have hnA := HA.out.g.len
    have hnB := HB.out.g.len
    have hE := Lib.hid (hD.out.pick [] (rs' := []) rfl)
    have HGA := Lib.hid HA.out.g
    have HGB := Lib.hid HB.out.g
    have LB := Lib.hid HB.out.g.lt
    have hle : (dg 10000 z1.natAbs).length ≤ (dg 10000 z2.natAbs).length := Dig.dg_len_mono (by omega) HLE.out
    have VA := Lib.hid (show vl 10000 (dg 10000 z2.natAbs) = (z2.natAbs : Int) from vl_dg (b := 10000) (by omega) _)
    have VB := Lib.hid (show vl 10000 (dg 10000 z1.natAbs) = (z1.natAbs : Int) from vl_dg (b := 10000) (by omega) _)
    have MA := Lib.hid (show ∀ x ∈ dg 10000 z2.natAbs, 0 ≤ x ∧ x < 10000 from dg_mem (b := 10000) (by omega) _)
    have MB := Lib.hid (show ∀ x ∈ dg 10000 z1.natAbs, 0 ≤ x ∧ x < 10000 from dg_mem (b := 10000) (by omega) _)
    have HSA := Lib.hid HA.out.s
    have HSB := Lib.hid HB.out.s
    have HVA := Lib.hid HA.out.sv
    have hp : -1 ≤ s2 * s1 ∧ s2 * s1 ≤ 1 := by rcases HA.out.sb with h | h | h <;> rcases HB.out.sb with h' | h' | h' <;> rw [h, h'] <;> decide
    have hws : IntKind.i64.wrap (s2 * s1) = s2 * s1 := IntWalk.i64_in _ (by omega)
    clear hD HA HB
    generalize dg 10000 z2.natAbs = xs at *
    generalize dg 10000 z1.natAbs = ys at *
    obtain rfl : xs.length = n2 := hnA.symm
    obtain rfl : ys.length = n1 := hnB.symm
    have d01 := hE.out.cell 0 1 rfl rfl
    go_wp2_with (at_builtin; refine wpList_append_sl _ rfl _ _ 29 rfl 3 Tryz.underlying29 info_int (.slice none 0 0) [] rfl Sl.nil _ xs rfl HGA.out (by simp; omega) ?_; intro ga gn gc W5 ho hg hs)
    have hC0 := Lib.hid (hE.out.grown hg (fun j hj => by simp [Value.ownBlock] at hj))
    have HO0 := Lib.hid (show Sl 3 W5 (.slice ga gn gc) xs from by simpa using ho)
    have HOB := Lib.hid (show ∀ j, Value.ownBlock (.slice ga gn gc) = some j → W4.heap.size ≤ j from fun j hj => by
      rcases hs j hj with h | h
      · simp [Value.ownBlock] at h
      · exact h)
    have hgn := HO0.out.len
    obtain rfl : xs.length = gn := hgn.symm
    have sz := hE.out.lt 2 rfl
    have HSZ := Lib.hid sz
    clear ho hg hs d01 sz hgn
    go_wp2
    go_loopw [6] (fun iv wr => ∃ (i : Nat) (L : List Int), iv = .int .i64 i ∧ i ≤ ys.length ∧ Hid (AI xs ys (s2 * s1) L i) ∧ Hid (Sl 3 wr (.slice ga xs.length gc) L) ∧
      Hid (St w wr [(w.heap.size, #[.int .i64 s2, .slice a2 xs.length c2], 31), (w.heap.size + 1, #[.int .i64 s1, .slice a1 ys.length c1], 31), (w.heap.size + 2, #[.int .i64 0, .slice none 0 0], 31)] [])) (fun iv _ => ys.length - (intOf iv).toNat)
    case atStart => exact ⟨0, xs, rfl, Nat.zero_le _, AI.start ys _ MA.out, HO0.out, hC0.out⟩
    case round =>
      clear hC0 HO0
      obtain ⟨i, L, rfl, hi, HI, HO, hC⟩ := hrel
      have c11 := hC.out.cell 1 1 rfl rfl
      by_cases hlt : i < ys.length
      · have hilen := HI.out.len
        have hlL : i < L.length := by omega
        have sy := HW1.out.below hC.out.be L1.out
        obtain ⟨gy, rfl, hgy⟩ := sy.row (by omega)
        obtain ⟨g, rfl, hgl⟩ := HO.out.row (by omega)
        have hgW := HOB.out g rfl
        have hgz := HSZ.out
        have hgb := L1.out gy rfl
        have cy := Lib.hid (sy.cell (k := i) hlt)
        have co := HO.out.cell (k := i) hlL
        have fo := HO.out.free i
        have bY := MB.out _ (List.getElem_mem hlt)
        have bO := HI.out.rng _ (List.getElem_mem hlL)
        have HST := Lib.hid (HI.out.step MA.out MB.out hp hlt hlL)
        obtain ⟨Y, hY⟩ : ∃ Y : Int, Y = ys[i] := ⟨_, rfl⟩
        obtain ⟨O, hO⟩ : ∃ O : Int, O = L[i] := ⟨_, rfl⟩
        rw [← hY] at cy bY
        rw [← hO] at co bO
        have hm : -10000 ≤ s2 * s1 * Y ∧ s2 * s1 * Y ≤ 10000 := by
          rcases (show s2 * s1 = -1 ∨ s2 * s1 = 0 ∨ s2 * s1 = 1 by omega) with h | h | h <;> rw [h] <;> omega
        have j1 : IntKind.i64.wrap (s2 * s1 * Y) = s2 * s1 * Y := IntWalk.i64_in _ (by omega)
        have j2 : IntKind.i64.wrap (O + s2 * s1 * Y) = O + s2 * s1 * Y := IntWalk.i64_in _ (by omega)
        have HY := Lib.hid hY
        have HOO := Lib.hid hO
        have i1 : (0 : Int) ≤ (i : Int) := by omega
        have i2 : (i : Int) < (xs.length : Int) := by omega
        have i3 : (i : Int) < (ys.length : Int) := by omega
        have HCS := Lib.hid (fun (v : Value) => hC.out.grown (grownBy_setCell wr g i v) (fun j hj => by
          simp only [Option.some.injEq] at hj
          subst hj
          refine ⟨by omega, fun x hx => ?_⟩
          simp only [List.mem_cons, List.not_mem_nil, or_false] at hx
          rcases hx with rfl | rfl | rfl
          · show w.heap.size ≠ _; omega
          · show w.heap.size + 1 ≠ _; omega
          · show w.heap.size + 2 ≠ _; omega))
        have HCY := Lib.hid (fun (v : Value) => show (wr.setCell ⟨g, i, none⟩ v).cell? ⟨gy, i, none⟩ = some (.int .i64 Y) from by rw [hY]; exact (HW1.out.below (HCS.out v).be L1.out).cell hlt)
        clear hY hO sy bY bO hm hgW hgz hgb
        go_wp2
        refine wp_region_noPanic ?_
        refine wp_region_held_drew (S := (fun w' => w'.cell? ⟨w.heap.size, 0, none⟩ = some (.int .i64 s2) ∧ w'.cell? ⟨w.heap.size + 1, 0, none⟩ = some (.int .i64 s1) ∧ w'.cell? ⟨w.heap.size + 1, 1, none⟩ = some (.slice (some ⟨gy, 0, none⟩) ys.length c1) ∧ w'.cell? ⟨gy, i, none⟩ = some (.int .i64 Y))) (by kernel_rfl) ?_ (fun hH0 => ?_)
        · (try dsimp only); (first
              | ((with_reducible refine And.intro (?_ : World.cell? (World.drew (World.setCell wr _ _)) _ = _) ?_); exact (HCS.out _).drew.cell 0 0 rfl rfl; exact ⟨(HCS.out _).drew.cell 1 0 rfl rfl, (HCS.out _).drew.cell 1 1 rfl rfl, HCY.out _⟩)
              | exact ⟨hC.out.drew.cell 0 0 rfl rfl, hC.out.drew.cell 1 0 rfl rfl, hC.out.drew.cell 1 1 rfl rfl, cy.out⟩)
        refine wpAnyH_take (i := 0) (oi := ⟨_, _, _, _, _, _⟩) (v := ?_) rfl (by kernel_rfl) (by kernel_rfl) (by kernel_rfl) (fun _ _ _ h => h) (Or.inl ⟨by rfl, ?_⟩) hH0 ?_
        rotate_left
        · intro wS hSw; (try dsimp only at hSw); go_simp; try with_reducible rfl
        try simp only [Act.put, List.setIfInBounds_toArray, List.set_cons_zero, List.set_cons_succ]
        refine wpAnyH_take (i := 1) (oi := ⟨_, _, _, _, _, _⟩) (v := ?_) rfl (by kernel_rfl) (by kernel_rfl) (by kernel_rfl) (fun _ _ _ h => h) (Or.inl ⟨by rfl, ?_⟩) hH0 ?_
        rotate_left
        · intro wS hSw; (try dsimp only at hSw); go_simp; try with_reducible rfl
        try simp only [Act.put, List.setIfInBounds_toArray, List.set_cons_zero, List.set_cons_succ]
        refine wpAnyH_take (i := 2) (oi := ⟨_, _, _, _, _, _⟩) (v := ?_) rfl (by kernel_rfl) (by kernel_rfl) (by kernel_rfl) (fun _ _ _ h => h) (Or.inl ⟨by rfl, ?_⟩) hH0 ?_
        rotate_left
        · intro wS hSw; (try dsimp only at hSw); go_simp; try with_reducible rfl
        try simp only [Act.put, List.setIfInBounds_toArray, List.set_cons_zero, List.set_cons_succ]
        refine wpAnyH_take (i := 3) (oi := ⟨_, _, _, _, _, _⟩) (v := ?_) rfl (by kernel_rfl) (by kernel_rfl) (by kernel_rfl) (fun _ _ _ h => h) (Or.inl ⟨by rfl, ?_⟩) hH0 ?_
        rotate_left
        · intro wS hSw; (try dsimp only at hSw); go_simp; try with_reducible rfl
        try simp only [Act.put, List.setIfInBounds_toArray, List.set_cons_zero, List.set_cons_succ]
        refine wpAnyH_take (i := 4) (oi := ⟨_, _, _, _, _, _⟩) (v := ?_) rfl (by kernel_rfl) (by kernel_rfl) (by kernel_rfl) (fun _ _ _ h => h) (Or.inl ⟨by rfl, ?_⟩) hH0 ?_
        rotate_left
        · intro wS hSw; (try dsimp only at hSw); go_simp; try with_reducible rfl
        try simp only [Act.put, List.setIfInBounds_toArray, List.set_cons_zero, List.set_cons_succ]
        refine wpAnyH_take (i := 6) (oi := ⟨_, _, _, _, _, _⟩) (v := ?_) rfl (by kernel_rfl) (by kernel_rfl) (by kernel_rfl) (fun _ _ _ h => h) (Or.inl ⟨by rfl, ?_⟩) hH0 ?_
        rotate_left
        · intro wS hSw; (try dsimp only at hSw); go_simp; try with_reducible rfl
        try simp only [Act.put, List.setIfInBounds_toArray, List.set_cons_zero, List.set_cons_succ]
        refine wpAnyH_take (i := 7) (oi := ⟨_, _, _, _, _, _⟩) (v := ?_) rfl (by kernel_rfl) (by kernel_rfl) (by kernel_rfl) (fun _ _ _ h => h) (Or.inl ⟨by rfl, ?_⟩) hH0 ?_
        rotate_left
        · intro wS hSw; (try dsimp only at hSw); go_simp; try with_reducible rfl
        try simp only [Act.put, List.setIfInBounds_toArray, List.set_cons_zero, List.set_cons_succ]
        refine wpAnyH_take (i := 8) (oi := ⟨_, _, _, _, _, _⟩) (v := ?_) rfl (by kernel_rfl) (by kernel_rfl) (by kernel_rfl) (fun _ _ _ h => h) (Or.inl ⟨by rfl, ?_⟩) hH0 ?_
        rotate_left
        · intro wS hSw; (try dsimp only at hSw); go_simp; try with_reducible rfl
        try simp only [Act.put, List.setIfInBounds_toArray, List.set_cons_zero, List.set_cons_succ]
        refine wpAnyH_take (i := 9) (oi := ⟨_, _, _, _, _, _⟩) (v := ?_) rfl (by kernel_rfl) (by kernel_rfl) (by kernel_rfl) (fun _ _ _ h => h) (Or.inl ⟨by rfl, ?_⟩) hH0 ?_
        rotate_left
        · intro wS hSw; (try dsimp only at hSw); go_simp; try with_reducible rfl
        try simp only [Act.put, List.setIfInBounds_toArray, List.set_cons_zero, List.set_cons_succ]
        refine wpAnyH_take (i := 10) (oi := ⟨_, _, _, _, _, _⟩) (v := ?_) rfl (by kernel_rfl) (by kernel_rfl) (by kernel_rfl) (fun _ _ _ h => h) (Or.inl ⟨by rfl, ?_⟩) hH0 ?_
        rotate_left
        · intro wS hSw; (try dsimp only at hSw); go_simp; try with_reducible rfl
        try simp only [Act.put, List.setIfInBounds_toArray, List.set_cons_zero, List.set_cons_succ]
        refine wpAnyH_take (i := 11) (oi := ⟨_, _, _, _, _, _⟩) (v := ?_) rfl (by kernel_rfl) (by kernel_rfl) (by kernel_rfl) (fun _ _ _ h => h) (Or.inl ⟨by rfl, ?_⟩) hH0 ?_
        rotate_left
        · intro wS hSw; (try dsimp only at hSw); go_simp; try with_reducible rfl
        try simp only [Act.put, List.setIfInBounds_toArray, List.set_cons_zero, List.set_cons_succ]
        refine wpAnyH_take (i := 12) (oi := ⟨_, _, _, _, _, _⟩) (v := ?_) rfl (by kernel_rfl) (by kernel_rfl) (by kernel_rfl) (fun _ _ _ h => h) (Or.inl ⟨by rfl, ?_⟩) hH0 ?_
        rotate_left
        · intro wS hSw; (try dsimp only at hSw); go_simp; try with_reducible rfl
        try simp only [Act.put, List.setIfInBounds_toArray, List.set_cons_zero, List.set_cons_succ]
        refine wpAnyH_take (i := 13) (oi := ⟨_, _, _, _, _, _⟩) (v := ?_) rfl (by kernel_rfl) (by kernel_rfl) (by kernel_rfl) (fun _ _ _ h => h) (Or.inl ⟨by rfl, ?_⟩) hH0 ?_
        rotate_left
        · intro wS hSw; (try dsimp only at hSw); go_simp; try with_reducible rfl
        try simp only [Act.put, List.setIfInBounds_toArray, List.set_cons_zero, List.set_cons_succ]
        refine wpAnyH_take (i := 14) (oi := ⟨_, _, _, _, _, _⟩) (v := ?_) rfl (by kernel_rfl) (by kernel_rfl) (by kernel_rfl) (fun _ _ _ h => h) (Or.inl ⟨by rfl, ?_⟩) hH0 ?_
        rotate_left
        · intro wS hSw; (try dsimp only at hSw); go_simp; try with_reducible rfl
        try simp only [Act.put, List.setIfInBounds_toArray, List.set_cons_zero, List.set_cons_succ]
        refine wpAnyH_take (i := 15) (oi := ⟨_, _, _, _, _, _⟩) (v := ?_) rfl (by kernel_rfl) (by kernel_rfl) (by kernel_rfl) (fun _ _ _ h => h) (Or.inl ⟨by rfl, ?_⟩) hH0 ?_
        rotate_left
        · intro wS hSw; (try dsimp only at hSw); go_simp; try with_reducible rfl
        try simp only [Act.put, List.setIfInBounds_toArray, List.set_cons_zero, List.set_cons_succ]
        refine wpAnyH_take (i := 16) (oi := ⟨_, _, _, _, _, _⟩) (v := ?_) rfl (by kernel_rfl) (by kernel_rfl) (by kernel_rfl) (fun _ _ _ h => h) (Or.inl ⟨by rfl, ?_⟩) hH0 ?_
        rotate_left
        · intro wS hSw; (try dsimp only at hSw); go_simp; try with_reducible rfl
        try simp only [Act.put, List.setIfInBounds_toArray, List.set_cons_zero, List.set_cons_succ]
        refine wpAnyH_ready (rs := [5]) (by kernel_rfl) (by simp) ?_
        refine AllReadyH.cons (o := ⟨_, _, _, _, _, _⟩) rfl (fun K hK => ?_) ?_
        · go_simp
          refine hK.out _ _ ?_ (fun hH1 => ?_)
          · (try dsimp only); (first
                | ((with_reducible refine And.intro (?_ : World.cell? (World.drew (World.setCell wr _ _)) _ = _) ?_); exact (HCS.out _).drew.cell 0 0 rfl rfl; exact ⟨(HCS.out _).drew.cell 1 0 rfl rfl, (HCS.out _).drew.cell 1 1 rfl rfl, HCY.out _⟩)
                | exact ⟨hC.out.drew.cell 0 0 rfl rfl, hC.out.drew.cell 1 0 rfl rfl, hC.out.drew.cell 1 1 rfl rfl, cy.out⟩)
          clear hK K hH0
          try simp only [Act.put, List.setIfInBounds_toArray, List.set_cons_zero, List.set_cons_succ]
          refine wpAnyH_take (i := 17) (oi := ⟨_, _, _, _, _, _⟩) (v := ?_) rfl (by kernel_rfl) (by kernel_rfl) (by kernel_rfl) (fun _ _ _ h => h) (Or.inl ⟨by rfl, ?_⟩) hH1 ?_
          rotate_left
          · intro wS hSw; (try dsimp only at hSw); go_simp; try with_reducible rfl
          try simp only [Act.put, List.setIfInBounds_toArray, List.set_cons_zero, List.set_cons_succ]
          refine wpAnyH_take (i := 18) (oi := ⟨_, _, _, _, _, _⟩) (v := ?_) rfl (by kernel_rfl) (by kernel_rfl) (by kernel_rfl) (fun _ _ _ h => h) (Or.inl ⟨by rfl, ?_⟩) hH1 ?_
          rotate_left
          · intro wS hSw; (try dsimp only at hSw); go_simp; try with_reducible rfl
          try simp only [Act.put, List.setIfInBounds_toArray, List.set_cons_zero, List.set_cons_succ]
          refine wpAnyH_ready (rs := [19]) (by kernel_rfl) (by simp) ?_
          refine AllReadyH.cons (o := ⟨_, _, _, _, _, _⟩) rfl (fun K hK => ?_) ?_
          · go_simp
            refine hK.out _ _ ?_ (fun hH2 => ?_)
            · (try dsimp only); (first
                  | ((with_reducible refine And.intro (?_ : World.cell? (World.drew (World.setCell wr _ _)) _ = _) ?_); exact (HCS.out _).drew.cell 0 0 rfl rfl; exact ⟨(HCS.out _).drew.cell 1 0 rfl rfl, (HCS.out _).drew.cell 1 1 rfl rfl, HCY.out _⟩)
                  | exact ⟨hC.out.drew.cell 0 0 rfl rfl, hC.out.drew.cell 1 0 rfl rfl, hC.out.drew.cell 1 1 rfl rfl, cy.out⟩)
            clear hK K hH1
            try simp only [Act.put, List.setIfInBounds_toArray, List.set_cons_zero, List.set_cons_succ]
            refine wpAnyH_done (by kernel_rfl) ?_ _
            refine NoPanic.normal ?_
            go_wp2
            go_roundw
            case rel => exact ⟨i + 1, L.set i (O + s2 * s1 * Y), by go_num, by omega, by rw [HOO.out, HY.out]; exact HST.out, (HO.out.set i (O + s2 * s1 * Y)).drew, (HCS.out _).drew⟩
            case measure => simp [intOf]; omega
          exact AllReadyH.nil
        exact AllReadyH.nil
      · obtain rfl : i = ys.length := by omega
        have HV := Lib.hid (show vl 10000 L = (z2.natAbs : Int) + sgnN z2 * sgnN z1 * (z1.natAbs : Int) from by rw [HI.out.val, List.take_length, VA.out, VB.out, HSA.out, HSB.out])
        have HAE := Lib.hid (add_end HLE.out)
        have HLL := Lib.hid HI.out.len
        have c00 := hC.out.cell 0 0 rfl rfl
        go_wp2_with fail
        refine (rmade_b (xs := L) (by have := HO.out; exact this) (fun x hx => by have := HI.out.rng x hx; omega) (by rw [HV.out]; exact HAE.out.1) (by rw [HLL.out]; omega) ?_).mono ?_
        · rcases HVA.out with h | h
          · exact .inl (by rw [HV.out]; exact HAE.out.2.2 h)
          · exact .inr h
        rintro e w9 ⟨s9, a9, n9, c9, rfl, hz, hb⟩
        have hC9 := Lib.hid ((hC.out.call hb).pn hz)
        clear hz hb c00 c11 hC
        have c20 := hC9.out.cell 2 0 rfl rfl
        have c21 := hC9.out.cell 2 1 rfl rfl
        have f20 := hC9.out.free 2 0 rfl
        have f21 := hC9.out.free 2 1 rfl
        go_wp2
        refine ret_st (hC9.out.set 2 rfl |>.set 2 rfl) (v := .agg #[.int .i64 s9, .slice a9 n9 c9]) (fun hF => ?_) rfl (fun hF => ⟨s9, a9, n9, c9, rfl, ?_, hF.be⟩)
        · have e0 := hF.cell 2 0 rfl rfl
          have e1 := hF.cell 2 1 rfl rfl
          simp [results, Tryz.results38, go_sem, e0, e1]
        · have := hF.n 0 rfl
          rw [HV.out, HSA.out, HAE.out.2.1] at this
          rw [Int.add_comm] at this; exact this
  · have HLE := Lib.hid (show z2.natAbs ≤ z1.natAbs from by unfold cmpN at hv; split at hv <;> (try split at hv) <;> omega)
    have hd : decide (v < 0) = false := by simpa using hlt
    clear hv
    go_upto_region 3 with fail
    refine wp_gen hC3.out ?_
    intro W4 hc
    have hD := Lib.hid hc
    clear hc hC3
    have HA := Lib.hid (hD.out.n 0 rfl)
    have HB := Lib.hid (hD.out.n 1 rfl)
    have hnA := HA.out.g.len
    have hnB := HB.out.g.len
    have hE := Lib.hid (hD.out.pick [] (rs' := []) rfl)
    have HGA := Lib.hid HA.out.g
    have HGB := Lib.hid HB.out.g
    have LB := Lib.hid HB.out.g.lt
    have hle : (dg 10000 z2.natAbs).length ≤ (dg 10000 z1.natAbs).length := Dig.dg_len_mono (by omega) HLE.out
    have VA := Lib.hid (show vl 10000 (dg 10000 z1.natAbs) = (z1.natAbs : Int) from vl_dg (b := 10000) (by omega) _)
    have VB := Lib.hid (show vl 10000 (dg 10000 z2.natAbs) = (z2.natAbs : Int) from vl_dg (b := 10000) (by omega) _)
    have MA := Lib.hid (show ∀ x ∈ dg 10000 z1.natAbs, 0 ≤ x ∧ x < 10000 from dg_mem (b := 10000) (by omega) _)
    have MB := Lib.hid (show ∀ x ∈ dg 10000 z2.natAbs, 0 ≤ x ∧ x < 10000 from dg_mem (b := 10000) (by omega) _)
    have HSA := Lib.hid HA.out.s
    have HSB := Lib.hid HB.out.s
    have HVA := Lib.hid HA.out.sv
    have hp : -1 ≤ s1 * s2 ∧ s1 * s2 ≤ 1 := by rcases HA.out.sb with h | h | h <;> rcases HB.out.sb with h' | h' | h' <;> rw [h, h'] <;> decide
    have hws : IntKind.i64.wrap (s1 * s2) = s1 * s2 := IntWalk.i64_in _ (by omega)
    clear hD HA HB
    generalize dg 10000 z1.natAbs = xs at *
    generalize dg 10000 z2.natAbs = ys at *
    obtain rfl : xs.length = n1 := hnA.symm
    obtain rfl : ys.length = n2 := hnB.symm
    have d01 := hE.out.cell 0 1 rfl rfl
    go_wp2_with (at_builtin; refine wpList_append_sl _ rfl _ _ 29 rfl 3 Tryz.underlying29 info_int (.slice none 0 0) [] rfl Sl.nil _ xs rfl HGA.out (by simp; omega) ?_; intro ga gn gc W5 ho hg hs)
    have hC0 := Lib.hid (hE.out.grown hg (fun j hj => by simp [Value.ownBlock] at hj))
    have HO0 := Lib.hid (show Sl 3 W5 (.slice ga gn gc) xs from by simpa using ho)
    have HOB := Lib.hid (show ∀ j, Value.ownBlock (.slice ga gn gc) = some j → W4.heap.size ≤ j from fun j hj => by
      rcases hs j hj with h | h
      · simp [Value.ownBlock] at h
      · exact h)
    have hgn := HO0.out.len
    obtain rfl : xs.length = gn := hgn.symm
    have sz := hE.out.lt 2 rfl
    have HSZ := Lib.hid sz
    clear ho hg hs d01 sz hgn
    go_wp2
    go_loopw [6] (fun iv wr => ∃ (i : Nat) (L : List Int), iv = .int .i64 i ∧ i ≤ ys.length ∧ Hid (AI xs ys (s1 * s2) L i) ∧ Hid (Sl 3 wr (.slice ga xs.length gc) L) ∧
      Hid (St w wr [(w.heap.size, #[.int .i64 s1, .slice a1 xs.length c1], 31), (w.heap.size + 1, #[.int .i64 s2, .slice a2 ys.length c2], 31), (w.heap.size + 2, #[.int .i64 0, .slice none 0 0], 31)] [])) (fun iv _ => ys.length - (intOf iv).toNat)
    case atStart => exact ⟨0, xs, rfl, Nat.zero_le _, AI.start ys _ MA.out, HO0.out, hC0.out⟩
    case round =>
      clear hC0 HO0
      obtain ⟨i, L, rfl, hi, HI, HO, hC⟩ := hrel
      have c11 := hC.out.cell 1 1 rfl rfl
      by_cases hlt : i < ys.length
      · have hilen := HI.out.len
        have hlL : i < L.length := by omega
        have sy := HW2.out.below hC.out.be L2.out
        obtain ⟨gy, rfl, hgy⟩ := sy.row (by omega)
        obtain ⟨g, rfl, hgl⟩ := HO.out.row (by omega)
        have hgW := HOB.out g rfl
        have hgz := HSZ.out
        have hgb := L2.out gy rfl
        have cy := Lib.hid (sy.cell (k := i) hlt)
        have co := HO.out.cell (k := i) hlL
        have fo := HO.out.free i
        have bY := MB.out _ (List.getElem_mem hlt)
        have bO := HI.out.rng _ (List.getElem_mem hlL)
        have HST := Lib.hid (HI.out.step MA.out MB.out hp hlt hlL)
        obtain ⟨Y, hY⟩ : ∃ Y : Int, Y = ys[i] := ⟨_, rfl⟩
        obtain ⟨O, hO⟩ : ∃ O : Int, O = L[i] := ⟨_, rfl⟩
        rw [← hY] at cy bY
        rw [← hO] at co bO
        have hm : -10000 ≤ s1 * s2 * Y ∧ s1 * s2 * Y ≤ 10000 := by
          rcases (show s1 * s2 = -1 ∨ s1 * s2 = 0 ∨ s1 * s2 = 1 by omega) with h | h | h <;> rw [h] <;> omega
        have j1 : IntKind.i64.wrap (s1 * s2 * Y) = s1 * s2 * Y := IntWalk.i64_in _ (by omega)
        have j2 : IntKind.i64.wrap (O + s1 * s2 * Y) = O + s1 * s2 * Y := IntWalk.i64_in _ (by omega)
        have HY := Lib.hid hY
        have HOO := Lib.hid hO
        have i1 : (0 : Int) ≤ (i : Int) := by omega
        have i2 : (i : Int) < (xs.length : Int) := by omega
        have i3 : (i : Int) < (ys.length : Int) := by omega
        have HCS := Lib.hid (fun (v : Value) => hC.out.grown (grownBy_setCell wr g i v) (fun j hj => by
          simp only [Option.some.injEq] at hj
          subst hj
          refine ⟨by omega, fun x hx => ?_⟩
          simp only [List.mem_cons, List.not_mem_nil, or_false] at hx
          rcases hx with rfl | rfl | rfl
          · show w.heap.size ≠ _; omega
          · show w.heap.size + 1 ≠ _; omega
          · show w.heap.size + 2 ≠ _; omega))
        have HCY := Lib.hid (fun (v : Value) => show (wr.setCell ⟨g, i, none⟩ v).cell? ⟨gy, i, none⟩ = some (.int .i64 Y) from by rw [hY]; exact (HW2.out.below (HCS.out v).be L2.out).cell hlt)
        clear hY hO sy bY bO hm hgW hgz hgb
        go_wp2
        refine wp_region_noPanic ?_
        refine wp_region_held_drew (S := (fun w' => w'.cell? ⟨w.heap.size, 0, none⟩ = some (.int .i64 s1) ∧ w'.cell? ⟨w.heap.size + 1, 0, none⟩ = some (.int .i64 s2) ∧ w'.cell? ⟨w.heap.size + 1, 1, none⟩ = some (.slice (some ⟨gy, 0, none⟩) ys.length c2) ∧ w'.cell? ⟨gy, i, none⟩ = some (.int .i64 Y))) (by kernel_rfl) ?_ (fun hH0 => ?_)
        · (try dsimp only); (first
              | ((with_reducible refine And.intro (?_ : World.cell? (World.drew (World.setCell wr _ _)) _ = _) ?_); exact (HCS.out _).drew.cell 0 0 rfl rfl; exact ⟨(HCS.out _).drew.cell 1 0 rfl rfl, (HCS.out _).drew.cell 1 1 rfl rfl, HCY.out _⟩)
              | exact ⟨hC.out.drew.cell 0 0 rfl rfl, hC.out.drew.cell 1 0 rfl rfl, hC.out.drew.cell 1 1 rfl rfl, cy.out⟩)
        refine wpAnyH_take (i := 0) (oi := ⟨_, _, _, _, _, _⟩) (v := ?_) rfl (by kernel_rfl) (by kernel_rfl) (by kernel_rfl) (fun _ _ _ h => h) (Or.inl ⟨by rfl, ?_⟩) hH0 ?_
        rotate_left
        · intro wS hSw; (try dsimp only at hSw); go_simp; try with_reducible rfl
        try simp only [Act.put, List.setIfInBounds_toArray, List.set_cons_zero, List.set_cons_succ]
        refine wpAnyH_take (i := 1) (oi := ⟨_, _, _, _, _, _⟩) (v := ?_) rfl (by kernel_rfl) (by kernel_rfl) (by kernel_rfl) (fun _ _ _ h => h) (Or.inl ⟨by rfl, ?_⟩) hH0 ?_
        rotate_left
        · intro wS hSw; (try dsimp only at hSw); go_simp; try with_reducible rfl
        try simp only [Act.put, List.setIfInBounds_toArray, List.set_cons_zero, List.set_cons_succ]
        refine wpAnyH_take (i := 2) (oi := ⟨_, _, _, _, _, _⟩) (v := ?_) rfl (by kernel_rfl) (by kernel_rfl) (by kernel_rfl) (fun _ _ _ h => h) (Or.inl ⟨by rfl, ?_⟩) hH0 ?_
        rotate_left
        · intro wS hSw; (try dsimp only at hSw); go_simp; try with_reducible rfl
        try simp only [Act.put, List.setIfInBounds_toArray, List.set_cons_zero, List.set_cons_succ]
        refine wpAnyH_take (i := 3) (oi := ⟨_, _, _, _, _, _⟩) (v := ?_) rfl (by kernel_rfl) (by kernel_rfl) (by kernel_rfl) (fun _ _ _ h => h) (Or.inl ⟨by rfl, ?_⟩) hH0 ?_
        rotate_left
        · intro wS hSw; (try dsimp only at hSw); go_simp; try with_reducible rfl
        try simp only [Act.put, List.setIfInBounds_toArray, List.set_cons_zero, List.set_cons_succ]
        refine wpAnyH_take (i := 4) (oi := ⟨_, _, _, _, _, _⟩) (v := ?_) rfl (by kernel_rfl) (by kernel_rfl) (by kernel_rfl) (fun _ _ _ h => h) (Or.inl ⟨by rfl, ?_⟩) hH0 ?_
        rotate_left
        · intro wS hSw; (try dsimp only at hSw); go_simp; try with_reducible rfl
        try simp only [Act.put, List.setIfInBounds_toArray, List.set_cons_zero, List.set_cons_succ]
        refine wpAnyH_take (i := 6) (oi := ⟨_, _, _, _, _, _⟩) (v := ?_) rfl (by kernel_rfl) (by kernel_rfl) (by kernel_rfl) (fun _ _ _ h => h) (Or.inl ⟨by rfl, ?_⟩) hH0 ?_
        rotate_left
        · intro wS hSw; (try dsimp only at hSw); go_simp; try with_reducible rfl
        try simp only [Act.put, List.setIfInBounds_toArray, List.set_cons_zero, List.set_cons_succ]
        refine wpAnyH_take (i := 7) (oi := ⟨_, _, _, _, _, _⟩) (v := ?_) rfl (by kernel_rfl) (by kernel_rfl) (by kernel_rfl) (fun _ _ _ h => h) (Or.inl ⟨by rfl, ?_⟩) hH0 ?_
        rotate_left
        · intro wS hSw; (try dsimp only at hSw); go_simp; try with_reducible rfl
        try simp only [Act.put, List.setIfInBounds_toArray, List.set_cons_zero, List.set_cons_succ]
        refine wpAnyH_take (i := 8) (oi := ⟨_, _, _, _, _, _⟩) (v := ?_) rfl (by kernel_rfl) (by kernel_rfl) (by kernel_rfl) (fun _ _ _ h => h) (Or.inl ⟨by rfl, ?_⟩) hH0 ?_
        rotate_left
        · intro wS hSw; (try dsimp only at hSw); go_simp; try with_reducible rfl
        try simp only [Act.put, List.setIfInBounds_toArray, List.set_cons_zero, List.set_cons_succ]
        refine wpAnyH_take (i := 9) (oi := ⟨_, _, _, _, _, _⟩) (v := ?_) rfl (by kernel_rfl) (by kernel_rfl) (by kernel_rfl) (fun _ _ _ h => h) (Or.inl ⟨by rfl, ?_⟩) hH0 ?_
        rotate_left
        · intro wS hSw; (try dsimp only at hSw); go_simp; try with_reducible rfl
        try simp only [Act.put, List.setIfInBounds_toArray, List.set_cons_zero, List.set_cons_succ]
        refine wpAnyH_take (i := 10) (oi := ⟨_, _, _, _, _, _⟩) (v := ?_) rfl (by kernel_rfl) (by kernel_rfl) (by kernel_rfl) (fun _ _ _ h => h) (Or.inl ⟨by rfl, ?_⟩) hH0 ?_
        rotate_left
        · intro wS hSw; (try dsimp only at hSw); go_simp; try with_reducible rfl
        try simp only [Act.put, List.setIfInBounds_toArray, List.set_cons_zero, List.set_cons_succ]
        refine wpAnyH_take (i := 11) (oi := ⟨_, _, _, _, _, _⟩) (v := ?_) rfl (by kernel_rfl) (by kernel_rfl) (by kernel_rfl) (fun _ _ _ h => h) (Or.inl ⟨by rfl, ?_⟩) hH0 ?_
        rotate_left
        · intro wS hSw; (try dsimp only at hSw); go_simp; try with_reducible rfl
        try simp only [Act.put, List.setIfInBounds_toArray, List.set_cons_zero, List.set_cons_succ]
        refine wpAnyH_take (i := 12) (oi := ⟨_, _, _, _, _, _⟩) (v := ?_) rfl (by kernel_rfl) (by kernel_rfl) (by kernel_rfl) (fun _ _ _ h => h) (Or.inl ⟨by rfl, ?_⟩) hH0 ?_
        rotate_left
        · intro wS hSw; (try dsimp only at hSw); go_simp; try with_reducible rfl
        try simp only [Act.put, List.setIfInBounds_toArray, List.set_cons_zero, List.set_cons_succ]
        refine wpAnyH_take (i := 13) (oi := ⟨_, _, _, _, _, _⟩) (v := ?_) rfl (by kernel_rfl) (by kernel_rfl) (by kernel_rfl) (fun _ _ _ h => h) (Or.inl ⟨by rfl, ?_⟩) hH0 ?_
        rotate_left
        · intro wS hSw; (try dsimp only at hSw); go_simp; try with_reducible rfl
        try simp only [Act.put, List.setIfInBounds_toArray, List.set_cons_zero, List.set_cons_succ]
        refine wpAnyH_take (i := 14) (oi := ⟨_, _, _, _, _, _⟩) (v := ?_) rfl (by kernel_rfl) (by kernel_rfl) (by kernel_rfl) (fun _ _ _ h => h) (Or.inl ⟨by rfl, ?_⟩) hH0 ?_
        rotate_left
        · intro wS hSw; (try dsimp only at hSw); go_simp; try with_reducible rfl
        try simp only [Act.put, List.setIfInBounds_toArray, List.set_cons_zero, List.set_cons_succ]
        refine wpAnyH_take (i := 15) (oi := ⟨_, _, _, _, _, _⟩) (v := ?_) rfl (by kernel_rfl) (by kernel_rfl) (by kernel_rfl) (fun _ _ _ h => h) (Or.inl ⟨by rfl, ?_⟩) hH0 ?_
        rotate_left
        · intro wS hSw; (try dsimp only at hSw); go_simp; try with_reducible rfl
        try simp only [Act.put, List.setIfInBounds_toArray, List.set_cons_zero, List.set_cons_succ]
        refine wpAnyH_take (i := 16) (oi := ⟨_, _, _, _, _, _⟩) (v := ?_) rfl (by kernel_rfl) (by kernel_rfl) (by kernel_rfl) (fun _ _ _ h => h) (Or.inl ⟨by rfl, ?_⟩) hH0 ?_
        rotate_left
        · intro wS hSw; (try dsimp only at hSw); go_simp; try with_reducible rfl
        try simp only [Act.put, List.setIfInBounds_toArray, List.set_cons_zero, List.set_cons_succ]
        refine wpAnyH_ready (rs := [5]) (by kernel_rfl) (by simp) ?_
        refine AllReadyH.cons (o := ⟨_, _, _, _, _, _⟩) rfl (fun K hK => ?_) ?_
        · go_simp
          refine hK.out _ _ ?_ (fun hH1 => ?_)
          · (try dsimp only); (first
                | ((with_reducible refine And.intro (?_ : World.cell? (World.drew (World.setCell wr _ _)) _ = _) ?_); exact (HCS.out _).drew.cell 0 0 rfl rfl; exact ⟨(HCS.out _).drew.cell 1 0 rfl rfl, (HCS.out _).drew.cell 1 1 rfl rfl, HCY.out _⟩)
                | exact ⟨hC.out.drew.cell 0 0 rfl rfl, hC.out.drew.cell 1 0 rfl rfl, hC.out.drew.cell 1 1 rfl rfl, cy.out⟩)
          clear hK K hH0
          try simp only [Act.put, List.setIfInBounds_toArray, List.set_cons_zero, List.set_cons_succ]
          refine wpAnyH_take (i := 17) (oi := ⟨_, _, _, _, _, _⟩) (v := ?_) rfl (by kernel_rfl) (by kernel_rfl) (by kernel_rfl) (fun _ _ _ h => h) (Or.inl ⟨by rfl, ?_⟩) hH1 ?_
          rotate_left
          · intro wS hSw; (try dsimp only at hSw); go_simp; try with_reducible rfl
          try simp only [Act.put, List.setIfInBounds_toArray, List.set_cons_zero, List.set_cons_succ]
          refine wpAnyH_take (i := 18) (oi := ⟨_, _, _, _, _, _⟩) (v := ?_) rfl (by kernel_rfl) (by kernel_rfl) (by kernel_rfl) (fun _ _ _ h => h) (Or.inl ⟨by rfl, ?_⟩) hH1 ?_
          rotate_left
          · intro wS hSw; (try dsimp only at hSw); go_simp; try with_reducible rfl
          try simp only [Act.put, List.setIfInBounds_toArray, List.set_cons_zero, List.set_cons_succ]
          refine wpAnyH_ready (rs := [19]) (by kernel_rfl) (by simp) ?_
          refine AllReadyH.cons (o := ⟨_, _, _, _, _, _⟩) rfl (fun K hK => ?_) ?_
          · go_simp
            refine hK.out _ _ ?_ (fun hH2 => ?_)
            · (try dsimp only); (first
                  | ((with_reducible refine And.intro (?_ : World.cell? (World.drew (World.setCell wr _ _)) _ = _) ?_); exact (HCS.out _).drew.cell 0 0 rfl rfl; exact ⟨(HCS.out _).drew.cell 1 0 rfl rfl, (HCS.out _).drew.cell 1 1 rfl rfl, HCY.out _⟩)
                  | exact ⟨hC.out.drew.cell 0 0 rfl rfl, hC.out.drew.cell 1 0 rfl rfl, hC.out.drew.cell 1 1 rfl rfl, cy.out⟩)
            clear hK K hH1
            try simp only [Act.put, List.setIfInBounds_toArray, List.set_cons_zero, List.set_cons_succ]
            refine wpAnyH_done (by kernel_rfl) ?_ _
            refine NoPanic.normal ?_
            go_wp2
            go_roundw
            case rel => exact ⟨i + 1, L.set i (O + s1 * s2 * Y), by go_num, by omega, by rw [HOO.out, HY.out]; exact HST.out, (HO.out.set i (O + s1 * s2 * Y)).drew, (HCS.out _).drew⟩
            case measure => simp [intOf]; omega
          exact AllReadyH.nil
        exact AllReadyH.nil
      · obtain rfl : i = ys.length := by omega
        have HV := Lib.hid (show vl 10000 L = (z1.natAbs : Int) + sgnN z1 * sgnN z2 * (z2.natAbs : Int) from by rw [HI.out.val, List.take_length, VA.out, VB.out, HSA.out, HSB.out])
        have HAE := Lib.hid (add_end HLE.out)
        have HLL := Lib.hid HI.out.len
        have c00 := hC.out.cell 0 0 rfl rfl
        go_wp2_with fail
        refine (rmade_b (xs := L) (by have := HO.out; exact this) (fun x hx => by have := HI.out.rng x hx; omega) (by rw [HV.out]; exact HAE.out.1) (by rw [HLL.out]; omega) ?_).mono ?_
        · rcases HVA.out with h | h
          · exact .inl (by rw [HV.out]; exact HAE.out.2.2 h)
          · exact .inr h
        rintro e w9 ⟨s9, a9, n9, c9, rfl, hz, hb⟩
        have hC9 := Lib.hid ((hC.out.call hb).pn hz)
        clear hz hb c00 c11 hC
        have c20 := hC9.out.cell 2 0 rfl rfl
        have c21 := hC9.out.cell 2 1 rfl rfl
        have f20 := hC9.out.free 2 0 rfl
        have f21 := hC9.out.free 2 1 rfl
        go_wp2
        refine ret_st (hC9.out.set 2 rfl |>.set 2 rfl) (v := .agg #[.int .i64 s9, .slice a9 n9 c9]) (fun hF => ?_) rfl (fun hF => ⟨s9, a9, n9, c9, rfl, ?_, hF.be⟩)
        · have e0 := hF.cell 2 0 rfl rfl
          have e1 := hF.cell 2 1 rfl rfl
          simp [results, Tryz.results38, go_sem, e0, e1]
        · have := hF.n 0 rfl
          rw [HV.out, HSA.out, HAE.out.2.1] at this
          exact this

end Go.Proofs.YtmfplelodnoicaaGreatDoor
namespace Go.Proofs.YtmfplelodnoicaaGreatDoor
open Go.RowKit Dig

theorem Bd.lenM (m : Nat) {k : Nat} {z : Int} (h : Bd k z) (hk : k ≤ 10 * m) : (dg 10000 z.natAbs).length ≤ m := by
  refine dg_len_le (by omega) (Nat.lt_of_lt_of_le (h.mono hk) ?_)
  rw [Nat.pow_mul]
  exact Nat.pow_le_pow_left (by omega) _
theorem Bd.lenN {k : Nat} {z : Int} (h : Bd k z) (hk : k ≤ 500000) : (dg 10000 z.natAbs).length ≤ 50000 := h.lenM 50000 (by omega)
section
variable {w : World} {s1 : Int} {a1 : Option Addr} {n1 c1 : Nat} {z1 : Int} {s2 : Int} {a2 : Option Addr} {n2 c2 : Nat} {z2 : Int} {k1 k2 : Nat}
theorem addN_b (h1 : Nz w s1 (.slice a1 n1 c1) z1) (h2 : Nz w s2 (.slice a2 n2 c2) z2) (b1 : Bd k1 z1) (b2 : Bd k2 z2) (hk1 : k1 ≤ 500000) (hk2 : k2 ≤ 500000) :
    Calls Tryz.prog 38 #[.agg #[.int .i64 s1, .slice a1 n1 c1], .agg #[.int .i64 s2, .slice a2 n2 c2]] w (RetN w (z1 + z2)) := zaddN_any _ _ _ _ _ _ _ _ _ _ _ h1 h2 (b1.lenN hk1) (b2.lenN hk2)
theorem mulN_b (h1 : Nz w s1 (.slice a1 n1 c1) z1) (h2 : Nz w s2 (.slice a2 n2 c2) z2) (b1 : Bd k1 z1) (b2 : Bd k2 z2) (hk1 : k1 ≤ 500000) (hk2 : k2 ≤ 500000) :
    Calls Tryz.prog 42 #[.agg #[.int .i64 s1, .slice a1 n1 c1], .agg #[.int .i64 s2, .slice a2 n2 c2]] w (RetN w (z1 * z2)) := zmulN_any _ _ _ _ _ _ _ _ _ _ _ h1 h2 (b1.lenN hk1) (b2.lenN hk2)
theorem negN_b (h1 : Nz w s1 (.slice a1 n1 c1) z1) : Calls Tryz.prog 44 #[.agg #[.int .i64 s1, .slice a1 n1 c1]] w (RetN w (-z1)) := zneg_any _ _ _ _ _ _ h1
theorem absN_b (h1 : Nz w s1 (.slice a1 n1 c1) z1) : Calls Tryz.prog 46 #[.agg #[.int .i64 s1, .slice a1 n1 c1]] w (RetN w (z1.natAbs : Int)) := zabs_any _ _ _ _ _ _ h1
end

set_option maxRecDepth 100000 in
set_option maxHeartbeats 1000000 in
theorem zsubN_any (s1 : Int) (a1 : Option Addr) (n1 c1 : Nat) (z1 : Int) (s2 : Int) (a2 : Option Addr) (n2 c2 : Nat) (z2 : Int) (w : World) (h1 : Nz w s1 (.slice a1 n1 c1) z1) (h2 : Nz w s2 (.slice a2 n2 c2) z2) (k1 k2 : Nat) (b1 : Bd k1 z1) (b2 : Bd k2 z2) (hk1 : k1 ≤ 500000) (hk2 : k2 ≤ 500000) :
    Calls Tryz.prog 40 #[.agg #[.int .i64 s1, .slice a1 n1 c1], .agg #[.int .i64 s2, .slice a2 n2 c2]] w (RetN w (z1 + -z2)) := by
  have B1 := Lib.hid b1
  have B2 := Lib.hid b2
  clear b1 b2
  have hC := Lib.hid ((((((St.enter w).pn h1).pn h2).al (w.heap.size) #[.int .i64 s1, .slice a1 n1 c1] 31 rfl rfl).al (w.heap.size + 1) #[.int .i64 s2, .slice a2 n2 c2] 31 (by simp) rfl).al (w.heap.size + 2) #[.int .i64 0, .slice none 0 0] 31 (by simp) rfl)
  clear h1 h2
  go_enter Tryz.func40, Tryz.ntmps40
  go_wp2
  go_region_held3 (fun w' => w'.cell? ⟨w.heap.size, 0, none⟩ = some (.int .i64 s1) ∧ w'.cell? ⟨w.heap.size, 1, none⟩ = some (.slice a1 n1 c1) ∧ w'.cell? ⟨w.heap.size + 1, 0, none⟩ = some (.int .i64 s2) ∧ w'.cell? ⟨w.heap.size + 1, 1, none⟩ = some (.slice a2 n2 c2) ∧ True)
    (first
      | (with_reducible refine And.intro (?_ : World.cell? (World.setCell (World.setCell w4 _ _) _ _) _ = _) ?_; exact (hC4.out |>.set 2 rfl |>.set 2 rfl).cell 0 0 rfl rfl; exact ⟨(hC4.out |>.set 2 rfl |>.set 2 rfl).cell 0 1 rfl rfl, (hC4.out |>.set 2 rfl |>.set 2 rfl).cell 1 0 rfl rfl, (hC4.out |>.set 2 rfl |>.set 2 rfl).cell 1 1 rfl rfl, trivial⟩)
      | (with_reducible refine And.intro (?_ : World.cell? w4 _ = _) ?_; exact hC4.out.cell 0 0 rfl rfl; exact ⟨hC4.out.cell 0 1 rfl rfl, hC4.out.cell 1 0 rfl rfl, hC4.out.cell 1 1 rfl rfl, trivial⟩)
      | (with_reducible refine And.intro (?_ : World.cell? w3 _ = _) ?_; exact hC3.out.cell 0 0 rfl rfl; exact ⟨hC3.out.cell 0 1 rfl rfl, hC3.out.cell 1 0 rfl rfl, hC3.out.cell 1 1 rfl rfl, trivial⟩)
      | (with_reducible refine And.intro (?_ : World.cell? _ _ = _) ?_; exact hC.out.drew.cell 0 0 rfl rfl; exact ⟨hC.out.drew.cell 0 1 rfl rfl, hC.out.drew.cell 1 0 rfl rfl, hC.out.drew.cell 1 1 rfl rfl, trivial⟩))
    (first
      | (have _t := hC3; go_at_call 38; refine (addN_b (hC3.out.n 0 rfl) (hC3.out.n 2 rfl) B1.out B2.out.neg (by omega) (by omega)).mono ?_; rintro e w4 ⟨s4, a4, n4, c4, rfl, hz, hb⟩; have hC4 := Lib.hid ((hC3.out.call hb).pn hz); clear hb hz; have hC4_c20 := hC4.out.cell 2 0 rfl rfl; have hC4_f20 := hC4.out.free 2 0 rfl; have hC4_c21 := hC4.out.cell 2 1 rfl rfl; have hC4_f21 := hC4.out.free 2 1 rfl; clear _t hC3)
      | (have _t := hC; go_at_call 44; refine (negN_b (hC.out.drew.n 1 rfl)).mono ?_; rintro e w3 ⟨s3, a3, n3, c3, rfl, hz, hb⟩; have hC3 := Lib.hid ((hC.out.drew.call hb).pn hz); clear hb hz; clear _t hC))
  go_wp2
  refine ret_st (hC4.out |>.set 2 rfl |>.set 2 rfl) (v := .agg #[.int .i64 s4, .slice a4 n4 c4]) (fun hF => ?_) rfl (fun hF => ⟨_, _, _, _, rfl, hF.n 3 rfl, hF.be⟩)
  · have e0 := hF.cell 2 0 rfl rfl
    have e1 := hF.cell 2 1 rfl rfl
    simp [results, Tryz.results40, go_sem, e0, e1]

end Go.Proofs.YtmfplelodnoicaaGreatDoor

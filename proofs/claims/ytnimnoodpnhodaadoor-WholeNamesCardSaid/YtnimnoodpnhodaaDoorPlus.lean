/- (digits).plus: a + k b, k = 1 or -1, where it is not below 0 -/
import Derived.Test.YtnimnoodpnhodaaDoorSettled
namespace Go.Proofs.YtnimnoodpnhodaaDoor
open Go.RowKit Dig

theorem plus_round {A L ys : List Int} {i : Nat} {k : Int} (hk : k = 1 ∨ k = -1) (hlen : L.length = A.length) (hd : L.drop i = A.drop i) (hv : vl 16777216 L = vl 16777216 A + k * vl 16777216 (ys.take i))
    (hb : ∀ x ∈ L, -16777216 ≤ x ∧ x ≤ 33554432) (hA : ∀ x ∈ A, 0 ≤ x ∧ x < 16777216) (hy : ∀ x ∈ ys, 0 ≤ x ∧ x < 16777216) (hi : i < ys.length) (hl : i < L.length) :
    (0 ≤ L[i] ∧ L[i] < 16777216) ∧ (0 ≤ ys[i] ∧ ys[i] < 16777216) ∧ (L.set i (L[i] + k * ys[i])).length = A.length ∧ (L.set i (L[i] + k * ys[i])).drop (i + 1) = A.drop (i + 1) ∧
    vl 16777216 (L.set i (L[i] + k * ys[i])) = vl 16777216 A + k * vl 16777216 (ys.take (i + 1)) ∧ ∀ x ∈ L.set i (L[i] + k * ys[i]), -16777216 ≤ x ∧ x ≤ 33554432 := by
  have e1 : L[i] = A[i]'(by omega) := by
    have h1 : (L.drop i)[0]? = (A.drop i)[0]? := by rw [hd]
    rw [List.getElem?_drop, List.getElem?_drop, Nat.add_zero, List.getElem?_eq_getElem hl, List.getElem?_eq_getElem (by omega)] at h1
    exact Option.some.inj h1
  have a1 := hA _ (List.getElem_mem (l := A) (n := i) (by omega))
  have y1 := hy _ (List.getElem_mem hi)
  refine ⟨by rw [e1]; exact a1, y1, by rw [List.length_set, hlen], ?_, ?_, ?_⟩
  · rw [List.drop_set_of_lt (by omega)]
    have : L.drop (i + 1) = (L.drop i).drop 1 := by rw [List.drop_drop]
    rw [this, hd, List.drop_drop]
  · rw [vl_set _ _ hl, hv, vl_take_succ _ hi]
    grind
  · intro x hx
    rcases List.mem_or_eq_of_mem_set hx with h | h
    · exact hb x h
    · rcases hk with rfl | rfl <;> omega

set_option maxRecDepth 100000 in
set_option maxHeartbeats 800000 in
theorem plus_fresh (a : Option Addr) (n c : Nat) (a2 : Option Addr) (n2 c2 : Nat) (k : Int) (M N : Nat) (w : World) (h1 : Dg w (.slice a n c) M) (h2 : Dg w (.slice a2 n2 c2) N) (hk : k = 1 ∨ k = -1) (h0 : 0 ≤ (M : Int) + k * N)
    (hlM : (dg 16777216 M).length ≤ 10000000) (hlN : (dg 16777216 N).length ≤ 10000000) :
    Calls Tryd.prog 47 #[.agg #[.slice a n c], .agg #[.slice a2 n2 c2], .int .i64 k] w (RetF w ((M : Int) + k * N).toNat) := by
  unfold Dg at h1 h2
  have hn := h1.len
  have hn2 := h2.len
  have lt1 := h1.lt
  have lt2 := h2.lt
  have HM := Lib.hid h1
  have HN := Lib.hid h2
  have vM := vl_dg (b := 16777216) (by omega) M
  have vN := vl_dg (b := 16777216) (by omega) N
  have mM := dg_mem (b := 16777216) (by omega) M
  have mN := dg_mem (b := 16777216) (by omega) N
  simp only [show ((16777216 : Nat) : Int) = 16777216 from rfl] at vM vN mM mN
  generalize dg 16777216 M = xs at *
  generalize dg 16777216 N = ys at *
  have nm := @vM
  clear nm
  have VM := Lib.hid vM
  have VN := Lib.hid vN
  have MM := Lib.hid mM
  have MN := Lib.hid mN
  have L1 := Lib.hid lt1
  have L2 := Lib.hid lt2
  clear h1 h2 vM vN mM mN lt1 lt2
  obtain rfl := hn
  obtain rfl := hn2
  by_cases hlt : xs.length < ys.length
  · go_enter Tryd.func47, Tryd.ntmps47
    go_wp2_with (first | (at_make; refine wpList_make_sl _ rfl _ _ _ rfl 2 Tryd.underlying23 info_i64 _ _ _ _ _ _ rfl rfl rfl rfl (Nat.le_refl _) (by omega) ?_; intro ho0; simp only [World.size_alloc] at ho0) | (with_reducible refine wpList_copy_sl (o := ⟨some 21, _, _, _, _, _⟩) rfl _ _ _ rfl 2 Tryd.underlying23 size_i64 _ _ _ _ rfl ho0 _ _ _ _ rfl ((((HM.out.alloc _).alloc _).alloc _).alloc _) ?hle ?_))
    case hle => first | (simp; done) | (simp; omega)
    intro w1 ho1 hg1
    -- what is there behind the copy
    have hB1 : Below w.heap.size w w1 := ((((((Below.refl _ w).alloc (Nat.le_refl _) _).alloc (by go_size) _).alloc (by go_size) _).alloc (by go_size) _).grown hg1 (by go_size) (fun j hj => by simp only [Option.some.injEq] at hj; omega))
    have bx1 : Box w1 (w.heap.size + 1) (.slice a2 ys.length c2) 25 := Box.grown (((Box.new' (by simp)).alloc _).alloc _) hg1 (by simp)
    have bx2 : Box w1 (w.heap.size + 1 + 1) (.slice none 0 0) 25 := Box.grown ((Box.new' (by simp)).alloc _) hg1 (by simp)
    have sy1 : Sl 2 w1 (.slice a2 ys.length c2) ys := HN.out.below hB1 L2.out
    have hz1 : w.heap.size + 4 ≤ w1.heap.size := by have h := hg1.size; simp only [World.size_alloc] at h; omega
    obtain ⟨A, hmx, hyA, hlA, hvA, hmA, hoA⟩ : ∃ (A : List Int), ys.length ≤ 10000000 ∧ ys.length ≤ A.length ∧ A.length = ys.length ∧ vl 16777216 A = M ∧ (∀ x ∈ A, 0 ≤ x ∧ x < 16777216) ∧ Sl 2 w1 (.slice (some ⟨w.heap.size + 1 + 1 + 1, 0, none⟩) ys.length ys.length) A := by
      refine ⟨_, ?_, ?_, ?_, ?_, ?_, ho1⟩
      · first | exact hlN | exact hlM
      · first | omega | (simp; omega)
      · first | rfl | (simp; omega)
      · first | exact VM.out | (rw [vl_append, vl_replicate, VM.out]; omega)
      · first | exact MM.out | (intro x hx; rcases List.mem_append.1 hx with h | h; exact MM.out x h; rw [(List.mem_replicate.1 h).2]; omega)
    have HA := Lib.hid hvA
    have HAm := Lib.hid hmA
    have HLA := Lib.hid hlA
    have HO := Lib.hid hoA
    have HB1 := Lib.hid hB1
    have BX1 := Lib.hid bx1
    have BX2 := Lib.hid bx2
    have SY1 := Lib.hid sy1
    clear hvA hmA hlA hoA hB1 bx1 bx2 sy1 ho0 ho1 hg1 hlt
    have c1 := BX1.out.cell
    go_wp2
    go_loopw [25] (fun ix wr => ∃ (i : Nat) (L : List Int), ix = .int .i64 i ∧ i ≤ ys.length ∧ L.length = A.length ∧ L.drop i = A.drop i ∧ vl 16777216 L = vl 16777216 A + k * vl 16777216 (ys.take i) ∧ (∀ x ∈ L, -16777216 ≤ x ∧ x ≤ 33554432) ∧
      Sl 2 wr (.slice (some ⟨w.heap.size + 1 + 1 + 1, 0, none⟩) ys.length ys.length) L ∧ w1.grownBy wr (some (w.heap.size + 1 + 1 + 1))) (fun ix _ => ys.length - (intOf ix).toNat)
    case atStart => exact ⟨0, A, rfl, Nat.zero_le _, rfl, rfl, by simp [vl], fun x hx => by have := HAm.out x hx; omega, HO.out, grownBy_refl _ _⟩
    case round =>
      clear c1
      obtain ⟨i, L, rfl, hi, hL1, hL2, hL3, hL4, ho, hg⟩ := hrel
      have bx2 : Box wr (w.heap.size + 1 + 1) (.slice none 0 0) 25 := BX2.out.grown hg (by simp)
      by_cases hlt : i < ys.length
      · have hil2 : i < L.length := by omega
        obtain ⟨p1, p2, p3, p4, p5, p6⟩ := plus_round (L := L) (A := A) hk hL1 hL2 hL3 hL4 HAm.out MN.out hlt hil2
        have sy : Sl 2 wr (.slice a2 ys.length c2) ys := SY1.out.grown hg (.inr (fun e => by have := L2.out _ e; omega))
        obtain ⟨g2, rfl, hg2⟩ := sy.row (by omega)
        have c2' := sy.cell hlt
        have c3 := ho.cell (k := i) hil2
        have f3 := ho.free i
        have hmx2 := HLA.out
        have hil : i < ys.length := by omega
        have P3 := Lib.hid p3
        have P4 := Lib.hid p4
        have P5 := Lib.hid p5
        have P6 := Lib.hid p6
        have S0 := Lib.hid ho
        clear p3 p4 p5 p6 hL1 hL2 hL3 hL4 sy hmx2 ho
        rcases hk with rfl | rfl
        all_goals
          go_wp2
          go_roundw
          case rel =>
            refine ⟨i + 1, _, by go_num, by omega, P3.out, P4.out, P5.out, P6.out, ?_, grownBy_trans hg (grownBy_setCell _ _ _ _)⟩
            first | (have := S0.out.set i (L[i] + 1 * ys[i]); rw [Int.one_mul] at this; rw [Int.one_mul]; exact this) | (have := S0.out.set i (L[i] + -1 * ys[i]); rw [Int.neg_one_mul] at this; rw [Int.neg_one_mul]; exact this)
          case measure => simp [intOf]; omega
      · obtain rfl : i = ys.length := by omega
        rw [List.take_length, HA.out, VN.out] at hL3
        have e0 : 0 ≤ vl 16777216 L := by rw [hL3]; exact h0
        have e1 : L.length ≤ 100000000 := by rw [hL1, HLA.out]; omega
        have e2 : ∀ x ∈ L, -4611686018427387904 ≤ x ∧ x ≤ 4611686018427387904 := fun x hx => by have := hL4 x hx; omega
        have E0 := Lib.hid e0
        have E2 := Lib.hid e2
        have E3 := Lib.hid hL3
        have GO := Lib.hid hg
        have HOo := Lib.hid ho
        have BX := Lib.hid bx2
        clear e0 e2 hL1 hL2 hL3 hL4 h0 ho hg bx2
        go_wp2_with fail
        refine (settled_any _ L _ ⟨_, _, _, rfl⟩ HOo.out E2.out E0.out e1).mono ?_
        rintro e w2 ⟨a3, n3, c3, rfl, hd, hg2, hs2⟩
        have bx := BX.out.grown hg2 (by simp [Value.ownBlock])
        have bc := bx.cell
        have bf := bx.free
        have bs := fun u => (bx.set u).cell
        have HD := Lib.hid hd
        have HG := Lib.hid hg2
        have HS := Lib.hid hs2
        clear hd hg2 hs2
        go_wp2
        have hzr := GO.out.size
        refine bodyPost_ret (v := .agg #[.slice a3 n3 c3]) (by simp [results, Tryd.results47, go_sem, bs]) rfl ⟨a3, n3, c3, rfl, ?_, ?_, fun j hj => ?_⟩
        · have hd := HD.out
          rw [E3.out] at hd
          exact hd.other (fun e => by
            rcases HS.out _ e with h | h
            · simp only [Value.ownBlock, Option.some.injEq] at h; omega
            · omega) _
        · exact ((((HB1.out).grown GO.out (by omega) (fun j hj => by simp only [Option.some.injEq] at hj; omega)).grown HG.out (by omega) (fun j hj => by simp only [Value.ownBlock, Option.some.injEq] at hj; omega)).setCell (by simp; omega) _)
        · rcases HS.out _ hj with h | h
          · simp only [Value.ownBlock, Option.some.injEq] at h; omega
          · omega
  · go_enter Tryd.func47, Tryd.ntmps47
    go_wp2_with (first | (at_make; refine wpList_make_sl _ rfl _ _ _ rfl 2 Tryd.underlying23 info_i64 _ _ _ _ _ _ rfl rfl rfl rfl (Nat.le_refl _) (by omega) ?_; intro ho0; simp only [World.size_alloc] at ho0) | (with_reducible refine wpList_copy_sl (o := ⟨some 21, _, _, _, _, _⟩) rfl _ _ _ rfl 2 Tryd.underlying23 size_i64 _ _ _ _ rfl ho0 _ _ _ _ rfl ((((HM.out.alloc _).alloc _).alloc _).alloc _) ?hle ?_))
    case hle => first | (simp; done) | (simp; omega)
    intro w1 ho1 hg1
    -- what is there behind the copy
    have hB1 : Below w.heap.size w w1 := ((((((Below.refl _ w).alloc (Nat.le_refl _) _).alloc (by go_size) _).alloc (by go_size) _).alloc (by go_size) _).grown hg1 (by go_size) (fun j hj => by simp only [Option.some.injEq] at hj; omega))
    have bx1 : Box w1 (w.heap.size + 1) (.slice a2 ys.length c2) 25 := Box.grown (((Box.new' (by simp)).alloc _).alloc _) hg1 (by simp)
    have bx2 : Box w1 (w.heap.size + 1 + 1) (.slice none 0 0) 25 := Box.grown ((Box.new' (by simp)).alloc _) hg1 (by simp)
    have sy1 : Sl 2 w1 (.slice a2 ys.length c2) ys := HN.out.below hB1 L2.out
    have hz1 : w.heap.size + 4 ≤ w1.heap.size := by have h := hg1.size; simp only [World.size_alloc] at h; omega
    obtain ⟨A, hmx, hyA, hlA, hvA, hmA, hoA⟩ : ∃ (A : List Int), xs.length ≤ 10000000 ∧ ys.length ≤ A.length ∧ A.length = xs.length ∧ vl 16777216 A = M ∧ (∀ x ∈ A, 0 ≤ x ∧ x < 16777216) ∧ Sl 2 w1 (.slice (some ⟨w.heap.size + 1 + 1 + 1, 0, none⟩) xs.length xs.length) A := by
      refine ⟨_, ?_, ?_, ?_, ?_, ?_, ho1⟩
      · first | exact hlN | exact hlM
      · first | omega | (simp; omega)
      · first | rfl | (simp; omega)
      · first | exact VM.out | (rw [vl_append, vl_replicate, VM.out]; omega)
      · first | exact MM.out | (intro x hx; rcases List.mem_append.1 hx with h | h; exact MM.out x h; rw [(List.mem_replicate.1 h).2]; omega)
    have HA := Lib.hid hvA
    have HAm := Lib.hid hmA
    have HLA := Lib.hid hlA
    have HO := Lib.hid hoA
    have HB1 := Lib.hid hB1
    have BX1 := Lib.hid bx1
    have BX2 := Lib.hid bx2
    have SY1 := Lib.hid sy1
    clear hvA hmA hlA hoA hB1 bx1 bx2 sy1 ho0 ho1 hg1 hlt
    have c1 := BX1.out.cell
    go_wp2
    go_loopw [25] (fun ix wr => ∃ (i : Nat) (L : List Int), ix = .int .i64 i ∧ i ≤ ys.length ∧ L.length = A.length ∧ L.drop i = A.drop i ∧ vl 16777216 L = vl 16777216 A + k * vl 16777216 (ys.take i) ∧ (∀ x ∈ L, -16777216 ≤ x ∧ x ≤ 33554432) ∧
      Sl 2 wr (.slice (some ⟨w.heap.size + 1 + 1 + 1, 0, none⟩) xs.length xs.length) L ∧ w1.grownBy wr (some (w.heap.size + 1 + 1 + 1))) (fun ix _ => ys.length - (intOf ix).toNat)
    case atStart => exact ⟨0, A, rfl, Nat.zero_le _, rfl, rfl, by simp [vl], fun x hx => by have := HAm.out x hx; omega, HO.out, grownBy_refl _ _⟩
    case round =>
      clear c1
      obtain ⟨i, L, rfl, hi, hL1, hL2, hL3, hL4, ho, hg⟩ := hrel
      have bx2 : Box wr (w.heap.size + 1 + 1) (.slice none 0 0) 25 := BX2.out.grown hg (by simp)
      by_cases hlt : i < ys.length
      · have hil2 : i < L.length := by omega
        obtain ⟨p1, p2, p3, p4, p5, p6⟩ := plus_round (L := L) (A := A) hk hL1 hL2 hL3 hL4 HAm.out MN.out hlt hil2
        have sy : Sl 2 wr (.slice a2 ys.length c2) ys := SY1.out.grown hg (.inr (fun e => by have := L2.out _ e; omega))
        obtain ⟨g2, rfl, hg2⟩ := sy.row (by omega)
        have c2' := sy.cell hlt
        have c3 := ho.cell (k := i) hil2
        have f3 := ho.free i
        have hmx2 := HLA.out
        have hil : i < xs.length := by omega
        have P3 := Lib.hid p3
        have P4 := Lib.hid p4
        have P5 := Lib.hid p5
        have P6 := Lib.hid p6
        have S0 := Lib.hid ho
        clear p3 p4 p5 p6 hL1 hL2 hL3 hL4 sy hmx2 ho
        rcases hk with rfl | rfl
        all_goals
          go_wp2
          go_roundw
          case rel =>
            refine ⟨i + 1, _, by go_num, by omega, P3.out, P4.out, P5.out, P6.out, ?_, grownBy_trans hg (grownBy_setCell _ _ _ _)⟩
            first | (have := S0.out.set i (L[i] + 1 * ys[i]); rw [Int.one_mul] at this; rw [Int.one_mul]; exact this) | (have := S0.out.set i (L[i] + -1 * ys[i]); rw [Int.neg_one_mul] at this; rw [Int.neg_one_mul]; exact this)
          case measure => simp [intOf]; omega
      · obtain rfl : i = ys.length := by omega
        rw [List.take_length, HA.out, VN.out] at hL3
        have e0 : 0 ≤ vl 16777216 L := by rw [hL3]; exact h0
        have e1 : L.length ≤ 100000000 := by rw [hL1, HLA.out]; omega
        have e2 : ∀ x ∈ L, -4611686018427387904 ≤ x ∧ x ≤ 4611686018427387904 := fun x hx => by have := hL4 x hx; omega
        have E0 := Lib.hid e0
        have E2 := Lib.hid e2
        have E3 := Lib.hid hL3
        have GO := Lib.hid hg
        have HOo := Lib.hid ho
        have BX := Lib.hid bx2
        clear e0 e2 hL1 hL2 hL3 hL4 h0 ho hg bx2
        go_wp2_with fail
        refine (settled_any _ L _ ⟨_, _, _, rfl⟩ HOo.out E2.out E0.out e1).mono ?_
        rintro e w2 ⟨a3, n3, c3, rfl, hd, hg2, hs2⟩
        have bx := BX.out.grown hg2 (by simp [Value.ownBlock])
        have bc := bx.cell
        have bf := bx.free
        have bs := fun u => (bx.set u).cell
        have HD := Lib.hid hd
        have HG := Lib.hid hg2
        have HS := Lib.hid hs2
        clear hd hg2 hs2
        go_wp2
        have hzr := GO.out.size
        refine bodyPost_ret (v := .agg #[.slice a3 n3 c3]) (by simp [results, Tryd.results47, go_sem, bs]) rfl ⟨a3, n3, c3, rfl, ?_, ?_, fun j hj => ?_⟩
        · have hd := HD.out
          rw [E3.out] at hd
          exact hd.other (fun e => by
            rcases HS.out _ e with h | h
            · simp only [Value.ownBlock, Option.some.injEq] at h; omega
            · omega) _
        · exact ((((HB1.out).grown GO.out (by omega) (fun j hj => by simp only [Option.some.injEq] at hj; omega)).grown HG.out (by omega) (fun j hj => by simp only [Value.ownBlock, Option.some.injEq] at hj; omega)).setCell (by simp; omega) _)
        · rcases HS.out _ hj with h | h
          · simp only [Value.ownBlock, Option.some.injEq] at h; omega
          · omega

theorem plus_any (a : Option Addr) (n c : Nat) (a2 : Option Addr) (n2 c2 : Nat) (k : Int) (M N : Nat) (w : World) (h1 : Dg w (.slice a n c) M) (h2 : Dg w (.slice a2 n2 c2) N) (hk : k = 1 ∨ k = -1) (h0 : 0 ≤ (M : Int) + k * N)
    (hlM : (dg 16777216 M).length ≤ 10000000) (hlN : (dg 16777216 N).length ≤ 10000000) :
    Calls Tryd.prog 47 #[.agg #[.slice a n c], .agg #[.slice a2 n2 c2], .int .i64 k] w (RetD w ((M : Int) + k * N).toNat) :=
  (plus_fresh a n c a2 n2 c2 k M N w h1 h2 hk h0 hlM hlN).mono fun _ _ ⟨a', n', c', he, hd, hb, _⟩ => ⟨a', n', c', he, hd, hb⟩

end Go.Proofs.YtnimnoodpnhodaaDoor

/- Prices -/
import Derived.Test.YteogibpmpppgmaaGreatK16
import Derived.Test.YteogibpmpppgmaaGreatH18
namespace Go.Proofs.YteogibpmpppgmaaGreat
open Go.RowKit

/-- what the numbers must be to be prices -/
def Fin (np nn : Nat) (A B : Nat → Int) (C X : Nat → Nat → Int) (s : RS) : Prop := ∀ (u v : List Int) (sh : Int), 0 ≤ sh → (∀ i, i < np → -s.d0.getD i 0 ≤ sh) → (sh = 0 ∨ ∃ i, i < np ∧ sh = -s.d0.getD i 0) →
  (∀ k, k < nn → v.getD k 0 = if np = 0 then 0 else s.d1.getD k 0 + sh) → (∀ i, i < np → s.d0.getD i 0 ≠ farN → u.getD i 0 = s.d0.getD i 0 + sh) →
  (∀ i, i < np → s.d0.getD i 0 = farN → 0 ≤ u.getD i 0 ∧ (u.getD i 0 = 0 ∨ ∃ k, k < nn ∧ u.getD i 0 = v.getD k 0 - C i k) ∧ ∀ k, k < nn → v.getD k 0 - C i k ≤ u.getD i 0) → Priced np nn A B C X (fun i => u.getD i 0) (fun k => v.getD k 0)
theorem fin_left {np nn : Nat} {A B : Nat → Int} {C X : Nat → Nat → Int} {G T : Nat → Int} {p0 p1 : Nat → Int} {s : RS} (Y : YInv np nn A B C X G T) (hd : ∀ k, k < nn → T k = B k) (hp : ∀ i, i < np → 0 ≤ p0 i ∧ p0 i ≤ capN) (hp1 : ∀ k, k < nn → 0 ≤ p1 k ∧ p1 k ≤ capN)
    (I : RInv np nn C X (fun i => decide (G i < A i)) p0 p1 s) (hX : Fixed np nn C X s) {i0 : Nat} (hi0 : i0 < np) (hl0 : G i0 < A i0) : Fin np nn A B C X s := fun u v sh h0 h1 h2 hv hu hu2 => by
  obtain ⟨hn0, hn1⟩ := reach_nonneg I (fun i hi => (hp i hi).1) (fun k hk => (hp1 k hk).1)
  have hall := reach_all Y.c0 I hX hi0 (by simpa using hl0)
  have hsh : sh = 0 := by
    rcases h2 with h | ⟨i, hi, h⟩
    · exact h
    · have := hn0 i hi; omega
  have hv' : ∀ k, k < nn → v.getD k 0 = s.d1.getD k 0 := fun k hk => by rw [hv k hk, if_neg (by omega), hsh]; omega
  refine priced_left Y hd hp hp1 I hX hi0 hl0 hv' (fun i hi hf => by rw [hu i hi (by omega), hsh]; omega) (fun i hi hf => ⟨(hu2 i hi hf).1, ?_, (hu2 i hi hf).2.2⟩)
  have hcn : capN ≤ 1000000000 := by decide
  rcases (hu2 i hi hf).2.1 with h | ⟨k, hk, h⟩
  · omega
  · have a := hall k hk
    have b := (Y.c0 i k hi hk).1
    have c := hv' k hk
    omega
theorem fin_none {np nn : Nat} {A B : Nat → Int} {C X : Nat → Nat → Int} {G T : Nat → Int} {p0 p1 : Nat → Int} {s : RS} (Y : YInv np nn A B C X G T) (hd : ∀ k, k < nn → T k = B k) (hp : ∀ i, i < np → 0 ≤ p0 i ∧ p0 i ≤ capN)
    (I : RInv np nn C X (fun _ => true) (fun i => p0 i - capN) (fun k => p1 k - capN) s) (hX : Fixed np nn C X s) (hl : ∀ i, i < np → ¬ G i < A i) : Fin np nn A B C X s := fun u v sh h0 h1 h2 hv hu hu2 => by
  rcases Nat.eq_zero_or_pos np with h | h
  · subst h
    exact priced_empty fun k hk => by rw [hv k hk, if_pos rfl]
  · refine priced_none Y hd h hp I hX hl h1 h2 (fun k hk => by rw [hv k hk, if_neg (by omega)]) (fun i hi => hu i hi ?_)
    have := I.fr i hi rfl
    have hf : 0 < farN := by decide
    omega
theorem feas_shift {np nn : Nat} {C X : Nat → Nat → Int} {p0 p1 : Nat → Int} (h : Feas np nn C X p0 p1) (c : Int) : Feas np nn C X (fun i => p0 i - c) (fun k => p1 k - c) :=
  ⟨h.n0, h.n1, fun i k hi hk => by have := h.fwd i k hi hk; omega, fun i k hi hk hx => by have := h.bwd i k hi hk hx; omega⟩
theorem idxs_any (n : Nat) (p : Nat → Bool) : (idxs (List.range n)).any (fun x => p x.toNat) = (List.range n).any p := by
  unfold idxs
  rw [List.any_map]
  rfl
def RetPrices (w : World) (P : List I3) (N : List I2) (e : Ending) (w' : World) : Prop := ∃ (X G T u v : List Int) (a a' : Option Addr) (c c' : Nat),
  YInv P.length N.length (hA P) (hB N) (costC P N) (XF X) (fun i => G.getD i 0) (fun k => T.getD k 0) ∧ (∀ k, k < N.length → T.getD k 0 = hB N k) ∧ u.length = P.length ∧ v.length = N.length ∧
  Priced P.length N.length (hA P) (hB N) (costC P N) (XF X) (fun i => u.getD i 0) (fun k => v.getD k 0) ∧ e = .returned (.tuple #[.slice a P.length c, .slice a' N.length c', .int .i64 0]) ∧
  Sx 1 w' a P.length c (L1 u) ∧ Sx 1 w' a' N.length c' (L1 v) ∧ Below w.heap.size w w'
theorem getD_at3' {l : List I3} {i : Nat} (h : i < l.length) : l.getD i (0, 0, 0) = l[i] := by rw [List.getD_eq_getElem?_getD, List.getElem?_eq_getElem h]; rfl
theorem getD_at2' {l : List I2} {i : Nat} (h : i < l.length) : l.getD i (0, 0) = l[i] := by rw [List.getD_eq_getElem?_getD, List.getElem?_eq_getElem h]; rfl
def RetR (W : World) (P : List I3) (N : List I2) (X : List Int) (e : Ending) (W' : World) : Prop := ∃ s, e = .returned (.tuple #[.agg (distC s), .agg (byC s)]) ∧ Fin P.length N.length (hA P) (hB N) (costC P N) (XF X) s ∧ (s.d0.length = 20 ∧ s.d1.length = 20 ∧ (distC s).size = 40 ∧ (byC s).size = 160) ∧
  (∀ i, i < P.length → -1200000 ≤ s.d0.getD i 0 ∧ s.d0.getD i 0 ≤ 1125899906842624) ∧ (∀ k, k < N.length → -1200000 ≤ s.d1.getD k 0 ∧ s.d1.getD k 0 ≤ 1125899906842624) ∧ Below W.heap.size W W'
theorem reachA (W : World) (y : Nat) (a0 a1 a2 a3 : Option Addr) (c0 c1 c2 c3 : Nat) (P : List I3) (N : List I2) (X G T : List Int) (h : Yard W y a0 a1 a2 a3 c0 c1 c2 c3 P N G T (XF X)) (hG : YGood P N) (Y : YInv P.length N.length (hA P) (hB N) (costC P N) (XF X) (fun i => G.getD i 0) (fun k => T.getD k 0)) (hd : ∀ k, k < N.length → T.getD k 0 = hB N k)
    (hany : (List.range P.length).any (fun i => decide (G.getD i 0 < hA P i)) = true) : Calls Tryz.prog 80 #[.pointer (some ⟨y, 0, none⟩), .func (.func 77) #[.pointer (some ⟨y, 0, none⟩)] #[]] W (RetR W P N X) := by
  obtain ⟨p0, p1, hF, h0, h1, h2⟩ := Y.pot
  obtain ⟨i0, hi0, hl0⟩ := List.any_eq_true.1 hany
  have hfar : farN = 1125899906842624 := rfl
  refine (reach_any W y 77 #[.pointer (some ⟨y, 0, none⟩)] #[] (fun i => decide (G.getD i 0 < hA P i)) a0 a1 c0 c1 P N (XF X) p0 p1 eg_left
    (fun W' hW i hi => by
      have h := h.below hW
      exact left_any W' y i a0 a2 c0 c2 P G h.y0 h.y2 h.sp h.sg hi)
    hG.1 hG.2.1 (fun p hp => by have := hG.2.2.1 p hp; omega) (fun q hq => by have := hG.2.2.2 q hq; omega) hF h0 h1 (fun i hi h => by rw [h2 i hi (of_decide_eq_true h)]; exact Int.le_refl _) Y.c0 h.y0 h.y1 h.yx h.sp h.sn h.ly).mono ?_
  rintro e W' ⟨s, rfl, I, hX, hb⟩
  refine ⟨s, rfl, fin_left Y hd h0 h1 I hX (List.mem_range.1 hi0) (of_decide_eq_true hl0), ⟨I.l0, I.l1, distC_size I, byC_size I⟩, fun i hi => ?_, fun k hk => ?_, hb⟩
  · have a := I.lo0 i hi
    have b := I.up0 i hi
    have c := (h0 i hi).1
    omega
  · have a := I.lo1 k hk
    have b := I.up1 k hk
    have c := (h1 k hk).1
    omega
theorem reachB (W : World) (y : Nat) (a0 a1 a2 a3 : Option Addr) (c0 c1 c2 c3 : Nat) (P : List I3) (N : List I2) (X G T : List Int) (h : Yard W y a0 a1 a2 a3 c0 c1 c2 c3 P N G T (XF X)) (hG : YGood P N) (Y : YInv P.length N.length (hA P) (hB N) (costC P N) (XF X) (fun i => G.getD i 0) (fun k => T.getD k 0)) (hd : ∀ k, k < N.length → T.getD k 0 = hB N k)
    (hany : (List.range P.length).any (fun i => decide (G.getD i 0 < hA P i)) = false) : Calls Tryz.prog 80 #[.pointer (some ⟨y, 0, none⟩), .func (.func 79) #[] #[]] W (RetR W P N X) := by
  obtain ⟨p0, p1, hF, h0, h1, h2⟩ := Y.pot
  have hfar : farN = 1125899906842624 := rfl
  have hcap : capN = 1200000 := rfl
  refine (reach_anyG W y 79 #[] #[] (fun _ => true) a0 a1 c0 c1 P N (XF X) (fun i => p0 i - capN) (fun k => p1 k - capN) eg_prices1
    (fun W' hW i hi => prices1_any W' i)
    hG.1 hG.2.1 (fun p hp => by have := hG.2.2.1 p hp; omega) (fun q hq => by have := hG.2.2.2 q hq; omega) (feas_shift hF capN) (fun i hi => by have := h0 i hi; omega) (fun k hk => by have := h1 k hk; omega) (fun i hi h => by have := h0 i hi; omega) Y.c0 h.y0 h.y1 h.yx h.sp h.sn h.ly).mono ?_
  rintro e W' ⟨s, rfl, I, hX, hb⟩
  refine ⟨s, rfl, fin_none Y hd h0 I hX (fun i hi hl => ?_), ⟨I.l0, I.l1, distC_size I, byC_size I⟩, fun i hi => ?_, fun k hk => ?_, hb⟩
  · have := List.any_eq_false.1 hany i (List.mem_range.2 hi)
    exact this (decide_eq_true hl)
  · have a := I.lo0 i hi
    have b := I.up0 i hi
    have c := (h0 i hi).1
    omega
  · have a := I.lo1 k hk
    have b := I.up1 k hk
    have c := (h1 k hk).1
    omega
section
variable (w : World)
set_option maxRecDepth 100000 in
set_option maxHeartbeats 4000000 in
theorem prices_bad (a a' : Option Addr) (n c n' c' : Nat) (P : List I3) (N : List I2) (hs : Sx 3 w a n c (L3 P)) (hs' : Sx 2 w a' n' c' (L2 N)) (he : yardErr P N ≠ 0) :
    Calls Tryz.prog 36 #[.slice a n c, .slice a' n' c'] w (Gives (.tuple #[.slice none 0 0, .slice none 0 0, .int .i64 (yardErr P N)]) w) := by
  have HE := Lib.hid (yardError_any w a a' n c n' c' P N hs hs')
  generalize yardErr P N = er at *
  clear hs hs'
  have heb : (er == 0) = false := by simpa using he
  have heb2 : (er != 0) = true := by simpa using he
  clear he
  go_enter Tryz.func36, Tryz.ntmps36
  go_wp2_with fail
  refine HE.out.mono ?_
  rintro e V ⟨rfl, hb⟩
  have hB := Lib.hid hb
  clear hb
  go_wp2
  go_ret3
  exact ⟨rfl, hB.out⟩
set_option maxRecDepth 100000 in
set_option maxHeartbeats 16000000 in
theorem prices_ok (a0 a1 : Option Addr) (n c0 n' c1 : Nat) (P : List I3) (N : List I2) (hs : Sx 3 w a0 n c0 (L3 P)) (hs' : Sx 2 w a1 n' c1 (L2 N)) (he : yardErr P N = 0) :
    Calls Tryz.prog 36 #[.slice a0 n c0, .slice a1 n' c1] w (RetPrices w P N) := by
  obtain ⟨hG, hE⟩ := yardErr_zero he
  obtain rfl := hs.n3
  obtain rfl := hs'.n2
  have HE := Lib.hid (yardError_any w a0 a1 _ c0 _ c1 P N hs hs')
  rw [he] at HE
  have HSP := Lib.hid hs
  have HSN := Lib.hid hs'
  have HGD := Lib.hid hG
  have HEN := Lib.hid (enough_rsum hE)
  have hP20 := hG.1
  have hN20 := hG.2.1
  clear hs hs' he hG hE
  go_enter Tryz.func36, Tryz.ntmps36
  go_wp2_with fail
  refine HE.out.mono ?_
  rintro e V ⟨rfl, hb⟩
  have hB := Lib.hid hb
  clear hb HE
  go_wp2_with fail
  refine (least_any V a0 a1 c0 c1 P N (HSP.out.below hB.out) (HSN.out.below hB.out) HGD.out HEN.out).mono ?_
  rintro e w2 ⟨y, g2, g3, X, G, T, rfl, hYd, hY, hT, hb⟩
  have HBW := Lib.hid (hB.out.trans (hb.mono hB.out.size))
  have HYD := Lib.hid (fun W (h : Below w2.heap.size w2 W) => hYd.below h)
  have HY := Lib.hid hY
  have HT := Lib.hid hT
  have hC := Lib.hid (Sy.enter w2)
  clear hb hYd hY hT hB
  go_wp2_with fail
  refine (indexesPile_any w2 a0 _ c0 P (HSP.out.below HBW.out) (by omega)).mono ?_
  rintro e W3 ⟨a3, c3, rfl, hr, hb⟩
  have hD := Lib.hid (hC.out.adopt hb hr)
  clear hb hr hC
  have HCF := Lib.hid (containsFuncB_int W3 a3 _ c3 (idxs (List.range P.length)) 77 (.pointer (some ⟨y, 0, none⟩)) (fun x => decide (G.getD x.toNat 0 < hA P x.toNat)) (hD.out.osx 0 rfl) eg_left (fun W hW x hx => by
    unfold idxs at hx
    obtain ⟨i, hi, rfl⟩ := List.mem_map.1 hx
    have h := HYD.out W (hD.out.be.trans (hW.mono hD.out.be.size))
    exact left_any W y i a0 _ c0 _ P G h.y0 h.y2 h.sp h.sg (List.mem_range.1 hi)))
  rw [idxs_any P.length (fun i => decide (G.getD i 0 < hA P i))] at HCF
  have HRA := Lib.hid (fun W (h : Below w2.heap.size w2 W) => reachA W y a0 a1 _ _ c0 c1 _ _ P N X G T (HYD.out W h) HGD.out HY.out HT.out)
  have HRB := Lib.hid (fun W (h : Below w2.heap.size w2 W) => reachB W y a0 a1 _ _ c0 c1 _ _ P N X G T (HYD.out W h) HGD.out HY.out HT.out)
  cases hany : (List.range P.length).any (fun i => decide (G.getD i 0 < hA P i))
  all_goals
    have HAY := Lib.hid hany
    rw [hany] at HCF
    clear hany
    go_wp2_with fail
    refine HCF.out.mono ?_
    rintro e W4 ⟨rfl, hb⟩
    have hE : Hid (Sy w2 W4 [] [] []) := Lib.hid ((hD.out.call hb).thin (List.Sublist.refl _) (List.nil_sublist _))
    clear hb hD HCF
    first
      | have HR := Lib.hid (HRA.out W4 hE.out.be HAY.out)
      | have HR := Lib.hid (HRB.out W4 hE.out.be HAY.out)
    clear HRA HRB
    go_wp2_with fail
    refine HR.out.mono ?_
    rintro e V ⟨s, rfl, hfin, hln, hb0, hb1, hb⟩
    have HFIN := Lib.hid hfin
    have HLN := Lib.hid hln
    have HB0 := Lib.hid hb0
    have HB1 := Lib.hid hb1
    have hD := Lib.hid (((hE.out.call hb).al V.heap.size (Array.replicate 40 (.int .i64 0)) 153 rfl).al (V.heap.size + 1) Tryz.zeroCells157 157 (by simp))
    have hD1 := Lib.hid (hD.out.setAll 0 (distC s) rfl)
    have hD2 := Lib.hid (hD1.out.setAll 1 (byC s) rfl)
    clear hfin hln hb0 hb1 hb HR hE
    go_upto_region 9 with (first
      | refine wpList_store_row rfl 153 (.tmp 10) (.tmp 40) rfl V.heap.size (distC s) rfl rfl 153 _ (hD.out.at_ 0 rfl).2 (by rw [HLN.out.2.2.1]; kernel_rfl) (by rw [HLN.out.2.2.1]; rfl) (distC_one s) ?_
      | refine wpList_store_row rfl 157 (.tmp 11) (.tmp 41) rfl (V.heap.size + 1) (byC s) rfl rfl 157 _ (hD1.out.at_ 1 rfl).2 (by rw [HLN.out.2.2.2]; kernel_rfl) (by rw [HLN.out.2.2.2]; kernel_rfl) (byC_one s) ?_)
    refine wp_geny hD2.out ?_
    intro W0 hc
    have hC := Lib.hid (show Sy w2 W0 [(V.heap.size, distC s, 153), (V.heap.size + 1, byC s, 157)] [] [] from hc)
    clear hc hD hD1 hD2
    generalize V.heap.size + 1 = bB at *
    generalize V.heap.size = bD at *
    simp only [Act.put]
    clear HAY
    go_wp2
    go_loopw [12, 44] (fun qv iv wr => ∃ (k : Nat) (sh : Int), k ≤ P.length ∧ qv = .int .i64 sh ∧ iv = .int .i64 k ∧ (0 ≤ sh ∧ sh ≤ 1200000) ∧ Hid ((∀ i, i < k → -s.d0.getD i 0 ≤ sh) ∧ (sh = 0 ∨ ∃ i, i < k ∧ sh = -s.d0.getD i 0)) ∧ Hid (Sy w2 wr [(bD, distC s, 153), (bB, byC s, 157)] [] [])) (fun _ iv _ => P.length - (intOf iv).toNat)
    case atStart => exact ⟨0, 0, Nat.zero_le _, rfl, rfl, by omega, Lib.hid ⟨fun i h => absurd h (Nat.not_lt_zero i), .inl rfl⟩, hC⟩
    case round =>
      clear hC
      obtain ⟨k, sh, hk, rfl, rfl, hsh, hD, hC⟩ := hrel
      by_cases hlt : k < P.length
      · have hkk : (k : Int) < (P.length : Int) := by omega
        have k0 : (0 : Int) ≤ (k : Int) := by omega
        have k20 : (k : Int) < 20 := by omega
        have d0 := hC.out.cell 0 k rfl (distC_at0 (by rw [HLN.out.1]; omega))
        have hdb := HB0.out k hlt
        obtain ⟨d, hd⟩ : ∃ d, s.d0.getD k 0 = d := ⟨_, rfl⟩
        have HDK := Lib.hid hd
        rw [hd] at d0 hdb
        clear hd
        have wn : IntKind.i64.wrap (-d) = -d := by rw [IntKind.wrap_i64]; omega
        go_wp2
        go_roundw
        case rel =>
          refine ⟨k + 1, max sh (-d), by omega, rfl, by go_num, by omega, Lib.hid ⟨fun i hi => ?_, ?_⟩, hC⟩
          · rcases Nat.lt_or_ge i k with h | h
            · have := hD.out.1 i h; omega
            · rw [show i = k by omega, HDK.out]; omega
          · by_cases hc : sh < -d
            · exact .inr ⟨k, by omega, by rw [HDK.out]; omega⟩
            · rcases hD.out.2 with h | ⟨i, hi, h⟩
              · exact .inl (by omega)
              · exact .inr ⟨i, by omega, by omega⟩
        case measure => simp [intOf]; omega
      · have hkk : ¬ (k : Int) < (P.length : Int) := by omega
        obtain rfl : k = P.length := by omega
        have HSH := Lib.hid hD.out
        clear hD
        go_wp2
        go_loopw [5, 57] (fun vv iv wr => ∃ (m : Nat) (a : Option Addr) (c : Nat) (v : List Int) (cs : Array Value), m ≤ N.length ∧ vv = .slice a m c ∧ iv = .int .i64 m ∧ Hid (cs.size = 40 ∧ (0 < P.length → cs = distC s)) ∧ Hid (v.length = m ∧ ∀ k, k < m → v.getD k 0 = if P.length = 0 then 0 else s.d1.getD k 0 + sh) ∧
          Hid (Sy w2 wr [(bD, cs, 153), (bB, byC s, 157)] [⟨.slice a m c, 3, 1, m, L1 v⟩] [])) (fun _ iv _ => N.length - (intOf iv).toNat)
        case atStart => exact ⟨0, none, 0, [], distC s, Nat.zero_le _, rfl, rfl, Lib.hid ⟨HLN.out.2.2.1, fun _ => rfl⟩, Lib.hid ⟨rfl, fun k h => absurd h (Nat.not_lt_zero k)⟩, Lib.hid (hC.out.onil _ 1)⟩
        case round =>
          clear hC hlt hkk hk
          obtain ⟨m, a, c, v, cs, hm, rfl, rfl, hCS, hVV, hC⟩ := hrel
          by_cases hml : m < N.length
          · have hmm : (m : Int) < (N.length : Int) := by omega
            have m0 : (0 : Int) ≤ (m : Int) := by omega
            have m20 : (m : Int) < 20 := by omega
            have HST := Lib.hid (show ∀ x, x = (if P.length = 0 then 0 else s.d1.getD m 0 + sh) → (v ++ [x]).length = m + 1 ∧ ∀ k, k < m + 1 → (v ++ [x]).getD k 0 = if P.length = 0 then 0 else s.d1.getD k 0 + sh from fun x hx => by
              refine ⟨by rw [List.length_append, hVV.out.1]; rfl, fun k hk => ?_⟩
              rw [List.getD_eq_getElem?_getD]
              rcases Nat.lt_or_ge k m with h | h
              · rw [List.getElem?_append_left (by rw [hVV.out.1]; exact h), ← List.getD_eq_getElem?_getD]
                exact hVV.out.2 k h
              · obtain rfl : k = m := by omega
                rw [List.getElem?_append_right (by rw [hVV.out.1]; omega), hVV.out.1, Nat.sub_self]
                exact hx)
            by_cases hP0 : 0 < P.length
            · have hpe : ((P.length : Int) == 0) = false := beq_eq_false_iff_ne.2 (by omega)
              obtain rfl := hCS.out.2 hP0
              have d0 := hC.out.cell 0 (20 + m) rfl (distC_at1 HLN.out.1 (by rw [HLN.out.2.1]; omega))
              have hdb := HB1.out m hml
              have HSU := Lib.hid (HST.out (s.d1.getD m 0 + sh) (by rw [if_neg (by omega)]))
              generalize s.d1.getD m 0 = e at *
              have we : IntKind.i64.wrap (e + sh) = e + sh := by rw [IntKind.wrap_i64]; omega
              clear hP0 HST
              go_wp2_with (refine wpList_append_sy (o := ⟨some 76, _, _, _, _, _⟩) rfl (hC.out.onew wr.heap.size #[.int .i64 (e + sh)] 3 1 1 rfl (by omega) rfl) 0 1 rfl rfl _ _ _ rfl und_int info_int rfl (by omega) rfl rfl (by intro u hu; simp at hu; rcases hu with rfl; rfl) (by omega) (by omega) ?_; intro a4 c4 V4 hV; have hU := Lib.hid (hV.thin (List.Sublist.refl _) (List.Sublist.cons_cons _ (List.nil_sublist _))); clear hV)
              go_roundw
              case rel =>
                refine ⟨m + 1, a4, c4, v ++ [e + sh], distC s, by omega, rfl, by go_num, hCS, HSU, ?_⟩
                rw [L1_append]
                exact hU
              case measure => simp [intOf]; omega
            · have hpe : ((P.length : Int) == 0) = true := beq_iff_eq.2 (by omega)
              have hsh0 : sh = 0 := by
                rcases HSH.out.2 with h | ⟨i, hi, _⟩
                · exact h
                · omega
              have HSU := Lib.hid (HST.out 0 (by rw [if_pos (by omega)]))
              subst hsh0
              have HSZ := Lib.hid hCS.out.1
              have d0 := hC.out.cell 0 (20 + m) rfl (Array.getElem?_eq_getElem (by rw [HSZ.out]; omega))
              have d1 := hC.out.free 0 (20 + m) rfl
              generalize cs[20 + m]'(by rw [HSZ.out]; omega) = old at d0
              have hA := Lib.hid (hC.out.set 0 (j := 20 + m) (v := .int .i64 0) rfl)
              clear hC HST
              go_upto_region 20 with fail
              refine wp_geny hA.out ?_
              intro W2 hc
              have hC : Hid (Sy w2 W2 [(bD, cs.setIfInBounds (20 + m) (.int .i64 0), 153), (bB, byC s, 157)] [⟨.slice a m c, 3, 1, m, L1 v⟩] []) := Lib.hid hc
              clear hc hA d0 d1
              have d0 := hC.out.cell 0 (20 + m) rfl (Array.getElem?_setIfInBounds_self_of_lt (by rw [HSZ.out]; omega))
              have HCS2 := Lib.hid (show (cs.setIfInBounds (20 + m) (.int .i64 0)).size = 40 ∧ (0 < P.length → cs.setIfInBounds (20 + m) (.int .i64 0) = distC s) from ⟨by rw [Array.size_setIfInBounds, HSZ.out], fun h => absurd h hP0⟩)
              go_wp2_with (refine wpList_append_sy (o := ⟨some 76, _, _, _, _, _⟩) rfl (hC.out.onew W2.heap.size #[.int .i64 0] 3 1 1 rfl (by omega) rfl) 0 1 rfl rfl _ _ _ rfl und_int info_int rfl (by omega) rfl rfl (by intro u hu; simp at hu; rcases hu with rfl; rfl) (by omega) (by omega) ?_; intro a4 c4 V4 hV; have hU := Lib.hid (hV.thin (List.Sublist.refl _) (List.Sublist.cons_cons _ (List.nil_sublist _))); clear hV)
              go_roundw
              case rel =>
                refine ⟨m + 1, a4, c4, v ++ [0], _, by omega, rfl, by go_num, HCS2, HSU, ?_⟩
                rw [L1_append]
                exact hU
              case measure => simp [intOf]; omega
          · have hmm : ¬ (m : Int) < (N.length : Int) := by omega
            obtain rfl : m = N.length := by omega
            have HVL := Lib.hid hVV.out
            clear hVV
            go_wp2
            go_loopw [4, 80] (fun uv iv wr => ∃ (i : Nat) (ua : Option Addr) (uc : Nat) (u : List Int), i ≤ P.length ∧ uv = .slice ua i uc ∧ iv = .int .i64 i ∧ Hid (u.length = i ∧ (∀ j, j < i → s.d0.getD j 0 ≠ farN → u.getD j 0 = s.d0.getD j 0 + sh) ∧ (∀ j, j < i → s.d0.getD j 0 = farN → 0 ≤ u.getD j 0 ∧ (u.getD j 0 = 0 ∨ ∃ k, k < N.length ∧ u.getD j 0 = v.getD k 0 - costC P N j k) ∧ ∀ k, k < N.length → v.getD k 0 - costC P N j k ≤ u.getD j 0)) ∧
              Hid (Sy w2 wr [(bD, cs, 153), (bB, byC s, 157)] [⟨.slice a N.length c, 3, 1, N.length, L1 v⟩, ⟨.slice ua i uc, 3, 1, i, L1 u⟩] [])) (fun _ iv _ => P.length - (intOf iv).toNat)
            case atStart => exact ⟨0, none, 0, [], Nat.zero_le _, rfl, rfl, Lib.hid ⟨rfl, fun k h => absurd h (Nat.not_lt_zero k), fun k h => absurd h (Nat.not_lt_zero k)⟩, Lib.hid (hC.out.onil _ 1)⟩
            case round =>
              clear hC hml hmm hm
              obtain ⟨i, ua, uc, u, hi, rfl, rfl, hUU, hC⟩ := hrel
              by_cases hil : i < P.length
              · have hii : (i : Int) < (P.length : Int) := by omega
                have i0 : (0 : Int) ≤ (i : Int) := by omega
                have i20 : (i : Int) < 20 := by omega
                obtain rfl := hCS.out.2 (by omega)
                obtain ⟨gp, op, rfl⟩ := HSP.out.addr (by omega)
                obtain ⟨z0, z1, z2⟩ := ((HSP.out.below HBW.out).below hC.out.be).at3 hil
                have hdb := HB0.out i hil
                have HPG := Lib.hid (getD_at3' hil)
                have HPD := Lib.hid (HGD.out.2.2.1 _ (List.getElem_mem hil))
                have HDC := Lib.hid (show ∀ W bs os rs, Sy w2 W ((bD, distC s, 153) :: bs) os rs → W.cell? ⟨bD, i, none⟩ = some (.int .i64 (s.d0.getD i 0)) from fun W bs os rs h => h.cell 0 i rfl (distC_at0 (by rw [HLN.out.1]; omega)))
                generalize P[i] = p at *
                obtain ⟨p0, p1, p2⟩ := p
                dsimp only at z0 z1 z2 HPD
                have hA := Lib.hid (hC.out.al wr.heap.size #[.int .i64 p0, .int .i64 p1, .int .i64 p2] 108 rfl)
                clear hC
                go_upto_region 25 with fail
                refine wp_geny hA.out ?_
                intro W3 hc
                have hC : Hid (Sy w2 W3 [(bD, distC s, 153), (bB, byC s, 157), (wr.heap.size, #[.int .i64 p0, .int .i64 p1, .int .i64 p2], 108)] [⟨.slice a N.length c, 3, 1, N.length, L1 v⟩, ⟨.slice ua i uc, 3, 1, i, L1 u⟩] []) := Lib.hid hc
                clear hc hA z0 z1 z2
                generalize wr.heap.size = bq at *
                have d0 := HDC.out _ _ _ _ hC.out
                obtain ⟨d, hd⟩ : ∃ d, s.d0.getD i 0 = d := ⟨_, rfl⟩
                have HDI := Lib.hid hd
                rw [hd] at d0 hdb
                clear hd
                have wd : IntKind.i64.wrap (d + sh) = d + sh := by rw [IntKind.wrap_i64]; omega
                have HUN : Hid (∀ x, (s.d0.getD i 0 ≠ farN → x = s.d0.getD i 0 + sh) → (s.d0.getD i 0 = farN → 0 ≤ x ∧ (x = 0 ∨ ∃ k, k < N.length ∧ x = v.getD k 0 - costC P N i k) ∧ ∀ k, k < N.length → v.getD k 0 - costC P N i k ≤ x) → (u ++ [x]).length = i + 1 ∧ (∀ j, j < i + 1 → s.d0.getD j 0 ≠ farN → (u ++ [x]).getD j 0 = s.d0.getD j 0 + sh) ∧ (∀ j, j < i + 1 → s.d0.getD j 0 = farN → 0 ≤ (u ++ [x]).getD j 0 ∧ ((u ++ [x]).getD j 0 = 0 ∨ ∃ k, k < N.length ∧ (u ++ [x]).getD j 0 = v.getD k 0 - costC P N j k) ∧ ∀ k, k < N.length → v.getD k 0 - costC P N j k ≤ (u ++ [x]).getD j 0)) := Lib.hid (fun x hx1 hx2 => by
                  have e1 : ∀ j, j < i → (u ++ [x]).getD j 0 = u.getD j 0 := fun j hj => by
                    rw [List.getD_eq_getElem?_getD, List.getElem?_append_left (by rw [hUU.out.1]; exact hj), ← List.getD_eq_getElem?_getD]
                  have e2 : (u ++ [x]).getD i 0 = x := by
                    rw [List.getD_eq_getElem?_getD, List.getElem?_append_right (by rw [hUU.out.1]; omega), hUU.out.1, Nat.sub_self]; rfl
                  refine ⟨by rw [List.length_append, hUU.out.1]; rfl, fun j hj => ?_, fun j hj => ?_⟩
                  · rcases Nat.lt_or_ge j i with h | h
                    · rw [e1 j h]; exact hUU.out.2.1 j h
                    · obtain rfl : j = i := by omega
                      rw [e2]; exact hx1
                  · rcases Nat.lt_or_ge j i with h | h
                    · rw [e1 j h]; exact hUU.out.2.2 j h
                    · obtain rfl : j = i := by omega
                      rw [e2]; exact hx2)
                have hpz : P.length ≠ 0 := by omega
                by_cases hfar : d = 1125899906842624
                rotate_left
                · have hfb : (d == 1125899906842624) = false := beq_eq_false_iff_ne.2 hfar
                  have HU1 := Lib.hid (HUN.out (d + sh) (fun _ => by rw [HDI.out]) (fun h => absurd (HDI.out.symm.trans h) hfar))
                  clear hfar HUN
                  go_wp2_with (refine wpList_append_sy (o := ⟨some 117, _, _, _, _, _⟩) rfl (hC.out.onew W3.heap.size #[.int .i64 (d + sh)] 3 1 1 rfl (by omega) rfl) 1 2 rfl rfl _ _ _ rfl und_int info_int rfl (by omega) rfl rfl (by intro u hu; simp at hu; rcases hu with rfl; rfl) (by omega) (by omega) ?_; intro a4 c4 V4 hV; have hU := Lib.hid (hV.thin (List.Sublist.cons_cons _ (List.Sublist.cons_cons _ (List.nil_sublist _))) (List.Sublist.cons_cons _ (List.Sublist.cons_cons _ (List.nil_sublist _)))); clear hV)
                  go_roundw
                  case rel =>
                    refine ⟨i + 1, a4, c4, u ++ [d + sh], by omega, rfl, by go_num, HU1, ?_⟩
                    rw [L1_append]
                    exact hU
                  case measure => simp [intOf]; omega
                have hfb : (d == 1125899906842624) = true := beq_iff_eq.2 hfar
                have HFR := Lib.hid (show s.d0.getD i 0 = farN from HDI.out.trans hfar)
                clear hfar
                go_wp2
                go_loopw [17, 98] (fun pv iv wr => ∃ (m : Nat) (pr : Int), m ≤ N.length ∧ pv = .int .i64 pr ∧ iv = .int .i64 m ∧ (0 ≤ pr ∧ pr ≤ 2000000000000000) ∧ Hid ((pr = 0 ∨ ∃ k, k < N.length ∧ pr = v.getD k 0 - costC P N i k) ∧ ∀ k, k < m → v.getD k 0 - costC P N i k ≤ pr) ∧
                  Hid (Sy w2 wr [(bD, distC s, 153), (bB, byC s, 157), (bq, #[.int .i64 p0, .int .i64 p1, .int .i64 p2], 108)] [⟨.slice a N.length c, 3, 1, N.length, L1 v⟩, ⟨.slice ua i uc, 3, 1, i, L1 u⟩] [])) (fun _ iv _ => N.length - (intOf iv).toNat)
                case atStart => exact ⟨0, 0, Nat.zero_le _, rfl, rfl, by omega, Lib.hid ⟨.inl rfl, fun k h => absurd h (Nat.not_lt_zero k)⟩, hC⟩
                case round =>
                  clear hC d0
                  obtain ⟨m, pr, hm, rfl, rfl, hpr, hPR, hC⟩ := hrel
                  by_cases hml : m < N.length
                  · have hmm : (m : Int) < (N.length : Int) := by omega
                    have m0 : (0 : Int) ≤ (m : Int) := by omega
                    obtain ⟨gn, on, rfl⟩ := HSN.out.addr (by omega)
                    obtain ⟨z0, z1⟩ := ((HSN.out.below HBW.out).below hC.out.be).at2 hml
                    obtain ⟨ga, rfl, _⟩ := hC.out.oaddr 0 rfl (by omega)
                    have HVC := Lib.hid (show ∀ W bs, Sy w2 W bs [⟨.slice (some ⟨ga, 0, none⟩) N.length c, 3, 1, N.length, L1 v⟩, ⟨.slice ua i uc, 3, 1, i, L1 u⟩] [] → W.cell? ⟨ga, m, none⟩ = some (.int .i64 (v.getD m 0)) from fun W bs h => h.rcell 0 rfl (by unfold L1; rw [List.getElem?_map, List.getD_eq_getElem?_getD, List.getElem?_eq_getElem (by rw [HVL.out.1]; exact hml)]; rfl))
                    have hvb : -1200000 ≤ v.getD m 0 ∧ v.getD m 0 ≤ 1125899908042624 := by
                      have h := HVL.out.2 m hml
                      rw [if_neg hpz] at h
                      have := HB1.out m hml
                      omega
                    have HNG := Lib.hid (getD_at2' hml)
                    have HND := Lib.hid (HGD.out.2.2.2 _ (List.getElem_mem hml))
                    obtain ⟨vm, hvm⟩ : ∃ x, v.getD m 0 = x := ⟨_, rfl⟩
                    have HVM := Lib.hid hvm
                    rw [hvm] at HVC hvb
                    clear hvm
                    generalize N[m] = nn at *
                    obtain ⟨n0, n1⟩ := nn
                    dsimp only at z0 z1 HND
                    have HCM := Lib.hid (show costC P N i m = unitI (p0, p1, p2) (n0, n1) from by unfold costC; rw [HPG.out, HNG.out])
                    have HUC := Lib.hid (fun W => costs_any W (p0, p1, p2) (n0, n1) (by have := HPD.out.1; dsimp only at this ⊢; omega) (by have := HND.out.1; dsimp only at this ⊢; omega) (by have := HPD.out.2.2; dsimp only at this ⊢; omega))
                    have hub : 0 ≤ unitI (p0, p1, p2) (n0, n1) ∧ unitI (p0, p1, p2) (n0, n1) ≤ 1200000 := by
                      have h1 := HPD.out
                      have h2 := HND.out
                      unfold unitI
                      dsimp only at h1 h2 ⊢
                      omega
                    generalize unitI (p0, p1, p2) (n0, n1) = un at *
                    dsimp only at HUC
                    have ws : IntKind.i64.wrap (vm - un) = vm - un := by rw [IntKind.wrap_i64]; omega
                    have hA := Lib.hid (hC.out.al wr.heap.size #[.int .i64 n0, .int .i64 n1] 110 rfl)
                    clear hC
                    go_upto_region 31 with fail
                    refine wp_geny hA.out ?_
                    intro W5 hc
                    have hC : Hid (Sy w2 W5 [(bD, distC s, 153), (bB, byC s, 157), (bq, #[.int .i64 p0, .int .i64 p1, .int .i64 p2], 108), (wr.heap.size, #[.int .i64 n0, .int .i64 n1], 110)] [⟨.slice (some ⟨ga, 0, none⟩) N.length c, 3, 1, N.length, L1 v⟩, ⟨.slice ua i uc, 3, 1, i, L1 u⟩] []) := Lib.hid hc
                    clear hc hA z0 z1
                    generalize wr.heap.size = bn at *
                    refine wp_region_held_drew (S := (fun w' => w'.cell? ⟨bq, 0, none⟩ = some (.int .i64 p0) ∧ w'.cell? ⟨bq, 1, none⟩ = some (.int .i64 p1) ∧ w'.cell? ⟨bq, 2, none⟩ = some (.int .i64 p2) ∧ w'.cell? ⟨bn, 0, none⟩ = some (.int .i64 n0) ∧ w'.cell? ⟨bn, 1, none⟩ = some (.int .i64 n1) ∧ w'.cell? ⟨ga, m, none⟩ = some (.int .i64 vm) ∧ True)) (by kernel_rfl) ⟨hC.out.drew.cell 2 0 rfl rfl, hC.out.drew.cell 2 1 rfl rfl, hC.out.drew.cell 2 2 rfl rfl, hC.out.drew.cell 3 0 rfl rfl, hC.out.drew.cell 3 1 rfl rfl, (HVC.out _ _ hC.out.drew), trivial⟩ (fun hH => ?_)
                    refine wpAnyH_geny (show Sy w2 _ [(bD, distC s, 153), (bB, byC s, 157), (bq, #[.int .i64 p0, .int .i64 p1, .int .i64 p2], 108), (bn, #[.int .i64 n0, .int .i64 n1], 110)] [⟨.slice (some ⟨ga, 0, none⟩) N.length c, 3, 1, N.length, L1 v⟩, ⟨.slice ua i uc, 3, 1, i, L1 u⟩] [] from hC.out.drew) hH ?_
                    intro VP_0 hc hHP_0
                    have hVP_0 := Lib.hid hc
                    clear hc hH hC
                    refine wpAnyH_take (i := 0) (oi := ⟨_, _, _, _, _, _⟩) (v := ?_) rfl (by kernel_rfl) (by kernel_rfl) (by kernel_rfl) (fun _ _ _ h => h) (Or.inl ⟨by rfl, ?_⟩) hHP_0 ?_
                    rotate_left
                    · intro wS hSw; (try dsimp only at hSw); go_simp; try with_reducible rfl
                    try simp only [Act.put, List.setIfInBounds_toArray, List.set_cons_zero, List.set_cons_succ]
                    refine wpAnyH_take (i := 1) (oi := ⟨_, _, _, _, _, _⟩) (v := ?_) rfl (by kernel_rfl) (by kernel_rfl) (by kernel_rfl) (fun _ _ _ h => h) (Or.inl ⟨by rfl, ?_⟩) hHP_0 ?_
                    rotate_left
                    · intro wS hSw; (try dsimp only at hSw); go_simp; try with_reducible rfl
                    try simp only [Act.put, List.setIfInBounds_toArray, List.set_cons_zero, List.set_cons_succ]
                    refine wpAnyH_take (i := 2) (oi := ⟨_, _, _, _, _, _⟩) (v := ?_) rfl (by kernel_rfl) (by kernel_rfl) (by kernel_rfl) (fun _ _ _ h => h) (Or.inl ⟨by rfl, ?_⟩) hHP_0 ?_
                    rotate_left
                    · intro wS hSw; (try dsimp only at hSw); go_simp; try with_reducible rfl
                    try simp only [Act.put, List.setIfInBounds_toArray, List.set_cons_zero, List.set_cons_succ]
                    refine wpAnyH_take (i := 3) (oi := ⟨_, _, _, _, _, _⟩) (v := ?_) rfl (by kernel_rfl) (by kernel_rfl) (by kernel_rfl) (fun _ _ _ h => h) (Or.inl ⟨by rfl, ?_⟩) hHP_0 ?_
                    rotate_left
                    · intro wS hSw; (try dsimp only at hSw); go_simp; try with_reducible rfl
                    try simp only [Act.put, List.setIfInBounds_toArray, List.set_cons_zero, List.set_cons_succ]
                    refine wpAnyH_take (i := 4) (oi := ⟨_, _, _, _, _, _⟩) (v := ?_) rfl (by kernel_rfl) (by kernel_rfl) (by kernel_rfl) (fun _ _ _ h => h) (Or.inl ⟨by rfl, ?_⟩) hHP_0 ?_
                    rotate_left
                    · intro wS hSw; (try dsimp only at hSw); go_simp; try with_reducible rfl
                    try simp only [Act.put, List.setIfInBounds_toArray, List.set_cons_zero, List.set_cons_succ]
                    refine wpAnyH_take (i := 5) (oi := ⟨_, _, _, _, _, _⟩) (v := ?_) rfl (by kernel_rfl) (by kernel_rfl) (by kernel_rfl) (fun _ _ _ h => h) (Or.inl ⟨by rfl, ?_⟩) hHP_0 ?_
                    rotate_left
                    · intro wS hSw; (try dsimp only at hSw); go_simp; try with_reducible rfl
                    try simp only [Act.put, List.setIfInBounds_toArray, List.set_cons_zero, List.set_cons_succ]
                    refine wpAnyH_take (i := 6) (oi := ⟨_, _, _, _, _, _⟩) (v := ?_) rfl (by kernel_rfl) (by kernel_rfl) (by kernel_rfl) (fun _ _ _ h => h) (Or.inl ⟨by rfl, ?_⟩) hHP_0 ?_
                    rotate_left
                    · intro wS hSw; (try dsimp only at hSw); go_simp; try with_reducible rfl
                    try simp only [Act.put, List.setIfInBounds_toArray, List.set_cons_zero, List.set_cons_succ]
                    refine wpAnyH_ready (rs := [7]) (by kernel_rfl) (by simp) ?_
                    refine AllReadyH.cons (o := ⟨_, _, _, _, _, _⟩) rfl (fun Kq hKq => ?_) AllReadyH.nil
                    go_simp
                    go_at_call 73
                    refine (HUC.out _).mono ?_
                    rintro e wT ⟨rfl, hb⟩
                    (try go_wp2_with fail)
                    refine stepY hKq (show Sy w2 _ [(bD, distC s, 153), (bB, byC s, 157), (bq, #[.int .i64 p0, .int .i64 p1, .int .i64 p2], 108), (bn, #[.int .i64 n0, .int .i64 n1], 110)] [⟨.slice (some ⟨ga, 0, none⟩) N.length c, 3, 1, N.length, L1 v⟩, ⟨.slice ua i uc, 3, 1, i, L1 u⟩] [] from (hVP_0.out.call hb)) (fun _ hX => ⟨hX.cell 2 0 rfl rfl, hX.cell 2 1 rfl rfl, hX.cell 2 2 rfl rfl, hX.cell 3 0 rfl rfl, hX.cell 3 1 rfl rfl, (HVC.out _ _ hX), trivial⟩) ?_
                    intro VP_1 hc hHP_1
                    have hVP_1 := Lib.hid hc
                    clear hc hKq Kq hVP_0 hb hHP_0
                    try simp only [Act.put, List.setIfInBounds_toArray, List.set_cons_zero, List.set_cons_succ]
                    refine wpAnyH_take (i := 8) (oi := ⟨_, _, _, _, _, _⟩) (v := ?_) rfl (by kernel_rfl) (by kernel_rfl) (by kernel_rfl) (fun _ _ _ h => h) (Or.inl ⟨by rfl, ?_⟩) hHP_1 ?_
                    rotate_left
                    · intro wS hSw; (try dsimp only at hSw); go_simp; try with_reducible rfl
                    try simp only [Act.put, List.setIfInBounds_toArray, List.set_cons_zero, List.set_cons_succ]
                    refine wpAnyH_take (i := 9) (oi := ⟨_, _, _, _, _, _⟩) (v := ?_) rfl (by kernel_rfl) (by kernel_rfl) (by kernel_rfl) (fun _ _ _ h => h) (Or.inl ⟨by rfl, ?_⟩) hHP_1 ?_
                    rotate_left
                    · intro wS hSw; (try dsimp only at hSw); go_simp; try with_reducible rfl
                    try simp only [Act.put, List.setIfInBounds_toArray, List.set_cons_zero, List.set_cons_succ]
                    refine wpAnyH_ready (rs := [10]) (by kernel_rfl) (by simp) ?_
                    refine AllReadyH.cons (o := ⟨_, _, _, _, _, _⟩) rfl (fun Kq hKq => ?_) AllReadyH.nil
                    go_simp
                    refine stepY hKq (show Sy w2 _ [(bD, distC s, 153), (bB, byC s, 157), (bq, #[.int .i64 p0, .int .i64 p1, .int .i64 p2], 108), (bn, #[.int .i64 n0, .int .i64 n1], 110)] [⟨.slice (some ⟨ga, 0, none⟩) N.length c, 3, 1, N.length, L1 v⟩, ⟨.slice ua i uc, 3, 1, i, L1 u⟩] [] from hVP_1.out) (fun _ hX => ⟨hX.cell 2 0 rfl rfl, hX.cell 2 1 rfl rfl, hX.cell 2 2 rfl rfl, hX.cell 3 0 rfl rfl, hX.cell 3 1 rfl rfl, (HVC.out _ _ hX), trivial⟩) ?_
                    intro VP_2 hc hHP_2
                    have hVP_2 := Lib.hid hc
                    clear hc hKq Kq hVP_1 hHP_1
                    try simp only [Act.put, List.setIfInBounds_toArray, List.set_cons_zero, List.set_cons_succ]
                    refine wpAnyH_done (by kernel_rfl) ?_ _
                    go_wp2
                    go_roundw
                    case rel =>
                      refine ⟨m + 1, max pr (vm - un), by omega, rfl, by go_num, by omega, Lib.hid ⟨?_, fun k hk => ?_⟩, Lib.hid (hVP_2.out.thin (List.Sublist.cons_cons _ (List.Sublist.cons_cons _ (List.Sublist.cons_cons _ (List.nil_sublist _)))) (List.Sublist.refl _))⟩
                      · by_cases hc : pr < vm - un
                        · exact .inr ⟨m, hml, by rw [HVM.out, HCM.out]; omega⟩
                        · rcases hPR.out.1 with h | ⟨k, hk, h⟩
                          · exact .inl (by omega)
                          · exact .inr ⟨k, hk, by omega⟩
                      · rcases Nat.lt_or_ge k m with h | h
                        · have := hPR.out.2 k h; omega
                        · rw [show k = m by omega, HVM.out, HCM.out]; omega
                    case measure => simp [intOf]; omega
                  · have hmm : ¬ (m : Int) < (N.length : Int) := by omega
                    have HU1 := Lib.hid (HUN.out pr (fun h => absurd HFR.out h) (fun _ => ⟨hpr.1, hPR.out.1, fun k hk => hPR.out.2 k (by omega)⟩))
                    go_wp2_with (refine wpList_append_sy (o := ⟨some 117, _, _, _, _, _⟩) rfl (hC.out.onew wr.heap.size #[.int .i64 pr] 3 1 1 rfl (by omega) rfl) 1 2 rfl rfl _ _ _ rfl und_int info_int rfl (by omega) rfl rfl (by intro u hu; simp at hu; rcases hu with rfl; rfl) (by omega) (by omega) ?_; intro a4 c4 V4 hV; have hU := Lib.hid (hV.thin (List.Sublist.cons_cons _ (List.Sublist.cons_cons _ (List.nil_sublist _))) (List.Sublist.cons_cons _ (List.Sublist.cons_cons _ (List.nil_sublist _)))); clear hV)
                    go_roundw
                    case rel =>
                      refine ⟨i + 1, a4, c4, u ++ [pr], by omega, rfl, by go_num, HU1, ?_⟩
                      rw [L1_append]
                      exact hU
                    case measure => simp [intOf]; omega
              · have hii : ¬ (i : Int) < (P.length : Int) := by omega
                obtain rfl : i = P.length := by omega
                have HFI := Lib.hid (HFIN.out u v sh (by omega) HSH.out.1 HSH.out.2 HVL.out.2 hUU.out.2.1 hUU.out.2.2)
                go_wp2
                go_ret3
                exact ⟨X, G, T, u, v, ua, a, uc, c, HY.out, HT.out, hUU.out.1, HVL.out.1, HFI.out, rfl, hC.out.osx 1 rfl, hC.out.osx 0 rfl, HBW.out.trans (hC.out.be.mono HBW.out.size)⟩
end
end Go.Proofs.YteogibpmpppgmaaGreat

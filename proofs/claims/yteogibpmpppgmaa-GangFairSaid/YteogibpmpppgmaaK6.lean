/- the reference's Share: penny by penny -/
import Derived.Test.YteogibpmpppgmaaH7
import Derived.Test.YteogibpmpppgmaaH3
import Derived.Test.YteogibpmpppgmaaH4
namespace Go.Proofs.Yteogibpmpppgmaa
open Go.RowKit

def bestTo (r : List Int) (k : Nat) : Nat := (List.range k).foldl (fun b i => if r.getD b 0 < r.getD i 0 then i else b) 0
theorem bestTo_succ (r : List Int) (k : Nat) : bestTo r (k + 1) = if r.getD (bestTo r k) 0 < r.getD k 0 then k else bestTo r k := by unfold bestTo; rw [List.range_succ, List.foldl_append]; rfl
theorem bestTo_lt (r : List Int) : ∀ k, 0 < k → bestTo r k < k
  | 0, h => absurd h (Nat.lt_irrefl _)
  | k + 1, _ => by
    rw [bestTo_succ]
    split
    · omega
    · rcases Nat.eq_zero_or_pos k with h | h
      · subst h; unfold bestTo; simp
      · have := bestTo_lt r k h; omega
theorem bestTo_all (r : List Int) : bestTo r r.length = bestAt r := rfl
theorem rests_take (s A : Int) (l : List Int) (k : Nat) (h : k < l.length) : (rests s A l).take (k + 1) = (rests s A l).take k ++ [s * l[k] % A] := by
  unfold rests
  rw [List.take_succ_eq_append_getElem (by rw [List.length_map]; exact h), List.getElem_map]
theorem pennies_len (o r : List Int) : ∀ m, (pennies m (o, r)).1.length = o.length ∧ (pennies m (o, r)).2.length = r.length
  | 0 => ⟨rfl, rfl⟩
  | m + 1 => by
    have h := pennies_len o r m
    show (pennyStep _).1.length = _ ∧ (pennyStep _).2.length = _
    unfold pennyStep
    dsimp only
    rw [List.length_set, List.length_set]
    exact h
theorem pennies_bd {o r : List Int} {B : Int} (h0 : ∀ k, 0 ≤ o.getD k 0 ∧ o.getD k 0 ≤ B) : ∀ (m k : Nat), 0 ≤ (pennies m (o, r)).1.getD k 0 ∧ (pennies m (o, r)).1.getD k 0 ≤ B + m
  | 0, k => by have := h0 k; show 0 ≤ o.getD k 0 ∧ o.getD k 0 ≤ B + ((0 : Nat) : Int); omega
  | m + 1, k => by
    have h := pennies_bd (r := r) h0 m
    show 0 ≤ (pennyStep _).1.getD k 0 ∧ (pennyStep _).1.getD k 0 ≤ B + ((m + 1 : Nat) : Int)
    unfold pennyStep
    dsimp only
    rw [List.getD_eq_getElem?_getD, List.getElem?_set]
    have h1 := h (bestAt (pennies m (o, r)).2)
    have h2 := h k
    rw [List.getD_eq_getElem?_getD] at h2
    split
    · split
      · simp only [Option.getD_some]; omega
      · show (0 : Int) ≤ 0 ∧ (0 : Int) ≤ _; omega
    · omega
theorem floor_small {s A : Int} {l : List Int} (hs0 : 0 ≤ s) (hs1 : s ≤ 1000000000) (hA : 0 < A) (hl : ∀ x ∈ l, 0 ≤ x ∧ x ≤ 1000000) (k : Nat) : 0 ≤ (floors s A l).getD k 0 ∧ (floors s A l).getD k 0 ≤ 1000000000000000 := by
  rcases Nat.lt_or_ge k l.length with h | h
  · rw [floors_at h, getD_at h]
    have hx := hl _ (List.getElem_mem h)
    have p0 : 0 ≤ s * l[k] := Int.mul_nonneg hs0 hx.1
    have p1 : s * l[k] ≤ 1000000000 * 1000000 := Int.mul_le_mul hs1 hx.2 hx.1 (by decide)
    have p2 : s * l[k] / A ≤ s * l[k] := Int.ediv_le_self A p0
    exact ⟨Int.ediv_nonneg p0 (by omega), by omega⟩
  · rw [List.getD_eq_getElem?_getD, List.getElem?_eq_none (by unfold floors; rw [List.length_map]; exact h)]
    exact ⟨Int.le_refl _, by decide⟩
section
variable (w : World)
set_option maxRecDepth 100000 in
set_option maxHeartbeats 8000000 in
theorem refShare_any (a : Option Addr) (n c : Nat) (s : Int) (l : List Int) (hs : Sx 1 w a n c (L1 l)) (hn : n ≤ 60) (hs0 : 0 ≤ s) (hs1 : s ≤ 1000000000) (hl : ∀ x ∈ l, 0 ≤ x ∧ x ≤ 1000000) (hA : 0 < lsum l) :
    Calls Try.prog 14 #[.int .i64 s, .slice a n c] w (RetRow w 3 1 n (L1 (pennies (lack s l).toNat (floors s (lsum l) l, rests s (lsum l) l)).1)) := by
  obtain rfl := hs.n1
  have HS := Lib.hid hs
  have HL := Lib.hid hl
  have hpos : 0 < l.length := by
    rcases Nat.eq_zero_or_pos l.length with h | h
    · rw [List.length_eq_zero_iff.1 h, lsum_nil] at hA; omega
    · exact h
  have HBD := Lib.hid (show ∀ k, 0 ≤ lsum (l.take k) ∧ lsum (l.take k) ≤ 60000000 from fun k => by
    have h1 := lsum_ge (l := l.take k) (B := 0) fun x hx => (hl x (List.mem_of_mem_take hx)).1
    have h2 := lsum_le (l := l.take k) (B := 1000000) fun x hx => (hl x (List.mem_of_mem_take hx)).2
    rw [List.length_take] at h1 h2
    omega)
  have hA2 : lsum l ≤ 60000000 := by have := (HBD.out l.length).2; rwa [List.take_length] at this
  have HFS := Lib.hid (fun k => floor_small (s := s) (A := lsum l) (l := l) hs0 hs1 hA hl k)
  have HLK := Lib.hid (lack_bd (s := s) (parts := l) hA)
  have HLD := Lib.hid (show lack s l = s - lsum (floors s (lsum l) l) from rfl)
  have HSU := Lib.hid (fun k (hk : k < l.length) => show lsum (l.take (k + 1)) = lsum (l.take k) + l[k] from by rw [List.take_succ_eq_append_getElem hk, lsum_snoc])
  obtain ⟨ans, hans⟩ : ∃ ans, (pennies (lack s l).toNat (floors s (lsum l) l, rests s (lsum l) l)).1 = ans := ⟨_, rfl⟩
  rw [hans]
  have HANS := Lib.hid hans
  clear hs hl hans
  go_enter Try.func14, Try.ntmps14
  go_wp2
  go_loopw [5, 6] (fun av iv wr => ∃ k : Nat, k ≤ l.length ∧ av = .int .i64 (lsum (l.take k)) ∧ iv = .int .i64 k ∧ Hid (Sy w wr [] [] [])) (fun _ iv _ => l.length - (intOf iv).toNat)
  case atStart => exact ⟨0, Nat.zero_le _, by simp [lsum_nil], rfl, Lib.hid (Sy.enter w)⟩
  case round =>
    obtain ⟨k, hk, rfl, rfl, hS⟩ := hrel
    by_cases hlt : k < l.length
    · obtain ⟨g, o, rfl⟩ := HS.out.addr (by omega)
      have x0 := (hS.out.sx HS.out).at1 hlt
      have HE := Lib.hid (HSU.out k hlt)
      have h1 := HBD.out k
      have h2 := HBD.out (k + 1)
      rw [HE.out] at h2
      generalize l[k] = x at *
      generalize lsum (l.take k) = S at *
      go_wp2
      go_roundw
      case rel => exact ⟨k + 1, by omega, by rw [HE.out], by go_num, hS⟩
      case measure => simp [intOf]; omega
    · obtain rfl : k = l.length := by omega
      have ht : l.take l.length = l := List.take_length
      rw [ht]
      obtain ⟨A, hAA⟩ : ∃ A, lsum l = A := ⟨_, rfl⟩
      rw [hAA] at hA hA2 HFS HLD HANS ⊢
      have HAA := Lib.hid hAA
      clear ht hAA
      have hA0 : ¬ A = 0 := by omega
      go_wp2
      go_loopw [7, 8, 9, 10] (fun ov rv mv iv wr => ∃ (k : Nat) (a1 : Option Addr) (c1 : Nat) (a2 : Option Addr) (c2 : Nat), k ≤ l.length ∧ ov = .slice a1 k c1 ∧ rv = .slice a2 k c2 ∧ mv = .int .i64 (s - lsum ((floors s A l).take k)) ∧ iv = .int .i64 k ∧
        Hid (Sy w wr [] [⟨.slice a1 k c1, 3, 1, k, L1 ((floors s A l).take k)⟩, ⟨.slice a2 k c2, 3, 1, k, L1 ((rests s A l).take k)⟩] [])) (fun _ _ _ iv _ => l.length - (intOf iv).toNat)
      case atStart => exact ⟨0, none, 0, none, 0, Nat.zero_le _, rfl, rfl, by simp [lsum_nil], rfl, Lib.hid ((hS.out.onil _ 1).onil _ 1)⟩
      case round =>
        obtain ⟨k, a1, c1, a2, c2, hk, rfl, rfl, rfl, rfl, hS⟩ := hrel
        by_cases hlt : k < l.length
        · obtain ⟨g, o, rfl⟩ := HS.out.addr (by omega)
          have x0 := (hS.out.sx HS.out).at1 hlt
          have HXC := Lib.hid (show ∀ W bs os rs, Sy w W bs os rs → W.cell? ⟨g, o + k, none⟩ = some (.int .i64 l[k]) from fun _ _ _ _ h => (h.sx HS.out).at1 hlt)
          have HFT := Lib.hid (floors_take s A l k hlt)
          have HRT := Lib.hid (rests_take s A l k hlt)
          have hx := HL.out _ (List.getElem_mem hlt)
          have HFB := Lib.hid (show ∀ m, 0 ≤ lsum ((floors s A l).take m) ∧ lsum ((floors s A l).take m) ≤ 60 * 1000000000000000 from fun m => by
            have hf : ∀ y ∈ (floors s A l).take m, 0 ≤ y ∧ y ≤ 1000000000000000 := fun y hy => by
              obtain ⟨i, hi, rfl⟩ := List.getElem_of_mem (List.mem_of_mem_take hy)
              have := HFS.out i
              rwa [getD_at hi] at this
            have h1 := lsum_ge (B := 0) fun y hy => (hf y hy).1
            have h2 := lsum_le (B := 1000000000000000) fun y hy => (hf y hy).2
            rw [List.length_take] at h1 h2
            have : (floors s A l).length = l.length := by simp [floors]
            omega)
          have HLS := Lib.hid (show lsum ((floors s A l).take (k + 1)) = lsum ((floors s A l).take k) + s * l[k] / A from by rw [HFT.out, lsum_snoc])
          have hb1 := HFB.out k
          have hb2 := HFB.out (k + 1)
          rw [HLS.out] at hb2
          generalize l[k] = x at *
          have p0 : 0 ≤ s * x := Int.mul_nonneg hs0 hx.1
          have p1 : s * x ≤ 1000000000 * 1000000 := Int.mul_le_mul hs1 hx.2 hx.1 (by decide)
          have ed : (s * x).tdiv A = s * x / A := Int.tdiv_eq_ediv_of_nonneg p0
          have em : (s * x).tmod A = s * x % A := Int.tmod_eq_emod_of_nonneg p0
          have wp : IntKind.i64.wrap (s * x) = s * x := IntWalk.i64_in _ (by omega)
          have hd0 : 0 ≤ s * x / A := Int.ediv_nonneg p0 (by omega)
          have hd1 : s * x / A ≤ s * x := Int.ediv_le_self A p0
          have hm0 := Int.emod_nonneg (s * x) hA0
          have hm1 := Int.emod_lt_of_pos (s * x) hA
          have wd : IntKind.i64.wrap (s * x / A) = s * x / A := IntWalk.i64_in _ (by omega)
          have wm : IntKind.i64.wrap (s * x % A) = s * x % A := IntWalk.i64_in _ (by omega)
          obtain ⟨F, hF⟩ : ∃ F, lsum ((floors s A l).take k) = F := ⟨_, rfl⟩
          rw [hF] at HLS hb1 hb2 ⊢
          clear hF
          have ws : IntKind.i64.wrap (s - F - s * x / A) = s - F - s * x / A := IntWalk.i64_in _ (by omega)
          go_upto_region 12 with (refine wpList_append_sy (o := ⟨some 42, _, _, _, _, _⟩) rfl (hS.out.onew wr.heap.size #[.int .i64 (s * x / A)] 3 1 1 rfl (by omega) rfl) 0 2 rfl rfl _ _ _ rfl und_int info_int rfl (by omega) rfl rfl (by intro u hu; simp at hu; rcases hu with rfl; rfl) (by omega) (by omega) ?_; intro a3 c3 V hV; have hT := Lib.hid (hV.thin (List.Sublist.refl _) (List.Sublist.cons_cons _ (List.Sublist.cons_cons _ (List.nil_sublist _)))); clear hV)
          clear hS x0
          have x0 := HXC.out _ _ _ _ hT.out
          go_upto_region 13 with (refine wpList_append_sy (o := ⟨some 53, _, _, _, _, _⟩) rfl (hT.out.onew V.heap.size #[.int .i64 (s * x % A)] 3 1 1 rfl (by omega) rfl) 1 2 rfl rfl _ _ _ rfl und_int info_int rfl (by omega) rfl rfl (by intro u hu; simp at hu; rcases hu with rfl; rfl) (by omega) (by omega) ?_; intro a4 c4 V4 hV; have hU := Lib.hid (hV.thin (List.Sublist.refl _) (List.Sublist.cons_cons _ (List.Sublist.cons_cons _ (List.nil_sublist _)))); clear hV)
          obtain ⟨g3, rfl, h3c⟩ := hU.out.oaddr 0 rfl (by omega)
          have y0 : V4.cell? ⟨g3, k, none⟩ = some (.int .i64 (s * x / A)) := hU.out.rcell 0 rfl (by
            have hll : (L1 ((floors s A l).take k)).length = k := by
              have : (floors s A l).length = l.length := by simp [floors]
              unfold L1; rw [List.length_map, List.length_take]; omega
            rw [List.getElem?_append_right (by omega), hll, Nat.sub_self]; rfl)
          clear hT x0
          go_wp2
          go_roundw
          case rel =>
            refine ⟨k + 1, some ⟨g3, 0, none⟩, c3, a4, c4, by omega, rfl, rfl, by rw [HLS.out]; congr 1; omega, by go_num, ?_⟩
            rw [HFT.out, HRT.out, L1_append, L1_append]
            exact hU
          case measure => simp [intOf]; omega
        · obtain rfl : k = l.length := by omega
          have ht1 : (floors s A l).take l.length = floors s A l := List.take_of_length_le (by simp [floors])
          have ht2 : (rests s A l).take l.length = rests s A l := List.take_of_length_le (by simp [rests])
          rw [ht1, ht2] at hS
          rw [ht1]
          clear ht1 ht2
          obtain ⟨g1, rfl, h1c⟩ := hS.out.oaddr 0 rfl hpos
          obtain ⟨g2, rfl, h2c⟩ := hS.out.oaddr 1 rfl hpos
          have HFL := Lib.hid (show (floors s A l).length = l.length ∧ (rests s A l).length = l.length from by simp [floors, rests])
          have hlk := HLK.out
          rw [HLD.out] at hlk
          obtain ⟨mi, hmi⟩ : ∃ m, s - lsum (floors s A l) = m := ⟨_, rfl⟩
          rw [hmi] at hlk ⊢
          have HMI := Lib.hid (show lack s l = mi from by rw [HLD.out]; exact hmi)
          clear hmi HLK
          obtain ⟨F, hF⟩ : ∃ F, floors s A l = F := ⟨_, rfl⟩
          obtain ⟨T, hT⟩ : ∃ T, rests s A l = T := ⟨_, rfl⟩
          rw [HMI.out, hF, hT] at HANS
          rw [hF, hT] at HFL hS
          rw [hF] at HFS
          clear hF hT HLD HMI
          obtain ⟨M, rfl⟩ : ∃ M : Nat, mi = M := ⟨mi.toNat, by omega⟩
          have hM : M < l.length := by omega
          rw [Int.toNat_natCast] at HANS
          clear hlk
          go_wp2
          go_loopw [9] (fun mv wr => ∃ (m : Nat) (O R : List Int), m ≤ M ∧ mv = .int .i64 ((M : Int) - m) ∧ Hid (pennies m (F, T) = (O, R)) ∧
            Hid (Sy w wr [] [⟨.slice (some ⟨g1, 0, none⟩) l.length c1, 3, 1, l.length, L1 O⟩, ⟨.slice (some ⟨g2, 0, none⟩) l.length c2, 3, 1, l.length, L1 R⟩] [])) (fun mv _ => (intOf mv).toNat)
          case atStart => exact ⟨0, F, T, Nat.zero_le _, by simp, Lib.hid rfl, hS⟩
          case round =>
            clear hS
            obtain ⟨m, O, R, hm, rfl, HP, hS⟩ := hrel
            by_cases hlt : m < M
            · have HPS := Lib.hid (show pennies (m + 1) (F, T) = (O.set (bestTo R R.length) (O.getD (bestTo R R.length) 0 + 1), R.set (bestTo R R.length) (-1)) from by rw [bestTo_all]; show pennyStep (pennies m (F, T)) = _; rw [HP.out]; rfl)
              have HLN := Lib.hid (show O.length = l.length ∧ R.length = l.length from by have h := pennies_len F T m; rw [HP.out] at h; exact ⟨h.1.trans HFL.out.1, h.2.trans HFL.out.2⟩)
              have HOB := Lib.hid (show ∀ k, 0 ≤ O.getD k 0 ∧ O.getD k 0 ≤ 1000000000000000 + m from fun k => by have h := pennies_bd (r := T) HFS.out m k; rw [HP.out] at h; exact h)
              go_wp2
              go_loopw [11, 12] (fun bv iv wr => ∃ i : Nat, i ≤ l.length ∧ bv = .int .i64 (bestTo R i : Int) ∧ iv = .int .i64 i ∧ Hid (Sy w wr [] [⟨.slice (some ⟨g1, 0, none⟩) l.length c1, 3, 1, l.length, L1 O⟩, ⟨.slice (some ⟨g2, 0, none⟩) l.length c2, 3, 1, l.length, L1 R⟩] [])) (fun _ iv _ => l.length - (intOf iv).toNat)
              case atStart => exact ⟨0, Nat.zero_le _, rfl, rfl, hS⟩
              case round =>
                clear hS
                obtain ⟨i, hi, rfl, rfl, hS⟩ := hrel
                by_cases hil : i < l.length
                · have hb : bestTo R i < l.length := by
                    rcases Nat.eq_zero_or_pos i with h | h
                    · rw [h]; exact hpos
                    · exact Nat.lt_trans (bestTo_lt R i h) hil
                  have HB := Lib.hid (bestTo_succ R i)
                  generalize bestTo R i = b at *
                  have x1 : wr.cell? ⟨g2, i, none⟩ = some (.int .i64 (R.getD i 0)) := hS.out.rcell 1 rfl (by unfold L1; rw [List.getElem?_map, List.getD_eq_getElem?_getD, List.getElem?_eq_getElem (by rw [HLN.out.2]; exact hil)]; rfl)
                  have x2 : wr.cell? ⟨g2, b, none⟩ = some (.int .i64 (R.getD b 0)) := hS.out.rcell 1 rfl (by unfold L1; rw [List.getElem?_map, List.getD_eq_getElem?_getD, List.getElem?_eq_getElem (by rw [HLN.out.2]; exact hb)]; rfl)
                  generalize R.getD i 0 = v at *
                  generalize R.getD b 0 = u at *
                  have hb0 : (0 : Int) ≤ (b : Int) := by omega
                  have hb1 : (b : Int) < (l.length : Int) := by omega
                  by_cases hgt : u < v
                  · have HG := Lib.hid hgt
                    have hgb : decide (v > u) = true := decide_eq_true hgt
                    go_upto_region 19 with fail
                    go_quiet (fail)
                    go_wp2
                    go_roundw
                    case rel => exact ⟨i + 1, by omega, by rw [HB.out, if_pos HG.out], by go_num, Lib.hid (hS.out.call (below_dN (Below.refl _ _) _))⟩
                    case measure => simp [intOf]; omega
                  · have HG := Lib.hid hgt
                    have hgb : decide (v > u) = false := decide_eq_false hgt
                    go_upto_region 19 with fail
                    go_quiet (fail)
                    go_wp2
                    go_roundw
                    case rel => exact ⟨i + 1, by omega, by rw [HB.out, if_neg HG.out], by go_num, Lib.hid (hS.out.call (below_dN (Below.refl _ _) _))⟩
                    case measure => simp [intOf]; omega
                · obtain rfl : i = l.length := by omega
                  rw [HLN.out.2] at HPS
                  have hb : bestTo R l.length < l.length := bestTo_lt R _ hpos
                  generalize bestTo R l.length = b at *
                  have y0 : wr.cell? ⟨g1, b, none⟩ = some (.int .i64 (O.getD b 0)) := hS.out.rcell 0 rfl (by unfold L1; rw [List.getElem?_map, List.getD_eq_getElem?_getD, List.getElem?_eq_getElem (by rw [HLN.out.1]; exact hb)]; rfl)
                  have y1 : wr.frozen? ⟨g1, b, none⟩ = false := hS.out.rfree 0 rfl _
                  have hv := HOB.out b
                  generalize O.getD b 0 = v at *
                  have hb0 : (0 : Int) ≤ (b : Int) := by omega
                  have hb1 : (b : Int) < (l.length : Int) := by omega
                  have wv : IntKind.i64.wrap (v + 1) = v + 1 := by rw [IntKind.wrap_i64]; omega
                  have hS2 := Lib.hid (hS.out.ostore 0 rfl b (.int .i64 (v + 1)))
                  clear hS
                  go_upto_region 22 with fail
                  refine wp_geny hS2.out ?_
                  intro W9 hc
                  rw [show (L1 O).set b (.int .i64 (v + 1)) = L1 (O.set b (v + 1)) from by unfold L1; rw [List.map_set]] at hc
                  have hV : Hid (Sy w W9 [] [⟨.slice (some ⟨g1, 0, none⟩) l.length c1, 3, 1, l.length, L1 (O.set b (v + 1))⟩, ⟨.slice (some ⟨g2, 0, none⟩) l.length c2, 3, 1, l.length, L1 R⟩] []) := Lib.hid hc
                  clear hc hS2 y0 y1
                  have y0 : W9.cell? ⟨g2, b, none⟩ = some (.int .i64 (R.getD b 0)) := hV.out.rcell 1 rfl (by unfold L1; rw [List.getElem?_map, List.getD_eq_getElem?_getD, List.getElem?_eq_getElem (by rw [HLN.out.2]; exact hb)]; rfl)
                  generalize R.getD b 0 = u at *
                  have y1 : W9.frozen? ⟨g2, b, none⟩ = false := hV.out.rfree 1 rfl _
                  have hW := Lib.hid (hV.out.ostore 1 rfl b (.int .i64 (-1)))
                  clear hV
                  have wm : IntKind.i64.wrap ((M : Int) - m - 1) = (M : Int) - m - 1 := by rw [IntKind.wrap_i64]; omega
                  go_wp2
                  go_roundw
                  case rel =>
                    refine ⟨m + 1, O.set b (v + 1), R.set b (-1), by omega, by congr 1; omega, HPS, ?_⟩
                    have h := hW.out
                    change Sy w _ [] [_, ⟨_, _, _, _, (L1 R).set b (.int .i64 (-1))⟩] [] at h
                    rw [show (L1 R).set b (.int .i64 (-1)) = L1 (R.set b (-1)) from by unfold L1; rw [List.map_set]] at h
                    exact Lib.hid h
                  case measure => simp [intOf]; omega
            · obtain rfl : m = M := by omega
              rw [HP.out] at HANS
              have HAN := Lib.hid (show O = ans from HANS.out)
              have hz : (m : Int) - m = 0 := by omega
              go_wp2
              go_ret
              refine ⟨some ⟨g1, 0, none⟩, c1, rfl, ?_, hS.out.be⟩
              have h := hS.out.gives 0 rfl
              rw [HAN.out] at h
              exact h
end
end Go.Proofs.Yteogibpmpppgmaa

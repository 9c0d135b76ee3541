/- gang.Allot -/
import Derived.Test.YtchignmnnbepnaaGreatJ39
import Derived.Test.YtchignmnnbepnaaGreatJ7
namespace Go.Proofs.YtchignmnnbepnaaGreat
open Go.RowKit

def takenTo (l : List I2) (nums : List Int) (i k m : Nat) : Bool := (List.range k).any fun j => decide (nums.getD j (-1) = (m : Int)) && meetsB (at0 l j) (at0 l i)
theorem takenTo_succ (l : List I2) (nums : List Int) (i k m : Nat) : takenTo l nums i (k + 1) m = (takenTo l nums i k m || (decide (nums.getD k (-1) = (m : Int)) && meetsB (at0 l k) (at0 l i))) := by
  unfold takenTo
  rw [List.range_succ, List.any_append]
  simp
def takenL (l : List I2) (nums : List Int) (i k : Nat) : List Bool := (List.range 61).map (takenTo l nums i k)
theorem takenL_zero (l : List I2) (nums : List Int) (i : Nat) : LB (takenL l nums i 0) = List.replicate 61 (.bool false) := by
  unfold LB takenL takenTo
  refine List.ext_getElem (by simp) fun i h1 h2 => ?_
  rw [List.getElem_map, List.getElem_map, List.getElem_replicate]
  rfl
theorem takenL_skip {l : List I2} {nums : List Int} {i k : Nat} (h : ∀ m : Nat, (decide (nums.getD k (-1) = (m : Int)) && meetsB (at0 l k) (at0 l i)) = false) : takenL l nums i (k + 1) = takenL l nums i k := by
  unfold takenL
  refine List.map_congr_left fun m _ => ?_
  rw [takenTo_succ, h m, Bool.or_false]
theorem takenL_mark {l : List I2} {nums : List Int} {i k m : Nat} (h1 : nums.getD k (-1) = (m : Int)) (h2 : meetsB (at0 l k) (at0 l i) = true) : takenL l nums i (k + 1) = (takenL l nums i k).set m true := by
  unfold takenL
  refine List.ext_getElem (by simp) fun j hj1 hj2 => ?_
  rw [List.getElem_map, List.getElem_range, List.getElem_set, takenTo_succ, h1, h2]
  by_cases e : m = j
  · rw [if_pos e, e]; simp
  · rw [if_neg e, List.getElem_map, List.getElem_range, decide_eq_false (by omega)]; simp
theorem takenL_len (l : List I2) (nums : List Int) (i k : Nat) : (takenL l nums i k).length = 61 := by simp [takenL]
theorem takenL_at {l : List I2} {nums : List Int} {i k m : Nat} (hm : m < 61) : (takenL l nums i k).getD m true = takenTo l nums i k m := by
  unfold takenL
  rw [List.getD_eq_getElem?_getD, List.getElem?_map, List.getElem?_range hm]; rfl
theorem getD_set_any {l : List Int} {i k : Nat} {x d : Int} : (l.set i x).getD k d = if i = k ∧ i < l.length then x else l.getD k d := by
  rw [List.getD_eq_getElem?_getD, List.getElem?_set]
  by_cases e : i = k
  · subst e
    by_cases h : i < l.length
    · rw [if_pos rfl, if_pos h, if_pos ⟨rfl, h⟩]; rfl
    · rw [if_pos rfl, if_neg h, if_neg (fun h2 => h h2.2), List.getD_eq_getElem?_getD, List.getElem?_eq_none (by omega)]
  · rw [if_neg e, if_neg (fun h2 => e h2.1), List.getD_eq_getElem?_getD]
theorem allot_range (l : List I2) : ∀ (P : List Nat) (s : List Int × Int × Int), (∀ k, -1 ≤ s.1.getD k (-1) ∧ s.1.getD k (-1) ≤ l.length) → (0 ≤ s.2.1 ∧ s.2.1 ≤ l.length + 1) → (∀ k, -1 ≤ (P.foldl (allotStep l) s).1.getD k (-1) ∧ (P.foldl (allotStep l) s).1.getD k (-1) ≤ l.length) ∧ 0 ≤ (P.foldl (allotStep l) s).2.1 ∧ (P.foldl (allotStep l) s).2.1 ≤ l.length + 1
  | [], s, h, h2 => ⟨h, h2⟩
  | i :: P, s, h, h2 => by
    rw [List.foldl_cons]
    have hn := (numFor_spec (l := l) s.1 i).2.2
    refine allot_range l P _ (fun k => ?_) ?_
    · unfold allotStep
      dsimp only
      rw [getD_set_any]
      split
      · omega
      · exact h k
    · unfold allotStep
      dsimp only
      split
      · omega
      · exact h2
theorem allot_small (l : List I2) (P : List Nat) : (∀ k, -1 ≤ (allotRun l P).1.getD k (-1) ∧ (allotRun l P).1.getD k (-1) ≤ l.length) ∧ 0 ≤ (allotRun l P).2.1 ∧ (allotRun l P).2.1 ≤ l.length + 1 :=
  allot_range l P _ (fun k => by
    rw [List.getD_eq_getElem?_getD, List.getElem?_replicate]
    split
    · exact ⟨Int.le_refl _, by show (-1 : Int) ≤ _; omega⟩
    · exact ⟨Int.le_refl _, by show (-1 : Int) ≤ _; omega⟩) ⟨Int.le_refl _, by show (0 : Int) ≤ _; omega⟩
theorem uses_good {l : List I2} (h : usesBad l = false) : l.length ≤ 60 ∧ ∀ u ∈ l, goodUse u := by
  unfold usesBad at h
  rw [Bool.or_eq_false_iff, decide_eq_false_iff_not] at h
  refine ⟨by omega, fun u hu => ?_⟩
  have := List.any_eq_false.1 h.2 u hu
  unfold badUse at this
  simp only [Bool.or_eq_true, decide_eq_true_eq, not_or] at this
  unfold goodUse
  omega
theorem results_tmp4 {fn : Func} {t u v x : Tmp} (h : fn.results = #[.tmp t, .tmp u, .tmp v, .tmp x]) (tmps : Array Value) (P : Program) (w : World) :
    (results fn tmps).run P w = .ok (.tuple #[tmps.getD t undef, tmps.getD u undef, tmps.getD v undef, tmps.getD x undef]) w := by
  simp [results, h]
section
variable (w : World)
def RetAllot (w : World) (l : List I2) (e : Ending) (w' : World) : Prop := ∃ (order : List Nat) (a : Option Addr) (c : Nat), InOrder l order ∧ e = .returned (.tuple #[.slice a l.length c, .int .i64 (allotRun l order).2.1, .int .i64 (allotRun l order).2.2, .int .i64 0]) ∧
  w'.ownsRow w.heap.size 3 1 (.slice a l.length c) l.length (L1 (allotRun l order).1) ∧ Below w.heap.size w w'
set_option maxRecDepth 100000 in
set_option maxHeartbeats 8000000 in
theorem allot_ok (a : Option Addr) (n c : Nat) (l : List I2) (hs : Sx 2 w a n c (L2 l)) (hb : usesBad l = false) (hpos : 0 < l.length) (hso : SortsUses l) : Calls Tryz.prog 25 #[.slice a n c] w (RetAllot w l) := by
  obtain rfl := hs.n2
  obtain ⟨h60, hg⟩ := uses_good hb
  obtain ⟨g0, o0, rfl⟩ := hs.addr hpos
  have HW := Lib.hid (fun W (hW : Below w.heap.size w W) => wrongUses_any W (some ⟨g0, o0, none⟩) l.length c l (hs.below hW))
  rw [hb] at HW
  have HS := Lib.hid hs
  have HSO : Hid (SortsUses l) := Lib.hid (p := SortsUses l) @hso
  have HG := Lib.hid hg
  clear hs hb hso hg
  have hC := Lib.hid ((Sy.enter w).al w.heap.size #[.slice (some ⟨g0, o0, none⟩) l.length c] 84 rfl)
  go_enter Tryz.func25, Tryz.ntmps25
  go_wp2_with fail
  refine (HW.out _ hC.out.be).mono ?_
  rintro e w1 ⟨rfl, hb⟩
  have hD : Hid (Sy w w1 [(w.heap.size, #[.slice (some ⟨g0, o0, none⟩) l.length c], 84)] [] []) := Lib.hid (hC.out.call hb)
  clear hb hC HW
  have b0 := hD.out.cell 0 0 rfl rfl
  generalize w.heap.size = bL at hD b0 ⊢
  go_wp2
  go_loopw [2, 6, 17] (fun nv ov iv wr => ∃ (k : Nat) (a1 : Option Addr) (c1 : Nat) (a2 : Option Addr) (c2 : Nat), k ≤ l.length ∧ ov = .slice a1 k c1 ∧ nv = .slice a2 k c2 ∧ iv = .int .i64 k ∧
    Hid (Sy w wr [(bL, #[.slice (some ⟨g0, o0, none⟩) l.length c], 84)] [⟨.slice a1 k c1, 3, 1, k, L1 (idxs (List.range k))⟩, ⟨.slice a2 k c2, 3, 1, k, L1 (List.replicate k (-1))⟩] [])) (fun _ _ iv _ => l.length - (intOf iv).toNat)
  case atStart => exact ⟨0, none, 0, none, 0, Nat.zero_le _, rfl, rfl, rfl, Lib.hid ((hD.out.onil _ 1).onil _ 1)⟩
  case round =>
    clear b0 hD
    obtain ⟨k, a1, c1, a2, c2, hk, rfl, rfl, rfl, hS⟩ := hrel
    by_cases hlt : k < l.length
    · have HR := Lib.hid (idxs_range k)
      have HP := Lib.hid (show List.replicate (k + 1) (-1 : Int) = List.replicate k (-1) ++ [-1] from List.replicate_succ')
      go_upto_region 8 with (refine wpList_append_sy (o := ⟨some 23, _, _, _, _, _⟩) rfl (hS.out.onew wr.heap.size #[.int .i64 (k : Int)] 3 1 1 rfl (by omega) rfl) 0 2 rfl rfl _ _ _ rfl und_int info_int rfl (by omega) rfl rfl (by intro u hu; simp at hu; rcases hu with rfl; rfl) (by omega) (by omega) ?_; intro a3 c3 V hV; have hT := Lib.hid (hV.thin (List.Sublist.refl _) (List.Sublist.cons_cons _ (List.Sublist.cons_cons _ (List.nil_sublist _)))); clear hV)
      clear hS
      go_wp2_with (refine wpList_append_sy (o := ⟨some 26, _, _, _, _, _⟩) rfl (hT.out.onew V.heap.size #[.int .i64 (-1)] 3 1 1 rfl (by omega) rfl) 1 2 rfl rfl _ _ _ rfl und_int info_int rfl (by omega) rfl rfl (by intro u hu; simp at hu; rcases hu with rfl; rfl) (by omega) (by omega) ?_; intro a4 c4 V4 hV; have hU := Lib.hid (hV.thin (List.Sublist.refl _) (List.Sublist.cons_cons _ (List.Sublist.cons_cons _ (List.nil_sublist _)))); clear hV)
      go_roundw
      case rel =>
        refine ⟨k + 1, a3, c3, a4, c4, by omega, rfl, rfl, by go_num, ?_⟩
        rw [HR.out, HP.out, L1_append, L1_append]
        exact hU
      case measure => simp [intOf]; omega
    · obtain rfl : k = l.length := by omega
      obtain ⟨g1, rfl, h1c⟩ := hS.out.oaddr 0 rfl hpos
      obtain ⟨g2, rfl, h2c⟩ := hS.out.oaddr 1 rfl hpos
      have HC := Lib.hid (HSO.out hS.out 0 (c := c) (b0 := bL) rfl HS.out rfl)
      go_wp2_with fail
      refine HC.out.mono ?_
      rintro e W1 ⟨rfl, order, ho, hS1⟩
      have hT : Hid (Sy w W1 [(bL, #[.slice (some ⟨g0, o0, none⟩) l.length c], 84)] [⟨.slice (some ⟨g1, 0, none⟩) l.length c1, 3, 1, l.length, L1 (idxs order)⟩, ⟨.slice (some ⟨g2, 0, none⟩) l.length c2, 3, 1, l.length, L1 (List.replicate l.length (-1))⟩] []) := Lib.hid hS1
      have HO := Lib.hid ho
      have hol : order.length = l.length := by rw [ho.1.length_eq, List.length_range]
      clear hS1 hS HC ho
      go_wp2
      go_loopw [3, 4, 33] (fun nv dv tv wr => ∃ (t : Nat) (nn dd : Int) (NS : List Int), t ≤ l.length ∧ nv = .int .i64 nn ∧ dv = .int .i64 dd ∧ tv = .int .i64 t ∧ Hid (allotRun l (order.take t) = (NS, nn, dd)) ∧
        Hid (Sy w wr [(bL, #[.slice (some ⟨g0, o0, none⟩) l.length c], 84)] [⟨.slice (some ⟨g1, 0, none⟩) l.length c1, 3, 1, l.length, L1 (idxs order)⟩, ⟨.slice (some ⟨g2, 0, none⟩) l.length c2, 3, 1, l.length, L1 NS⟩] [])) (fun _ _ tv _ => l.length - (intOf tv).toNat)
      case atStart => exact ⟨0, 0, 0, _, Nat.zero_le _, rfl, rfl, rfl, Lib.hid rfl, hT⟩
      case round =>
        clear hT
        obtain ⟨t, nn, dd, NS, ht, rfl, rfl, rfl, hR, hS⟩ := hrel
        by_cases hlt : t < l.length
        · have hto : t < order.length := by omega
          have hi : order[t] < l.length := by
            have := (HO.out.1.mem_iff (a := order[t])).1 (List.getElem_mem hto)
            simpa using this
          have HAS := Lib.hid (show allotRun l (order.take (t + 1)) = allotStep l (NS, nn, dd) order[t] from by rw [List.take_succ_eq_append_getElem hto, allot_snoc, hR.out])
          have HSM := Lib.hid (show (∀ k, -1 ≤ NS.getD k (-1) ∧ NS.getD k (-1) ≤ l.length) ∧ 0 ≤ nn ∧ nn ≤ l.length + 1 from by have h := allot_small l (order.take t); rw [hR.out] at h; exact h)
          have hNS : NS.length = l.length := by have h := allot_len (l := l) (order.take t); rw [hR.out] at h; exact h
          have x0 : wr.cell? ⟨g1, t, none⟩ = some (.int .i64 (order[t] : Nat)) := by
            have h := (hS.out.osx 0 rfl).at1 (l := idxs order) (i := t) (by unfold idxs; rw [List.length_map]; exact hto)
            rw [Nat.zero_add] at h
            unfold idxs at h
            rw [List.getElem_map] at h
            exact h
          clear hR
          generalize order[t] = i at *
          have hC2 := Lib.hid (hS.out.al wr.heap.size (Array.replicate 61 (.bool false)) 125 rfl)
          clear hS
          have t0 : (0 : Int) ≤ (t : Int) := by omega
          have t1 : (t : Int) < (l.length : Int) := by omega
          go_upto_region 15 with fail
          refine wp_geny hC2.out ?_
          intro W2 hc
          have hT : Hid (Sy w W2 [(bL, #[.slice (some ⟨g0, o0, none⟩) l.length c], 84), (wr.heap.size, (LB (takenL l NS i 0)).toArray, 125)] [⟨.slice (some ⟨g1, 0, none⟩) l.length c1, 3, 1, l.length, L1 (idxs order)⟩, ⟨.slice (some ⟨g2, 0, none⟩) l.length c2, 3, 1, l.length, L1 NS⟩] []) := by
            rw [takenL_zero]
            exact Lib.hid hc
          clear hc hC2 x0
          generalize wr.heap.size = bT at *
          have hi0 : (0 : Int) ≤ (i : Int) := by omega
          have hi1 : (i : Int) < (l.length : Int) := by omega
          go_wp2
          go_loopw [39] (fun kv wr => ∃ k : Nat, k ≤ l.length ∧ kv = .int .i64 k ∧ Hid (Sy w wr [(bL, #[.slice (some ⟨g0, o0, none⟩) l.length c], 84), (bT, (LB (takenL l NS i k)).toArray, 125)] [⟨.slice (some ⟨g1, 0, none⟩) l.length c1, 3, 1, l.length, L1 (idxs order)⟩, ⟨.slice (some ⟨g2, 0, none⟩) l.length c2, 3, 1, l.length, L1 NS⟩] [])) (fun kv _ => l.length - (intOf kv).toNat)
          case atStart => exact ⟨0, Nat.zero_le _, rfl, hT⟩
          case round =>
            clear hT
            obtain ⟨k, hk, rfl, hS⟩ := hrel
            by_cases hlk : k < l.length
            · have hkn : k < NS.length := by omega
              have x0 : wr.cell? ⟨g2, k, none⟩ = some (.int .i64 (NS.getD k (-1))) := by
                have h := (hS.out.osx 1 rfl).at1 (l := NS) (i := k) hkn
                rw [Nat.zero_add] at h
                rw [h, List.getD_eq_getElem?_getD, List.getElem?_eq_getElem hkn]; rfl
              have HNK := Lib.hid (show ∃ m, NS.getD k (-1) = m from ⟨_, rfl⟩)
              have hmb := HSM.out.1 k
              obtain ⟨m, hm⟩ := HNK.out
              rw [hm] at x0 hmb
              have HM := Lib.hid hm
              clear hm HNK hkn
              have k0 : (0 : Int) ≤ (k : Int) := by omega
              have k1 : (k : Int) < (l.length : Int) := by omega
              by_cases hm0 : m < 0
              · have hm1 : m = -1 := by omega
                subst hm1
                have HSK := Lib.hid (show takenL l NS i (k + 1) = takenL l NS i k from takenL_skip fun m => by rw [HM.out, decide_eq_false (by omega), Bool.false_and])
                go_upto_region 18 with fail
                clear x0
                refine wp_region_held_drew (S := (fun w' => True)) (by kernel_rfl) trivial (fun hH => ?_)
                refine wpAnyH_geny (show Sy w _ [(bL, #[.slice (some ⟨g0, o0, none⟩) l.length c], 84), (bT, (LB (takenL l NS i k)).toArray, 125)] [⟨.slice (some ⟨g1, 0, none⟩) l.length c1, 3, 1, l.length, L1 (idxs order)⟩, ⟨.slice (some ⟨g2, 0, none⟩) l.length c2, 3, 1, l.length, L1 NS⟩] [] from hS.out.drew) hH ?_
                intro VA_0 hc hHA_0
                have hVA_0 := Lib.hid hc
                clear hc hH hS
                refine wpAnyH_take (i := 0) (oi := ⟨_, _, _, _, _, _⟩) (v := ?_) rfl (by kernel_rfl) (by kernel_rfl) (by kernel_rfl) (fun _ _ _ h => h) (Or.inl ⟨by rfl, ?_⟩) hHA_0 ?_
                rotate_left
                · intro wS hSw; (try dsimp only at hSw); go_simp; try with_reducible rfl
                try simp only [Act.put, List.setIfInBounds_toArray, List.set_cons_zero, List.set_cons_succ]
                refine wpAnyH_take (i := 1) (oi := ⟨_, _, _, _, _, _⟩) (v := ?_) rfl (by kernel_rfl) (by kernel_rfl) (by kernel_rfl) (fun _ _ _ h => h) (Or.inl ⟨by rfl, ?_⟩) hHA_0 ?_
                rotate_left
                · intro wS hSw; (try dsimp only at hSw); go_simp; try with_reducible rfl
                try simp only [Act.put, List.setIfInBounds_toArray, List.set_cons_zero, List.set_cons_succ]
                refine wpAnyH_take (i := 2) (oi := ⟨_, _, _, _, _, _⟩) (v := ?_) rfl (by kernel_rfl) (by kernel_rfl) (by kernel_rfl) (fun _ _ _ h => h) (Or.inl ⟨by rfl, ?_⟩) hHA_0 ?_
                rotate_left
                · intro wS hSw; (try dsimp only at hSw); go_simp; try with_reducible rfl
                try simp only [Act.put, List.setIfInBounds_toArray, List.set_cons_zero, List.set_cons_succ]
                refine wpAnyH_take (i := 3) (oi := ⟨_, _, _, _, _, _⟩) (v := undef) rfl (by kernel_rfl) (by kernel_rfl) (by kernel_rfl) (fun _ _ _ h => h) (Or.inr ⟨by rfl, rfl⟩) hHA_0 ?_
                try simp only [Act.put, List.setIfInBounds_toArray, List.set_cons_zero, List.set_cons_succ]
                refine wpAnyH_take (i := 4) (oi := ⟨_, _, _, _, _, _⟩) (v := undef) rfl (by kernel_rfl) (by kernel_rfl) (by kernel_rfl) (fun _ _ _ h => h) (Or.inr ⟨by rfl, rfl⟩) hHA_0 ?_
                try simp only [Act.put, List.setIfInBounds_toArray, List.set_cons_zero, List.set_cons_succ]
                refine wpAnyH_take (i := 5) (oi := ⟨_, _, _, _, _, _⟩) (v := undef) rfl (by kernel_rfl) (by kernel_rfl) (by kernel_rfl) (fun _ _ _ h => h) (Or.inr ⟨by rfl, rfl⟩) hHA_0 ?_
                try simp only [Act.put, List.setIfInBounds_toArray, List.set_cons_zero, List.set_cons_succ]
                refine wpAnyH_take (i := 6) (oi := ⟨_, _, _, _, _, _⟩) (v := undef) rfl (by kernel_rfl) (by kernel_rfl) (by kernel_rfl) (fun _ _ _ h => h) (Or.inr ⟨by rfl, rfl⟩) hHA_0 ?_
                try simp only [Act.put, List.setIfInBounds_toArray, List.set_cons_zero, List.set_cons_succ]
                refine wpAnyH_take (i := 7) (oi := ⟨_, _, _, _, _, _⟩) (v := undef) rfl (by kernel_rfl) (by kernel_rfl) (by kernel_rfl) (fun _ _ _ h => h) (Or.inr ⟨by rfl, rfl⟩) hHA_0 ?_
                try simp only [Act.put, List.setIfInBounds_toArray, List.set_cons_zero, List.set_cons_succ]
                refine wpAnyH_take (i := 8) (oi := ⟨_, _, _, _, _, _⟩) (v := undef) rfl (by kernel_rfl) (by kernel_rfl) (by kernel_rfl) (fun _ _ _ h => h) (Or.inr ⟨by rfl, rfl⟩) hHA_0 ?_
                try simp only [Act.put, List.setIfInBounds_toArray, List.set_cons_zero, List.set_cons_succ]
                refine wpAnyH_take (i := 9) (oi := ⟨_, _, _, _, _, _⟩) (v := undef) rfl (by kernel_rfl) (by kernel_rfl) (by kernel_rfl) (fun _ _ _ h => h) (Or.inr ⟨by rfl, rfl⟩) hHA_0 ?_
                try simp only [Act.put, List.setIfInBounds_toArray, List.set_cons_zero, List.set_cons_succ]
                refine wpAnyH_take (i := 10) (oi := ⟨_, _, _, _, _, _⟩) (v := undef) rfl (by kernel_rfl) (by kernel_rfl) (by kernel_rfl) (fun _ _ _ h => h) (Or.inr ⟨by rfl, rfl⟩) hHA_0 ?_
                try simp only [Act.put, List.setIfInBounds_toArray, List.set_cons_zero, List.set_cons_succ]
                refine wpAnyH_take (i := 11) (oi := ⟨_, _, _, _, _, _⟩) (v := undef) rfl (by kernel_rfl) (by kernel_rfl) (by kernel_rfl) (fun _ _ _ h => h) (Or.inr ⟨by rfl, rfl⟩) hHA_0 ?_
                try simp only [Act.put, List.setIfInBounds_toArray, List.set_cons_zero, List.set_cons_succ]
                refine wpAnyH_take (i := 12) (oi := ⟨_, _, _, _, _, _⟩) (v := ?_) rfl (by kernel_rfl) (by kernel_rfl) (by kernel_rfl) (fun _ _ _ h => h) (Or.inl ⟨by rfl, ?_⟩) hHA_0 ?_
                rotate_left
                · intro wS hSw; (try dsimp only at hSw); go_simp; try with_reducible rfl
                try simp only [Act.put, List.setIfInBounds_toArray, List.set_cons_zero, List.set_cons_succ]
                refine wpAnyH_done (by kernel_rfl) ?_ _
                go_wp2
                go_roundw
                case rel => exact ⟨k + 1, by omega, by go_num, by rw [HSK.out]; exact hVA_0⟩
                case measure => simp [intOf]; omega
              · obtain ⟨mm, rfl⟩ : ∃ mm : Nat, m = mm := ⟨m.toNat, by omega⟩
                have hm60 : mm < 61 := by omega
                have HLK := Lib.hid (fun W (hW : Below w.heap.size w W) => (HS.out.below hW).at2 hlk)
                have HLI := Lib.hid (fun W (hW : Below w.heap.size w W) => (HS.out.below hW).at2 hi)
                have HMT := Lib.hid (fun W => umeets_any W l[k] l[i])
                have HAT := Lib.hid (show meetsB (at0 l k) (at0 l i) = meetsB l[k] l[i] from by rw [at0_at hlk, at0_at hi])
                generalize l[k] = p at *
                generalize l[i] = q at *
                obtain ⟨p0, p1⟩ := p
                obtain ⟨q0, q1⟩ := q
                dsimp only at HLK HLI HMT
                have hm0' : (0 : Int) ≤ (mm : Int) := by omega
                have hm1' : (mm : Int) < 61 := by omega
                clear hm0 hmb
                go_upto_region 18 with fail
                clear x0
                refine wp_region_held_drew (S := (fun w' => w'.cell? ⟨bL, 0, none⟩ = some (.slice (some ⟨g0, o0, none⟩) l.length c) ∧ w'.cell? ⟨g0, o0 + k * 2, none⟩ = some (.int .i64 p0) ∧ w'.cell? ⟨g0, o0 + k * 2 + 1, none⟩ = some (.int .i64 p1) ∧ w'.cell? ⟨g0, o0 + i * 2, none⟩ = some (.int .i64 q0) ∧ w'.cell? ⟨g0, o0 + i * 2 + 1, none⟩ = some (.int .i64 q1) ∧ True)) (by kernel_rfl) ⟨hS.out.drew.cell 0 0 rfl rfl, (HLK.out _ hS.out.drew.be).1, (HLK.out _ hS.out.drew.be).2, (HLI.out _ hS.out.drew.be).1, (HLI.out _ hS.out.drew.be).2, trivial⟩ (fun hH => ?_)
                refine wpAnyH_geny (show Sy w _ [(bL, #[.slice (some ⟨g0, o0, none⟩) l.length c], 84), (bT, (LB (takenL l NS i k)).toArray, 125)] [⟨.slice (some ⟨g1, 0, none⟩) l.length c1, 3, 1, l.length, L1 (idxs order)⟩, ⟨.slice (some ⟨g2, 0, none⟩) l.length c2, 3, 1, l.length, L1 NS⟩] [] from hS.out.drew) hH ?_
                intro VB_0 hc hHB_0
                have hVB_0 := Lib.hid hc
                clear hc hH hS
                refine wpAnyH_take (i := 0) (oi := ⟨_, _, _, _, _, _⟩) (v := ?_) rfl (by kernel_rfl) (by kernel_rfl) (by kernel_rfl) (fun _ _ _ h => h) (Or.inl ⟨by rfl, ?_⟩) hHB_0 ?_
                rotate_left
                · intro wS hSw; (try dsimp only at hSw); go_simp; try with_reducible rfl
                try simp only [Act.put, List.setIfInBounds_toArray, List.set_cons_zero, List.set_cons_succ]
                refine wpAnyH_take (i := 1) (oi := ⟨_, _, _, _, _, _⟩) (v := ?_) rfl (by kernel_rfl) (by kernel_rfl) (by kernel_rfl) (fun _ _ _ h => h) (Or.inl ⟨by rfl, ?_⟩) hHB_0 ?_
                rotate_left
                · intro wS hSw; (try dsimp only at hSw); go_simp; try with_reducible rfl
                try simp only [Act.put, List.setIfInBounds_toArray, List.set_cons_zero, List.set_cons_succ]
                refine wpAnyH_take (i := 2) (oi := ⟨_, _, _, _, _, _⟩) (v := ?_) rfl (by kernel_rfl) (by kernel_rfl) (by kernel_rfl) (fun _ _ _ h => h) (Or.inl ⟨by rfl, ?_⟩) hHB_0 ?_
                rotate_left
                · intro wS hSw; (try dsimp only at hSw); go_simp; try with_reducible rfl
                try simp only [Act.put, List.setIfInBounds_toArray, List.set_cons_zero, List.set_cons_succ]
                refine wpAnyH_take (i := 3) (oi := ⟨_, _, _, _, _, _⟩) (v := ?_) rfl (by kernel_rfl) (by kernel_rfl) (by kernel_rfl) (fun _ _ _ h => h) (Or.inl ⟨by rfl, ?_⟩) hHB_0 ?_
                rotate_left
                · intro wS hSw; (try dsimp only at hSw); go_simp; try with_reducible rfl
                try simp only [Act.put, List.setIfInBounds_toArray, List.set_cons_zero, List.set_cons_succ]
                refine wpAnyH_take (i := 4) (oi := ⟨_, _, _, _, _, _⟩) (v := ?_) rfl (by kernel_rfl) (by kernel_rfl) (by kernel_rfl) (fun _ _ _ h => h) (Or.inl ⟨by rfl, ?_⟩) hHB_0 ?_
                rotate_left
                · intro wS hSw; (try dsimp only at hSw); go_simp; try with_reducible rfl
                try simp only [Act.put, List.setIfInBounds_toArray, List.set_cons_zero, List.set_cons_succ]
                refine wpAnyH_take (i := 5) (oi := ⟨_, _, _, _, _, _⟩) (v := ?_) rfl (by kernel_rfl) (by kernel_rfl) (by kernel_rfl) (fun _ _ _ h => h) (Or.inl ⟨by rfl, ?_⟩) hHB_0 ?_
                rotate_left
                · intro wS hSw; (try dsimp only at hSw); go_simp; try with_reducible rfl
                try simp only [Act.put, List.setIfInBounds_toArray, List.set_cons_zero, List.set_cons_succ]
                refine wpAnyH_take (i := 6) (oi := ⟨_, _, _, _, _, _⟩) (v := ?_) rfl (by kernel_rfl) (by kernel_rfl) (by kernel_rfl) (fun _ _ _ h => h) (Or.inl ⟨by rfl, ?_⟩) hHB_0 ?_
                rotate_left
                · intro wS hSw; (try dsimp only at hSw); go_simp; try with_reducible rfl
                try simp only [Act.put, List.setIfInBounds_toArray, List.set_cons_zero, List.set_cons_succ]
                refine wpAnyH_take (i := 7) (oi := ⟨_, _, _, _, _, _⟩) (v := ?_) rfl (by kernel_rfl) (by kernel_rfl) (by kernel_rfl) (fun _ _ _ h => h) (Or.inl ⟨by rfl, ?_⟩) hHB_0 ?_
                rotate_left
                · intro wS hSw; (try dsimp only at hSw); go_simp; try with_reducible rfl
                try simp only [Act.put, List.setIfInBounds_toArray, List.set_cons_zero, List.set_cons_succ]
                refine wpAnyH_take (i := 8) (oi := ⟨_, _, _, _, _, _⟩) (v := ?_) rfl (by kernel_rfl) (by kernel_rfl) (by kernel_rfl) (fun _ _ _ h => h) (Or.inl ⟨by rfl, ?_⟩) hHB_0 ?_
                rotate_left
                · intro wS hSw; (try dsimp only at hSw); go_simp; try with_reducible rfl
                try simp only [Act.put, List.setIfInBounds_toArray, List.set_cons_zero, List.set_cons_succ]
                refine wpAnyH_take (i := 9) (oi := ⟨_, _, _, _, _, _⟩) (v := ?_) rfl (by kernel_rfl) (by kernel_rfl) (by kernel_rfl) (fun _ _ _ h => h) (Or.inl ⟨by rfl, ?_⟩) hHB_0 ?_
                rotate_left
                · intro wS hSw; (try dsimp only at hSw); go_simp; try with_reducible rfl
                try simp only [Act.put, List.setIfInBounds_toArray, List.set_cons_zero, List.set_cons_succ]
                refine wpAnyH_take (i := 10) (oi := ⟨_, _, _, _, _, _⟩) (v := ?_) rfl (by kernel_rfl) (by kernel_rfl) (by kernel_rfl) (fun _ _ _ h => h) (Or.inl ⟨by rfl, ?_⟩) hHB_0 ?_
                rotate_left
                · intro wS hSw; (try dsimp only at hSw); go_simp; try with_reducible rfl
                try simp only [Act.put, List.setIfInBounds_toArray, List.set_cons_zero, List.set_cons_succ]
                refine wpAnyH_ready (rs := [11]) (by kernel_rfl) (by simp) ?_
                refine AllReadyH.cons (o := ⟨_, _, _, _, _, _⟩) rfl (fun Kq hKq => ?_) AllReadyH.nil
                go_simp
                go_at_call 58
                refine (HMT.out _).mono ?_
                rintro e wT ⟨rfl, hb⟩
                (try go_wp2_with fail)
                refine stepY hKq (show Sy w _ [(bL, #[.slice (some ⟨g0, o0, none⟩) l.length c], 84), (bT, (LB (takenL l NS i k)).toArray, 125)] [⟨.slice (some ⟨g1, 0, none⟩) l.length c1, 3, 1, l.length, L1 (idxs order)⟩, ⟨.slice (some ⟨g2, 0, none⟩) l.length c2, 3, 1, l.length, L1 NS⟩] [] from (hVB_0.out.call hb)) (fun _ hX => ⟨hX.cell 0 0 rfl rfl, (HLK.out _ hX.be).1, (HLK.out _ hX.be).2, (HLI.out _ hX.be).1, (HLI.out _ hX.be).2, trivial⟩) ?_
                intro VB_1 hc hHB_1
                have hVB_1 := Lib.hid hc
                clear hc hKq Kq hVB_0 hb hHB_0
                try simp only [Act.put, List.setIfInBounds_toArray, List.set_cons_zero, List.set_cons_succ]
                refine wpAnyH_take (i := 12) (oi := ⟨_, _, _, _, _, _⟩) (v := ?_) rfl (by kernel_rfl) (by kernel_rfl) (by kernel_rfl) (fun _ _ _ h => h) (Or.inl ⟨by rfl, ?_⟩) hHB_1 ?_
                rotate_left
                · intro wS hSw; (try dsimp only at hSw); go_simp; try with_reducible rfl
                try simp only [Act.put, List.setIfInBounds_toArray, List.set_cons_zero, List.set_cons_succ]
                refine wpAnyH_done (by kernel_rfl) ?_ _
                cases hmt : meetsB (p0, p1) (q0, q1)
                · have HSK := Lib.hid (show takenL l NS i (k + 1) = takenL l NS i k from takenL_skip fun m => by rw [HAT.out, hmt, Bool.and_false])
                  clear hmt
                  go_wp2
                  go_roundw
                  case rel => exact ⟨k + 1, by omega, by go_num, by rw [HSK.out]; exact hVB_1⟩
                  case measure => simp [intOf]; omega
                · have HSK := Lib.hid (show takenL l NS i (k + 1) = (takenL l NS i k).set mm true from takenL_mark HM.out (by rw [HAT.out, hmt]))
                  have cQ := hVB_1.out.cell 1 mm rfl (v := .bool ((takenL l NS i k).getD mm true)) (by unfold LB; rw [List.getElem?_toArray, List.getElem?_map, List.getD_eq_getElem?_getD, List.getElem?_eq_getElem (by rw [takenL_len]; exact hm60)]; rfl)
                  have fQ := hVB_1.out.free 1 mm rfl
                  have hU := Lib.hid (hVB_1.out.set 1 (j := mm) (v := .bool true) rfl)
                  clear hmt
                  go_wp2
                  go_roundw
                  case rel =>
                    refine ⟨k + 1, by omega, by go_num, ?_⟩
                    have h := hU.out
                    rw [List.setIfInBounds_toArray, show (LB (takenL l NS i k)).set mm (.bool true) = LB ((takenL l NS i k).set mm true) from by unfold LB; rw [List.map_set], ← HSK.out] at h
                    exact Lib.hid h
                  case measure => simp [intOf]; omega
            · obtain rfl : k = l.length := by omega
              have hTB : ∀ m, takenTo l NS i l.length m = takenB l NS i m := fun _ => rfl
              obtain ⟨n1, n2, n3⟩ := numFor_spec (l := l) NS i
              have HIX := Lib.hid (fun W (h : Sx 1 W (some ⟨bT, 0, none⟩) 61 61 (LB (takenL l NS i l.length))) => boolIndex_any W bT 61 61 (takenL l NS i l.length) (numFor l NS i) h (by omega) (by omega) (by rw [takenL_at (by omega), hTB]; exact n2) (fun j hj => by rw [takenL_at (by omega), hTB]; exact n1 j hj))
              have HSX := Lib.hid (show Sx 1 wr (some ⟨bT, 0, none⟩) 61 61 (LB (takenL l NS i l.length)) from by
                refine ⟨by simp [LB, takenL_len], Nat.le_refl _, by decide, fun _ => ⟨bT, 0, rfl, hS.out.lt 1 rfl, fun k u hk => ?_⟩⟩
                rw [Nat.zero_add]
                exact hS.out.cell 1 k rfl (by rw [List.getElem?_toArray]; exact hk))
              have HC := Lib.hid (HIX.out wr HSX.out)
              have hnf : numFor l NS i ≤ 60 := by omega
              obtain ⟨f, hf⟩ : ∃ f, numFor l NS i = f := ⟨_, rfl⟩
              rw [hf] at HC hnf
              have HF := Lib.hid hf
              have hni : i < NS.length := by omega
              clear hf hTB n1 n2 n3 HIX HSX
              have hT : Hid (Sy w wr [(bL, #[.slice (some ⟨g0, o0, none⟩) l.length c], 84)] [⟨.slice (some ⟨g1, 0, none⟩) l.length c1, 3, 1, l.length, L1 (idxs order)⟩, ⟨.slice (some ⟨g2, 0, none⟩) l.length c2, 3, 1, l.length, L1 NS⟩] []) := Lib.hid (hS.out.thin (List.Sublist.cons_cons _ (List.nil_sublist _)) (List.Sublist.refl _))
              have lT := hS.out.lt 1 rfl
              have e1 : wr.heap[bT]? = some (.cells (LB (takenL l NS i l.length)).toArray 125 (0, 0)) := (hS.out.at_ 1 rfl).2
              clear hS
              go_wp2_with fail
              refine HC.out.mono ?_
              rintro e V ⟨rfl, hb⟩
              have hU := Lib.hid (hT.out.call hb)
              clear hb HC e1 lT hT
              have v2 := (hU.out.osx 1 rfl).at1 hni
              rw [Nat.zero_add] at v2
              have r2 := hU.out.rfree 1 rfl i
              have hU2 := Lib.hid (hU.out.ostore 1 rfl i (.int .i64 (f : Int)))
              clear hU
              generalize NS[i] = old at v2
              go_upto_region 22 with fail
              refine wp_geny hU2.out ?_
              intro W9 hc
              rw [show (L1 NS).set i (.int .i64 (f : Int)) = L1 (NS.set i f) from by unfold L1; rw [List.map_set]] at hc
              have hV : Hid (Sy w W9 [(bL, #[.slice (some ⟨g0, o0, none⟩) l.length c], 84)] [⟨.slice (some ⟨g1, 0, none⟩) l.length c1, 3, 1, l.length, L1 (idxs order)⟩, ⟨.slice (some ⟨g2, 0, none⟩) l.length c2, 3, 1, l.length, L1 (NS.set i f)⟩] []) := Lib.hid hc
              clear hc hU2 v2 r2
              have v2 : W9.cell? ⟨g2, i, none⟩ = some (.int .i64 f) := by
                have h := (hV.out.osx 1 rfl).at1 (l := NS.set i f) (i := i) (by rw [List.length_set]; exact hni)
                rw [Nat.zero_add, List.getElem_set_self] at h
                exact h
              have HAS2 := Lib.hid (show allotStep l (NS, nn, dd) i = (NS.set i f, if (f : Int) = nn then (nn + 1, (at0 l i).1) else (nn, dd)) from by unfold allotStep; dsimp only; rw [HF.out])
              have hnb := HSM.out.2
              by_cases hfn : (f : Int) = nn
              · have u0 := ((HS.out.below hV.out.be).at2 hi).1
                have b0 := hV.out.cell 0 0 rfl rfl
                have HA0 := Lib.hid (show (at0 l i).1 = l[i].1 from by rw [at0_at hi])
                generalize l[i].1 = fr at *
                have HFN := Lib.hid hfn
                have wn : IntKind.i64.wrap (nn + 1) = nn + 1 := by rw [IntKind.wrap_i64]; omega
                have hfb : ((f : Int) == nn) = true := by simpa using hfn
                clear hfn
                go_upto_region 23 with fail
                go_quiet (fail)
                go_wp2
                go_roundw
                case rel =>
                  refine ⟨t + 1, nn + 1, fr, NS.set i f, by omega, rfl, rfl, by go_num, Lib.hid ?_, Lib.hid (hV.out.call (below_dN (Below.refl _ _) _))⟩
                  rw [HAS.out, HAS2.out, if_pos HFN.out, HA0.out]
                case measure => simp [intOf]; omega
              · have HFN := Lib.hid hfn
                have hfb : ((f : Int) == nn) = false := by simpa using hfn
                clear hfn
                go_wp2
                go_roundw
                case rel =>
                  refine ⟨t + 1, nn, dd, NS.set i f, by omega, rfl, rfl, by go_num, Lib.hid ?_, hV⟩
                  rw [HAS.out, HAS2.out, if_neg HFN.out]
                case measure => simp [intOf]; omega
        · obtain rfl : t = l.length := by omega
          have HFN := Lib.hid (show allotRun l order = (NS, nn, dd) from by have h := hR.out; rw [List.take_of_length_le (by omega)] at h; exact h)
          go_wp2
          refine bodyPost_ret (results_tmp4 rfl _ _ _) rfl ?_
          refine ⟨order, some ⟨g2, 0, none⟩, c2, HO.out, ?_, ?_, hS.out.be⟩
          · rw [HFN.out]; rfl
          · rw [HFN.out]; exact hS.out.gives 1 rfl
end
end Go.Proofs.YtchignmnnbepnaaGreat

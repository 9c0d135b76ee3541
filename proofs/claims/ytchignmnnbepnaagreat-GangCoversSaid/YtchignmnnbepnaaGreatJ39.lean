/- Allot's parts: meets, Index, the order of the uses, and the library's stable sort where it is one insertion sort -/
/- the shares: gang.Share -/
import Derived.Test.YtchignmnnbepnaaGreatJ17
import Derived.Test.YtchignmnnbepnaaGreatJ36
import Derived.Test.YtchignmnnbepnaaGreatJ38
import Derived.Test.YtchignmnnbepnaaGreatJ16
namespace Go.Proofs.YtchignmnnbepnaaGreat
open Go.RowKit Go.Sort

def LB (l : List Bool) : List Value := l.map Value.bool
section
variable (w : World)
set_option maxRecDepth 100000 in
set_option maxHeartbeats 1000000 in
theorem umeets_any (u o : I2) : Calls Tryz.prog 58 #[.agg #[.int .i64 u.1, .int .i64 u.2], .agg #[.int .i64 o.1, .int .i64 o.2]] w (Gives (.bool (meetsB u o)) w) := by
  obtain ⟨u0, u1⟩ := u
  obtain ⟨o0, o1⟩ := o
  unfold meetsB
  dsimp only
  have hC := Lib.hid (((Sy.enter w).al w.heap.size #[.int .i64 u0, .int .i64 u1] 83 rfl).al (w.heap.size + 1) #[.int .i64 o0, .int .i64 o1] 83 (by simp))
  cases h1 : decide (u0 < o1) <;> cases h2 : decide (o0 < u1)
  all_goals
    have H1 := Lib.hid h1
    have H2 := Lib.hid h2
    first | have g1 := of_decide_eq_true h1 | have g1 := of_decide_eq_false h1
    first | have g2 := of_decide_eq_true h2 | have g2 := of_decide_eq_false h2
    clear h1 h2
    go_enter Tryz.func58, Tryz.ntmps58
    go_wp2
    go_ret
    exact ⟨rfl, hC.out.be⟩
set_option maxRecDepth 100000 in
set_option maxHeartbeats 1000000 in
theorem boolIndex_any (g n c : Nat) (bs : List Bool) (k : Nat) (hs : Sx 1 w (some ⟨g, 0, none⟩) n c (LB bs)) (hn : n ≤ 1000) (hk : k < n) (h0 : bs.getD k true = false) (h1 : ∀ j, j < k → bs.getD j true = true) :
    Calls Tryz.prog 59 #[.slice (some ⟨g, 0, none⟩) n c, .bool false] w (Gives (.int .i64 k) w) := by
  have hlen : bs.length = n := by have := hs.1; simpa [LB] using this
  have HS := Lib.hid (fun j (hj : j < n) => show w.cell? ⟨g, j, none⟩ = some (.bool (bs.getD j true)) from by
    have h := hs.cell (k := j) (u := .bool (bs.getD j true)) (by unfold LB; rw [List.getElem?_map, List.getD_eq_getElem?_getD, List.getElem?_eq_getElem (by omega)]; rfl)
    rwa [Nat.zero_add] at h)
  have H0 := Lib.hid h0
  have H1 := Lib.hid h1
  clear hs hlen h0 h1
  go_enter Tryz.func59, Tryz.ntmps59
  go_wp2
  go_loop [8] (fun iv => ∃ j : Nat, j ≤ k ∧ iv = .int .i64 j) (fun iv => k - (intOf iv).toNat)
  case atStart => exact ⟨0, Nat.zero_le _, rfl⟩
  case round =>
    obtain ⟨j, hj, rfl⟩ := hrel
    have x0 := HS.out j (by omega)
    have j0 : (0 : Int) ≤ (j : Int) := by omega
    have j1 : (j : Int) < (n : Int) := by omega
    by_cases hjk : j = k
    · have hv : bs.getD j true = false := by rw [hjk]; exact H0.out
      rw [hv] at x0
      have HJ := Lib.hid hjk
      clear hv hjk
      go_wp2
      go_ret
      exact ⟨ret_int (by rw [HJ.out]), Below.refl _ _⟩
    · have hv : bs.getD j true = true := H1.out j (by omega)
      rw [hv] at x0
      have hlt : j < k := by omega
      clear hv hjk
      go_wp2
      go_round
      case rel => exact ⟨j + 1, by omega, by go_num⟩
      case measure => simp [intOf]; omega
def fromCmp (l : List I2) (i k : Nat) : Int := cmpI (at0 l i).1 (at0 l k).1
theorem at0_at {l : List I2} {i : Nat} (h : i < l.length) : at0 l i = l[i] := by show l.getD i (0, 0) = _; rw [List.getD_eq_getElem?_getD, List.getElem?_eq_getElem h]; rfl
set_option maxRecDepth 100000 in
set_option maxHeartbeats 1000000 in
theorem allot1_any (b n c : Nat) (a : Option Addr) (l : List I2) (i k : Nat) (hi : i < n) (hk : k < n) (hs : Sx 2 w a n c (L2 l)) (h0 : w.cell? ⟨b, 0, none⟩ = some (.slice a n c)) :
    Calls Tryz.prog 57 #[.int .i64 i, .int .i64 k, .pointer (some ⟨b, 0, none⟩)] w fun e w' => e = .returned (.int .i64 (fromCmp l i k)) ∧ ∃ q, w' = w.drewN q := by
  have hlen := hs.n2
  subst hlen
  obtain ⟨g, o, rfl⟩ := hs.addr (by omega)
  unfold fromCmp
  rw [at0_at hi, at0_at hk]
  obtain ⟨x0, -⟩ := hs.at2 hi
  obtain ⟨y0, -⟩ := hs.at2 hk
  generalize l[i] = x at *
  generalize l[k] = y at *
  obtain ⟨x, x'⟩ := x
  obtain ⟨y, y'⟩ := y
  dsimp only at x0 y0 ⊢
  have i0 : (0 : Int) ≤ (i : Int) := by omega
  have i1 : (i : Int) < (l.length : Int) := by omega
  have k0 : (0 : Int) ≤ (k : Int) := by omega
  have k1 : (k : Int) < (l.length : Int) := by omega
  clear hs
  go_enter Tryz.func57, Tryz.ntmps57
  go_wp2
  go_still_tail 10, (by kernel_rfl)
  change wpList _ _ _ _ _ _
  go_wp2_with fail
  refine (compare_any _ _ _).mono ?_
  rintro e w1 ⟨rfl, rfl⟩
  go_wp2
  go_ret
  exact ⟨rfl, 1, rfl⟩
theorem eg_allot1 : EG 57 := enters_of Tryz.func57 (by kernel_rfl) rfl
set_option maxRecDepth 100000 in
set_option maxHeartbeats 1000000 in
theorem stable_small0 {α : Type} [Inhabited α] (enc : α → Value) (hO : OneCell enc) (cf : α → α → Int) (g : Nat) (cb : Array Value) (blk cap : Nat) (d : Array α) (eg : ∀ args w, (callFunc g args).run Tryz.prog w = .ok (.enter g args) w)
    (hcmp : CmpReads Tryz.prog g cb enc cf blk 0 d.size w) (hH : Holds enc w blk 0 d) (hsz : d.size < 20) :
    Calls Tryz.prog 85 #[.slice (some ⟨blk, 0, none⟩) d.size cap, .int .i64 d.size, .func (.func g) #[] cb] w fun e w' => e = .returned (.tuple #[]) ∧ ∃ n, w' = (putRow enc w blk 0 (insertionSort (ltOf cf) d 0 d.size)).drewN n := by
  have HI := Lib.hid (Tryz.insertionSortCmpFunc_one enc hO cf g cb blk 0 cap 0 d.size d w eg hcmp hH (Nat.zero_le _) (Nat.le_refl _) (by omega))
  clear hcmp hH eg
  generalize insertionSort (ltOf cf) d 0 d.size = d' at *
  generalize d.size = n at *
  have h1 : ¬ (20 : Int) ≤ (n : Int) := by omega
  have h2 : ¬ (20 : Int) < (n : Int) := by omega
  go_enter Tryz.func85, Tryz.ntmps85
  go_wp2
  refine wp_loop_once ?_
  go_wp2_with fail
  refine HI.out.mono ?_
  rintro e w1 ⟨rfl, q, rfl⟩
  go_wp2
  refine wp_loop_once ?_
  go_wp2
  go_end0
  exact ⟨rfl, q, rfl⟩
set_option maxRecDepth 100000 in
theorem stable_small {α : Type} [Inhabited α] (enc : α → Value) (hO : OneCell enc) (cf : α → α → Int) (g : Nat) (cb : Array Value) (blk cap : Nat) (d : Array α) (eg : ∀ args w, (callFunc g args).run Tryz.prog w = .ok (.enter g args) w)
    (hcmp : CmpReads Tryz.prog g cb enc cf blk 0 d.size w) (hH : Holds enc w blk 0 d) (hsz : d.size < 20) :
    Calls Tryz.prog 56 #[.slice (some ⟨blk, 0, none⟩) d.size cap, .func (.func g) #[] cb] w fun e w' => e = .returned (.tuple #[]) ∧ ∃ n, w' = (putRow enc w blk 0 (insertionSort (ltOf cf) d 0 d.size)).drewN n := by
  have HI := Lib.hid (stable_small0 w enc hO cf g cb blk cap d eg hcmp hH hsz)
  clear hcmp hH eg
  generalize insertionSort (ltOf cf) d 0 d.size = d' at *
  generalize d.size = n at *
  go_enter Tryz.func56, Tryz.ntmps56
  go_wp2_with fail
  refine HI.out.mono ?_
  rintro e w1 ⟨rfl, q, rfl⟩
  go_wp2
  go_end0
  exact ⟨rfl, q, rfl⟩
end
/-- the library's stable sort orders the uses -/
def SortsUses (l : List I2) : Prop := ∀ {w W : World} {bs : List (Nat × Array Value × TypeId)} {os : List Rw} {rs : List (World → Prop)} (_ : Sy w W bs os rs) (i : Nat) {g c c' b0 : Nat} {a : Option Addr}, os[i]? = some ⟨.slice (some ⟨g, 0, none⟩) l.length c', 3, 1, l.length, L1 (idxs (List.range l.length))⟩ →
  Sx 2 w a l.length c (L2 l) → bs[0]? = some (b0, #[.slice a l.length c], 84) →
  Calls Tryz.prog 56 #[.slice (some ⟨g, 0, none⟩) l.length c', .func (.func 57) #[] #[.pointer (some ⟨b0, 0, none⟩)]] W
    (fun e w' => e = .returned (.tuple #[]) ∧ ∃ order, InOrder l order ∧ Sy w w' bs (os.set i ⟨.slice (some ⟨g, 0, none⟩) l.length c', 3, 1, l.length, L1 (idxs order)⟩) rs)
theorem cmp_from {l : List I2} {i k : Nat} : fromCmp l i k < 0 ↔ (at0 l i).1 < (at0 l k).1 := by unfold fromCmp; exact cmp_neg
instance beforeDec (l : List I2) (i k : Nat) : Decidable (before l i k) := inferInstanceAs (Decidable ((at0 l i).1 < (at0 l k).1 ∨ (at0 l i).1 = (at0 l k).1 ∧ i < k))
theorem sorts_small {l : List I2} (hpos : 0 < l.length) (hsm : l.length < 20) : SortsUses l := by
  intro w W bs os rs h i g c c' b0 a hi hs h0
  haveI : Inhabited (Fin l.length) := ⟨⟨0, hpos⟩⟩
  have hrow : L1 (idxs (List.range l.length)) = (List.finRange l.length).map (encF l.length) := by
    rw [← finRange_val]
    unfold L1 idxs
    rw [List.map_map, List.map_map]
    rfl
  have hdsz : (List.finRange l.length).toArray.size = l.length := by simp
  have hiff : ∀ x y : Fin l.length, (decide (before l x.val y.val)) = true ↔ before l x.val y.val := fun x y => decide_eq_true_iff
  have hO : SWO (fun x y : Fin l.length => decide (before l x.val y.val)) := by
    refine ⟨fun x => ?_, fun x y z hxy hyz => ?_, fun x y z hxy hyz => ?_⟩
    · rw [← Bool.not_eq_true, hiff]; unfold before; omega
    · rw [hiff] at hxy hyz ⊢; unfold before at hxy hyz ⊢; omega
    · rw [← Bool.not_eq_true, hiff] at hxy hyz ⊢; unfold before at hxy hyz ⊢; omega
  have hH : Holds (encF l.length) W g 0 (List.finRange l.length).toArray := fun j hj => by
    rw [hdsz] at hj
    refine ⟨?_, by rw [Nat.zero_add]; exact h.rfree i hi j⟩
    rw [Nat.zero_add]
    refine h.rcell i hi ?_
    rw [hrow, List.getElem?_map, List.getElem?_eq_getElem (by simpa using hj), getElem!_pos _ j (by rw [hdsz]; exact hj)]
    rfl
  have hcmp : CmpReads Tryz.prog 57 #[.pointer (some ⟨b0, 0, none⟩)] (encF l.length) (fun x y => fromCmp l x.val y.val) g 0 (List.finRange l.length).toArray.size W := by
    intro m os' dk _ x y
    have hV := away_sort (encF l.length) W g m dk os'
    have hc : (sortWorld (encF l.length) W g 0 m dk os').cell? ⟨b0, 0, none⟩ = some (.slice a l.length c) := by
      rw [away_cell hV (h.lt 0 h0) (fun hm => box_apart h h0 hi (List.mem_singleton.1 hm))]
      exact h.cell 0 0 h0 rfl
    exact allot1_any _ b0 l.length c a l x.val y.val x.isLt y.isLt (own_arg h hi hs _ hV) hc
  have hcall := stable_small W (encF l.length) (encF_one _) (fun x y => fromCmp l x.val y.val) 57 #[.pointer (some ⟨b0, 0, none⟩)] g c' (List.finRange l.length).toArray eg_allot1 hcmp hH (by rw [hdsz]; exact hsm)
  rw [sort_stable (ltOf fun x y : Fin l.length => fromCmp l x.val y.val) (fun x y => decide (before l x.val y.val)) (fun x => x.val) (fun x y hxy => by
    unfold ltOf
    refine decide_eq_decide.2 ?_
    rw [cmp_from]
    unfold before
    omega) (Nat.le_refl _) (fun p q _ hpq hq => by
    rw [hdsz] at hq
    rw [getElem!_pos _ p (by rw [hdsz]; omega), getElem!_pos _ q (by rw [hdsz]; omega)]
    simpa using hpq)] at hcall
  obtain ⟨hp, hsd⟩ := insertionSort_holds hO (List.finRange l.length).toArray 0 (List.finRange l.length).toArray.size (Nat.zero_le _) (Nat.le_refl _)
  generalize insertionSort (fun x y : Fin l.length => decide (before l x.val y.val)) (List.finRange l.length).toArray 0 (List.finRange l.length).toArray.size = d' at *
  rw [hdsz] at hcall hp hsd
  refine hcall.mono ?_
  rintro e w' ⟨rfl, m, rfl⟩
  obtain ⟨o1, o2, o3⟩ := sorted_of hiff (fun x y hxy => by
    have : x.val ≠ y.val := fun e => hxy (Fin.ext e)
    unfold before; omega) hp hsd
  refine ⟨rfl, d'.toList.map (fun x => x.val), ⟨o1, o2⟩, ?_⟩
  have hq := h.sorted (enc := encF l.length) i (zs := List.finRange l.length) (ys := d'.toList) (by rw [hi, hrow]) o3 m #[]
  rw [Array.toArray_toList, sortWorld_none] at hq
  have he : d'.toList.map (encF l.length) = L1 (idxs (d'.toList.map (fun x => x.val))) := by
    unfold L1 idxs
    rw [List.map_map, List.map_map]
    rfl
  rw [he] at hq
  exact hq
end Go.Proofs.YtchignmnnbepnaaGreat
namespace Go.Proofs.YtchignmnnbepnaaGreat
open Go.RowKit
section
variable (w : World)
theorem sumBy_id (l : List Int) : sumBy (fun x => x) l = lsum l := by unfold sumBy; rw [List.map_id']
theorem floors_take (s A : Int) (l : List Int) (k : Nat) (h : k < l.length) : (floors s A l).take (k + 1) = (floors s A l).take k ++ [s * l[k] / A] := by
  unfold floors
  rw [List.take_succ_eq_append_getElem (by rw [List.length_map]; exact h), List.getElem_map]
theorem idxs_range (k : Nat) : idxs (List.range (k + 1)) = idxs (List.range k) ++ [(k : Int)] := by unfold idxs; rw [List.range_succ, List.map_append]; rfl
set_option maxHeartbeats 4000000 in
set_option maxRecDepth 100000 in
theorem share_ok (a : Option Addr) (n c : Nat) (s : Int) (parts : List Int) (hs : Sx 1 w a n c (L1 parts)) (hb : shareBad s parts = false) (hA : 0 < lsum parts) :
    Calls Tryz.prog 22 #[.int .i64 s, .slice a n c] w (fun e w' => ∃ order a' c', Ordered s parts order ∧ e = .returned (.tuple #[.slice a' n c', .int .i64 0]) ∧ w'.ownsRow w.heap.size 3 1 (.slice a' n c') n (L1 (shared s parts order)) ∧ Below w.heap.size w w') := by
  obtain ⟨⟨g1, g1'⟩, g2, g3, g4⟩ := share_parts hb
  have hlen := hs.n1
  have hl : ¬ 60 < n := by omega
  have h1 : inB s 0 1000000000 = true := inB_iff.2 ⟨g1, g1'⟩
  have hA2 : lsum parts ≤ 60000000 := by
    have := lsum_le (B := 1000000) (fun x hx => (g3 x hx).2)
    omega
  have HX := Lib.hid (fun W (hW : Below w.heap.size w W) => containsFunc_int a n c parts 41 #[] _ W (hs.below hW) eg_share1 (fun W' _ x _ => share1_any W' x))
  have HT := Lib.hid (fun W (hW : Below w.heap.size w W) => total_int a n c parts 42 #[] (fun x => x) W (hs.below hW) eg_share2 (fun W' _ x _ => share2_any W' x) (Lib.hid (sumBy_bd (B := 1000000) (by decide) (fun x hx => by have := g3 x hx; omega) (by omega))))
  have HB := Lib.hid g4
  have HSS := Lib.hid hs
  have HBD := Lib.hid hb
  have HG := Lib.hid g3
  have HZ := Lib.hid (sumBy_id parts)
  generalize hAA : lsum parts = A at *
  have HAA := Lib.hid hAA
  have hA0 : (A == 0) = false := by simp; omega
  clear hb hs g3 g4 hAA
  obtain rfl : parts.length = n := hlen.symm
  clear hlen
  go_enter Tryz.func22, Tryz.ntmps22
  go_wp2_with ((with_reducible refine (within_any _ _ _ _).mono ?_); rintro e w1 ⟨rfl, rfl⟩)
  refine (HX.out _ (below2 _ _ _)).mono ?_
  rintro e w1 ⟨rfl, hb1⟩
  rw [HB.out]
  have hC := Lib.hid ((((Sy.enter w).al w.heap.size #[.int .i64 s] 3 rfl).al (w.heap.size + 1) #[.slice a parts.length c] 31 (by simp)).call hb1)
  have c0 := hC.out.cell 0 0 rfl rfl
  have c1 := hC.out.cell 1 0 rfl rfl
  clear hb1 HX
  go_wp2_with fail
  refine (HT.out _ hC.out.be).mono ?_
  rintro e w2 ⟨rfl, hb2⟩
  rw [HZ.out]
  have hC2 := Lib.hid ((hC.out.call hb2).al w2.heap.size #[.int .i64 A] 3 rfl)
  clear hb2 HT hC c0 c1
  go_upto_region 8 with fail
  refine wp_geny hC2.out ?_
  intro W hc
  have hD := Lib.hid hc
  clear hc hC2
  have c0 := hD.out.cell 0 0 rfl rfl
  have c1 := hD.out.cell 1 0 rfl rfl
  have c2 := hD.out.cell 2 0 rfl rfl
  go_wp2
  go_loopw [9, 10, 35] (fun ov rv iv wr => ∃ (k : Nat) (a1 : Option Addr) (c1 : Nat) (a2 : Option Addr) (c2 : Nat), k ≤ parts.length ∧ ov = .slice a1 k c1 ∧ rv = .slice a2 k c2 ∧ iv = .int .i64 k ∧
    Hid (Sy w wr [(w.heap.size, #[.int .i64 s], 3), (w.heap.size + 1, #[.slice a parts.length c], 31), (w2.heap.size, #[.int .i64 A], 3)] [⟨.slice a1 k c1, 3, 1, k, L1 ((floors s A parts).take k)⟩, ⟨.slice a2 k c2, 3, 1, k, L1 (idxs (List.range k))⟩] [])) (fun _ _ iv _ => parts.length - (intOf iv).toNat)
  case atStart => exact ⟨0, none, 0, none, 0, Nat.zero_le _, rfl, rfl, rfl, Lib.hid ((hD.out.onil _ 1).onil _ 1)⟩
  case round =>
    clear c0 c1 c2 hD
    obtain ⟨k, a1, c1, a2, c2, hk, rfl, rfl, rfl, hC⟩ := hrel
    by_cases hlt : k < parts.length
    · obtain ⟨g0, o0, rfl⟩ := HSS.out.addr (by omega)
      have x0 := (hC.out.sx HSS.out).at1 hlt
      have HT1 := Lib.hid (floors_take s A parts k hlt)
      have hx := HG.out _ (List.getElem_mem hlt)
      generalize parts[k] = x at *
      have p0 : 0 ≤ s * x := Int.mul_nonneg g1 hx.1
      have p1 : s * x ≤ 1000000000 * 1000000 := Int.mul_le_mul g1' hx.2 hx.1 (by decide)
      have d0 := hC.out.cell 0 0 rfl rfl
      have d2 := hC.out.cell 2 0 rfl rfl
      go_wp2_with (first
        | (refine wpList_append_sy (o := ⟨some 47, _, _, _, _, _⟩) rfl (hC.out.onew wr.heap.size #[.int .i64 (s * x / A)] 3 1 1 rfl (by omega) rfl) 0 2 rfl rfl _ _ _ rfl und_int info_int rfl (by omega) rfl rfl (by intro u hu; simp at hu; rcases hu with rfl; rfl) (by omega) (by omega) ?_; intro a3 c3 V hV; have hC2 := Lib.hid hV; clear hV)
        | (refine wpList_append_sy (o := ⟨some 51, _, _, _, _, _⟩) rfl (hC2.out.onew V.heap.size #[.int .i64 k] 3 1 1 rfl (by omega) rfl) 1 3 rfl rfl _ _ _ rfl und_int info_int rfl (by omega) rfl rfl (by intro u hu; simp at hu; rcases hu with rfl; rfl) (by omega) (by omega) ?_; intro a4 c4 V2 hV; have hC3 := Lib.hid hV; clear hV))
      go_roundw
      case rel =>
        refine ⟨k + 1, _, _, _, _, by omega, rfl, rfl, by go_num, ?_⟩
        rw [HT1.out, idxs_range, L1_append, L1_append]
        exact Lib.hid (hC3.out.thin (List.Sublist.refl _) (List.Sublist.cons_cons _ (List.Sublist.cons_cons _ (List.nil_sublist _))))
      case measure => simp [intOf]; omega
    · obtain rfl : k = parts.length := by omega
      rw [show (floors s A parts).take parts.length = floors s A parts from List.take_of_length_le (by simp [floors])] at hC
      have hpos : 0 < parts.length := by
        rcases Nat.eq_zero_or_pos parts.length with h | h
        · have := HAA.out
          rw [List.length_eq_zero_iff.1 h] at this
          rw [lsum_nil] at this
          omega
        · exact h
      obtain ⟨gO, rfl, hcO⟩ := hC.out.oaddr 0 rfl hpos
      obtain ⟨gR, rfl, hcR⟩ := hC.out.oaddr 1 rfl hpos
      have HSORT := Lib.hid (sort_share hC.out 1 rfl HSS.out HBD.out (by rw [HAA.out]; exact hA) rfl rfl (by rw [HAA.out]; rfl))
      clear hk hlt
      go_wp2_with fail
      refine HSORT.out.mono ?_
      rintro e W5 ⟨rfl, order, ho, hS0⟩
      have HO := Lib.hid ho
      have hS : Hid (Sy w W5 [(w.heap.size, #[.int .i64 s], 3), (w.heap.size + 1, #[.slice a parts.length c], 31), (w2.heap.size, #[.int .i64 A], 3)] [⟨.slice (some ⟨gO, 0, none⟩) parts.length c1, 3, 1, parts.length, L1 (floors s A parts)⟩, ⟨.slice (some ⟨gR, 0, none⟩) parts.length c2, 3, 1, parts.length, L1 (idxs order)⟩] []) := Lib.hid hS0
      clear ho hS0 HSORT hC
      have HLK := Lib.hid (lack_bd (s := s) (parts := parts) (by rw [HAA.out]; exact hA))
      have HT2 := Lib.hid (fun W (hW : Sx 1 W (some ⟨gO, 0, none⟩) parts.length c1 (L1 (floors s A parts))) => total_int _ _ _ _ 42 #[] (fun x => x) W hW eg_share2 (fun W' _ x _ => share2_any W' x) (Lib.hid (sumBy_bd (B := 1000000000000000) (by decide) (fun x hx => by
        unfold floors at hx
        obtain ⟨y, hy, rfl⟩ := List.mem_map.1 hx
        have hy2 := HG.out y hy
        have p0 : 0 ≤ s * y := Int.mul_nonneg g1 hy2.1
        have p1 : s * y ≤ 1000000000 * 1000000 := Int.mul_le_mul g1' hy2.2 hy2.1 (by decide)
        have p2 : 0 ≤ s * y / A := Int.ediv_nonneg p0 (by omega)
        have p3 : s * y / A ≤ s * y := Int.ediv_le_self _ p0
        omega) (by simp [floors]; omega))))
      rw [sumBy_id] at HT2
      have HLE := Lib.hid (show lack s parts = s - lsum (floors s A parts) by unfold lack; rw [HAA.out])
      generalize hSS2 : lsum (floors s A parts) = S at *
      have HSS2 := Lib.hid hSS2
      clear hSS2
      obtain ⟨M, hM⟩ : ∃ M : Nat, s - S = (M : Int) := ⟨(s - S).toNat, by have := HLK.out; rw [HLE.out] at this; omega⟩
      have hMn : M < parts.length := by have := HLK.out; rw [HLE.out] at this; omega
      have hwS : IntKind.i64.wrap (s - S) = (M : Int) := by rw [hM]; exact IntWalk.i64_in _ (by omega)
      have HM := Lib.hid (show (lack s parts).toNat = M by rw [HLE.out, hM]; exact Int.toNat_natCast M)
      have hM0 : (0 : Int) ≤ (M : Int) := by omega
      have hMc : (M : Int) ≤ (c2 : Int) := by omega
      have hMc2 : M ≤ c2 := by omega
      clear hM HLK HLE
      go_upto_region 15 with fail
      refine wp_region_held_drew (S := (fun w' => w'.cell? ⟨w.heap.size, 0, none⟩ = some (.int .i64 s) ∧ True)) (by kernel_rfl) ⟨hS.out.drew.cell 0 0 rfl rfl, trivial⟩ (fun hH => ?_)
      refine wpAnyH_geny (show Sy w _ [(w.heap.size, #[.int .i64 s], 3), (w.heap.size + 1, #[.slice a parts.length c], 31), (w2.heap.size, #[.int .i64 A], 3)] [⟨.slice (some ⟨gO, 0, none⟩) parts.length c1, 3, 1, parts.length, L1 (floors s A parts)⟩, ⟨.slice (some ⟨gR, 0, none⟩) parts.length c2, 3, 1, parts.length, L1 (idxs order)⟩] [] from hS.out.drew) hH ?_
      intro VS_0 hc hHS_0
      have hVS_0 := Lib.hid hc
      clear hc hH hS
      refine wpAnyH_take (i := 0) (oi := ⟨_, _, _, _, _, _⟩) (v := ?_) rfl (by kernel_rfl) (by kernel_rfl) (by kernel_rfl) (fun _ _ _ h => h) (Or.inl ⟨by rfl, ?_⟩) hHS_0 ?_
      rotate_left
      · intro wS hSw; (try dsimp only at hSw); go_simp; try with_reducible rfl
      try simp only [Act.put, List.setIfInBounds_toArray, List.set_cons_zero, List.set_cons_succ]
      refine wpAnyH_take (i := 1) (oi := ⟨_, _, _, _, _, _⟩) (v := ?_) rfl (by kernel_rfl) (by kernel_rfl) (by kernel_rfl) (fun _ _ _ h => h) (Or.inl ⟨by rfl, ?_⟩) hHS_0 ?_
      rotate_left
      · intro wS hSw; (try dsimp only at hSw); go_simp; try with_reducible rfl
      try simp only [Act.put, List.setIfInBounds_toArray, List.set_cons_zero, List.set_cons_succ]
      refine wpAnyH_take (i := 2) (oi := ⟨_, _, _, _, _, _⟩) (v := ?_) rfl (by kernel_rfl) (by kernel_rfl) (by kernel_rfl) (fun _ _ _ h => h) (Or.inl ⟨by rfl, ?_⟩) hHS_0 ?_
      rotate_left
      · intro wS hSw; (try dsimp only at hSw); go_simp; try with_reducible rfl
      try simp only [Act.put, List.setIfInBounds_toArray, List.set_cons_zero, List.set_cons_succ]
      refine wpAnyH_take (i := 3) (oi := ⟨_, _, _, _, _, _⟩) (v := ?_) rfl (by kernel_rfl) (by kernel_rfl) (by kernel_rfl) (fun _ _ _ h => h) (Or.inl ⟨by rfl, ?_⟩) hHS_0 ?_
      rotate_left
      · intro wS hSw; (try dsimp only at hSw); go_simp; try with_reducible rfl
      try simp only [Act.put, List.setIfInBounds_toArray, List.set_cons_zero, List.set_cons_succ]
      refine wpAnyH_take (i := 8) (oi := ⟨_, _, _, _, _, _⟩) (v := ?_) rfl (by kernel_rfl) (by kernel_rfl) (by kernel_rfl) (fun _ _ _ h => h) (Or.inl ⟨by rfl, ?_⟩) hHS_0 ?_
      rotate_left
      · intro wS hSw; (try dsimp only at hSw); go_simp; try with_reducible rfl
      try simp only [Act.put, List.setIfInBounds_toArray, List.set_cons_zero, List.set_cons_succ]
      refine wpAnyH_ready (rs := [4]) (by kernel_rfl) (by simp) ?_
      refine AllReadyH.cons (o := ⟨_, _, _, _, _, _⟩) rfl (fun Kq hKq => ?_) AllReadyH.nil
      go_simp
      go_at_call 43
      refine (HT2.out _ (hVS_0.out.osx 0 rfl)).mono ?_
      rintro e wT ⟨rfl, hb⟩
      (try go_wp2_with fail)
      refine stepY hKq (show Sy w _ [(w.heap.size, #[.int .i64 s], 3), (w.heap.size + 1, #[.slice a parts.length c], 31), (w2.heap.size, #[.int .i64 A], 3)] [⟨.slice (some ⟨gO, 0, none⟩) parts.length c1, 3, 1, parts.length, L1 (floors s A parts)⟩, ⟨.slice (some ⟨gR, 0, none⟩) parts.length c2, 3, 1, parts.length, L1 (idxs order)⟩] [] from (hVS_0.out.call hb)) (fun _ hX => ⟨hX.cell 0 0 rfl rfl, trivial⟩) ?_
      intro VS_1 hc hHS_1
      have hVS_1 := Lib.hid hc
      clear hc hKq Kq hVS_0 hb hHS_0
      try simp only [Act.put, List.setIfInBounds_toArray, List.set_cons_zero, List.set_cons_succ]
      refine wpAnyH_take (i := 5) (oi := ⟨_, _, _, _, _, _⟩) (v := ?_) rfl (by kernel_rfl) (by kernel_rfl) (by kernel_rfl) (fun _ _ _ h => h) (Or.inl ⟨by rfl, ?_⟩) hHS_1 ?_
      rotate_left
      · intro wS hSw; (try dsimp only at hSw); go_simp; try with_reducible rfl
      try simp only [Act.put, List.setIfInBounds_toArray, List.set_cons_zero, List.set_cons_succ]
      refine wpAnyH_take (i := 6) (oi := ⟨_, _, _, _, _, _⟩) (v := ?_) rfl (by kernel_rfl) (by kernel_rfl) (by kernel_rfl) (fun _ _ _ h => h) (Or.inl ⟨by rfl, ?_⟩) hHS_1 ?_
      rotate_left
      · intro wS hSw; (try dsimp only at hSw); go_simp; try with_reducible rfl
      try simp only [Act.put, List.setIfInBounds_toArray, List.set_cons_zero, List.set_cons_succ]
      refine wpAnyH_take (i := 7) (oi := ⟨_, _, _, _, _, _⟩) (v := ?_) rfl (by kernel_rfl) (by kernel_rfl) (by kernel_rfl) (fun _ _ _ h => h) (Or.inl ⟨by rfl, ?_⟩) hHS_1 ?_
      rotate_left
      · intro wS hSw; (try dsimp only at hSw); go_simp; try with_reducible rfl
      try simp only [Act.put, List.setIfInBounds_toArray, List.set_cons_zero, List.set_cons_succ]
      refine wpAnyH_done (by kernel_rfl) ?_ _
      go_wp2
      go_loopw [64] (fun iv wr => ∃ j : Nat, j ≤ M ∧ iv = .int .i64 j ∧ Hid (Sy w wr [(w.heap.size, #[.int .i64 s], 3), (w.heap.size + 1, #[.slice a parts.length c], 31), (w2.heap.size, #[.int .i64 A], 3)] [⟨.slice (some ⟨gO, 0, none⟩) parts.length c1, 3, 1, parts.length, L1 (bump (floors s A parts) (order.take j))⟩, ⟨.slice (some ⟨gR, 0, none⟩) parts.length c2, 3, 1, parts.length, L1 (idxs order)⟩] [])) (fun iv _ => M - (intOf iv).toNat)
      case atStart => exact ⟨0, Nat.zero_le _, rfl, hVS_1⟩
      case round =>
        clear hVS_1
        obtain ⟨j, hj, rfl, hC⟩ := hrel
        by_cases hlt : j < M
        · have hol : order.length = parts.length := by rw [HO.out.1.length_eq, List.length_range]
          have hjo : j < order.length := by omega
          have hpl : order[j] < parts.length := (ordered_mem HO.out _).1 (List.getElem_mem hjo)
          have x0 : wr.cell? ⟨gR, j, none⟩ = some (.int .i64 (order[j] : Int)) := hC.out.rcell 1 rfl (by unfold L1 idxs; rw [List.getElem?_map, List.getElem?_map, List.getElem?_eq_getElem hjo]; rfl)
          have hbl : (bump (floors s A parts) (order.take j)).length = parts.length := by rw [bump_len]; simp [floors]
          have y0 : wr.cell? ⟨gO, order[j], none⟩ = some (.int .i64 ((bump (floors s A parts) (order.take j)).getD order[j] 0)) := hC.out.rcell 0 rfl (by unfold L1; rw [List.getElem?_map, List.getD_eq_getElem?_getD, List.getElem?_eq_getElem (by rw [hbl]; exact hpl)]; rfl)
          have y1 : wr.frozen? ⟨gO, order[j], none⟩ = false := hC.out.rfree 0 rfl _
          have HB1 := Lib.hid (show bump (floors s A parts) (order.take (j + 1)) = (bump (floors s A parts) (order.take j)).set order[j] ((bump (floors s A parts) (order.take j)).getD order[j] 0 + 1) by rw [List.take_succ_eq_append_getElem hjo, bump_snoc])
          have hvb : 0 ≤ (bump (floors s A parts) (order.take j)).getD order[j] 0 ∧ (bump (floors s A parts) (order.take j)).getD order[j] 0 ≤ 2000000000000000 := by
            have hnd := ordered_nodup HO.out
            rw [bump_at _ _ _ (fun i hi => by simpa [floors] using (ordered_mem HO.out i).1 (List.mem_of_mem_take hi)) (hnd.sublist (List.take_sublist _ _)), floors_at hpl]
            have hy2 := HG.out (parts.getD order[j] 0) (by rw [getD_at hpl]; exact List.getElem_mem _)
            have p0 : 0 ≤ s * parts.getD order[j] 0 := Int.mul_nonneg g1 hy2.1
            have p1 : s * parts.getD order[j] 0 ≤ 1000000000 * 1000000 := Int.mul_le_mul g1' hy2.2 hy2.1 (by decide)
            have p2 : 0 ≤ s * parts.getD order[j] 0 / A := Int.ediv_nonneg p0 (by omega)
            have p3 : s * parts.getD order[j] 0 / A ≤ s * parts.getD order[j] 0 := Int.ediv_le_self _ p0
            split <;> omega
          generalize (bump (floors s A parts) (order.take j)).getD order[j] 0 = v at *
          generalize order[j] = p at *
          have p0 : (0 : Int) ≤ (p : Int) := by omega
          have p1 : (p : Int) < (parts.length : Int) := by omega
          clear hol hjo hbl
          go_wp2
          go_roundw
          case rel =>
            refine ⟨j + 1, by omega, by go_num, ?_⟩
            rw [HB1.out]
            have h := hC.out.ostore 0 rfl p (.int .i64 (v + 1))
            rw [show (L1 (bump (floors s A parts) (order.take j))).set p (.int .i64 (v + 1)) = L1 ((bump (floors s A parts) (order.take j)).set p (v + 1)) from by unfold L1; rw [List.map_set]] at h
            exact Lib.hid h
          case measure => simp [intOf]; omega
        · obtain rfl : j = M := by omega
          go_wp2
          go_ret2
          refine ⟨order, _, _, HO.out, rfl, ?_, hC.out.be⟩
          have h := hC.out.gives 0 rfl
          unfold shared
          rw [HM.out, HAA.out]
          exact h
end
end Go.Proofs.YtchignmnnbepnaaGreat

/- Allot's parts: meets, Index, the order of the uses, and the library's stable sort where it is one insertion sort -/
import Derived.Test.YteogibpmpppgmaaH8
import Derived.Test.YteogibpmpppgmaaG11
import Derived.Test.YteogibpmpppgmaaH13
import Derived.Test.YteogibpmpppgmaaOps
namespace Go.Proofs.Yteogibpmpppgmaa
open Go.RowKit Go.Sort

def LB (l : List Bool) : List Value := l.map Value.bool
section
variable (w : World)
set_option maxRecDepth 100000 in
set_option maxHeartbeats 1000000 in
theorem meets_any (u o : I2) : Calls Try.prog 47 #[.agg #[.int .i64 u.1, .int .i64 u.2], .agg #[.int .i64 o.1, .int .i64 o.2]] w (Gives (.bool (meetsB u o)) w) := by
  obtain ⟨u0, u1⟩ := u
  obtain ⟨o0, o1⟩ := o
  unfold meetsB
  dsimp only
  have hC := Lib.hid (((Sy.enter w).al w.heap.size #[.int .i64 u0, .int .i64 u1] 75 rfl).al (w.heap.size + 1) #[.int .i64 o0, .int .i64 o1] 75 (by simp))
  cases h1 : decide (u0 < o1) <;> cases h2 : decide (o0 < u1)
  all_goals
    have H1 := Lib.hid h1
    have H2 := Lib.hid h2
    first | have g1 := of_decide_eq_true h1 | have g1 := of_decide_eq_false h1
    first | have g2 := of_decide_eq_true h2 | have g2 := of_decide_eq_false h2
    clear h1 h2
    go_enter Try.func47, Try.ntmps47
    go_wp2
    go_ret
    exact ⟨rfl, hC.out.be⟩
set_option maxRecDepth 100000 in
set_option maxHeartbeats 1000000 in
theorem boolIndex_any (g n c : Nat) (bs : List Bool) (k : Nat) (hs : Sx 1 w (some ⟨g, 0, none⟩) n c (LB bs)) (hn : n ≤ 1000) (hk : k < n) (h0 : bs.getD k true = false) (h1 : ∀ j, j < k → bs.getD j true = true) :
    Calls Try.prog 48 #[.slice (some ⟨g, 0, none⟩) n c, .bool false] w (Gives (.int .i64 k) w) := by
  have hlen : bs.length = n := by have := hs.1; simpa [LB] using this
  have HS := Lib.hid (fun j (hj : j < n) => show w.cell? ⟨g, j, none⟩ = some (.bool (bs.getD j true)) from by
    have h := hs.cell (k := j) (u := .bool (bs.getD j true)) (by unfold LB; rw [List.getElem?_map, List.getD_eq_getElem?_getD, List.getElem?_eq_getElem (by omega)]; rfl)
    rwa [Nat.zero_add] at h)
  have H0 := Lib.hid h0
  have H1 := Lib.hid h1
  clear hs hlen h0 h1
  go_enter Try.func48, Try.ntmps48
  go_wp2
  go_loop [8] (fun iv => ∃ j : Nat, j ≤ k ∧ iv = .int .i64 j) (fun iv => k - (intOf iv).toNat)
  case atStart => exact ⟨0, Nat.zero_le _, rfl⟩
  case round =>
    obtain ⟨j, hj, rfl⟩ := hrel
    have x0 := HS.out j (by omega)
    have j0 : (0 : Int) ≤ (j : Int) := by omega
    have j1 : (j : Int) < (n : Int) := by omega
    by_cases hjk : j = k
    · have hv : bs.getD j true = false := by rw [hjk]; exact H0.out
      rw [hv] at x0
      have HJ := Lib.hid hjk
      clear hv hjk
      go_wp2
      go_ret
      exact ⟨ret_int (by rw [HJ.out]), Below.refl _ _⟩
    · have hv : bs.getD j true = true := H1.out j (by omega)
      rw [hv] at x0
      have hlt : j < k := by omega
      clear hv hjk
      go_wp2
      go_round
      case rel => exact ⟨j + 1, by omega, by go_num⟩
      case measure => simp [intOf]; omega
def fromCmp (l : List I2) (i k : Nat) : Int := cmpI (at0 l i).1 (at0 l k).1
theorem at0_at {l : List I2} {i : Nat} (h : i < l.length) : at0 l i = l[i] := by show l.getD i (0, 0) = _; rw [List.getD_eq_getElem?_getD, List.getElem?_eq_getElem h]; rfl
set_option maxRecDepth 100000 in
set_option maxHeartbeats 1000000 in
theorem allot1_any (b n c : Nat) (a : Option Addr) (l : List I2) (i k : Nat) (hi : i < n) (hk : k < n) (hs : Sx 2 w a n c (L2 l)) (h0 : w.cell? ⟨b, 0, none⟩ = some (.slice a n c)) :
    Calls Try.prog 46 #[.int .i64 i, .int .i64 k, .pointer (some ⟨b, 0, none⟩)] w fun e w' => e = .returned (.int .i64 (fromCmp l i k)) ∧ ∃ q, w' = w.drewN q := by
  have hlen := hs.n2
  subst hlen
  obtain ⟨g, o, rfl⟩ := hs.addr (by omega)
  unfold fromCmp
  rw [at0_at hi, at0_at hk]
  obtain ⟨x0, -⟩ := hs.at2 hi
  obtain ⟨y0, -⟩ := hs.at2 hk
  generalize l[i] = x at *
  generalize l[k] = y at *
  obtain ⟨x, x'⟩ := x
  obtain ⟨y, y'⟩ := y
  dsimp only at x0 y0 ⊢
  have i0 : (0 : Int) ≤ (i : Int) := by omega
  have i1 : (i : Int) < (l.length : Int) := by omega
  have k0 : (0 : Int) ≤ (k : Int) := by omega
  have k1 : (k : Int) < (l.length : Int) := by omega
  clear hs
  go_enter Try.func46, Try.ntmps46
  go_wp2
  go_still_tail 10, (by kernel_rfl)
  change wpList _ _ _ _ _ _
  go_wp2_with fail
  refine (compare_any _ _ _).mono ?_
  rintro e w1 ⟨rfl, rfl⟩
  go_wp2
  go_ret
  exact ⟨rfl, 1, rfl⟩
theorem eg_allot1 : EG 46 := enters_of Try.func46 (by kernel_rfl) rfl
set_option maxRecDepth 100000 in
set_option maxHeartbeats 1000000 in
theorem stable_small0 {α : Type} [Inhabited α] (enc : α → Value) (hO : OneCell enc) (cf : α → α → Int) (g : Nat) (cb : Array Value) (blk cap : Nat) (d : Array α) (eg : ∀ args w, (callFunc g args).run Try.prog w = .ok (.enter g args) w)
    (hcmp : CmpReads Try.prog g cb enc cf blk 0 d.size w) (hH : Holds enc w blk 0 d) (hsz : d.size < 20) :
    Calls Try.prog 67 #[.slice (some ⟨blk, 0, none⟩) d.size cap, .int .i64 d.size, .func (.func g) #[] cb] w fun e w' => e = .returned (.tuple #[]) ∧ ∃ n, w' = (putRow enc w blk 0 (insertionSort (ltOf cf) d 0 d.size)).drewN n := by
  have HI := Lib.hid (Try.insertionSortCmpFunc_one enc hO cf g cb blk 0 cap 0 d.size d w eg hcmp hH (Nat.zero_le _) (Nat.le_refl _) (by omega))
  clear hcmp hH eg
  generalize insertionSort (ltOf cf) d 0 d.size = d' at *
  generalize d.size = n at *
  have h1 : ¬ (20 : Int) ≤ (n : Int) := by omega
  have h2 : ¬ (20 : Int) < (n : Int) := by omega
  go_enter Try.func67, Try.ntmps67
  go_wp2
  refine wp_loop_once ?_
  go_wp2_with fail
  refine HI.out.mono ?_
  rintro e w1 ⟨rfl, q, rfl⟩
  go_wp2
  refine wp_loop_once ?_
  go_wp2
  go_end0
  exact ⟨rfl, q, rfl⟩
set_option maxRecDepth 100000 in
theorem stable_small {α : Type} [Inhabited α] (enc : α → Value) (hO : OneCell enc) (cf : α → α → Int) (g : Nat) (cb : Array Value) (blk cap : Nat) (d : Array α) (eg : ∀ args w, (callFunc g args).run Try.prog w = .ok (.enter g args) w)
    (hcmp : CmpReads Try.prog g cb enc cf blk 0 d.size w) (hH : Holds enc w blk 0 d) (hsz : d.size < 20) :
    Calls Try.prog 45 #[.slice (some ⟨blk, 0, none⟩) d.size cap, .func (.func g) #[] cb] w fun e w' => e = .returned (.tuple #[]) ∧ ∃ n, w' = (putRow enc w blk 0 (insertionSort (ltOf cf) d 0 d.size)).drewN n := by
  have HI := Lib.hid (stable_small0 w enc hO cf g cb blk cap d eg hcmp hH hsz)
  clear hcmp hH eg
  generalize insertionSort (ltOf cf) d 0 d.size = d' at *
  generalize d.size = n at *
  go_enter Try.func45, Try.ntmps45
  go_wp2_with fail
  refine HI.out.mono ?_
  rintro e w1 ⟨rfl, q, rfl⟩
  go_wp2
  go_end0
  exact ⟨rfl, q, rfl⟩
end
/-- the library's stable sort orders the uses -/
def SortsUses (l : List I2) : Prop := ∀ {w W : World} {bs : List (Nat × Array Value × TypeId)} {os : List Rw} {rs : List (World → Prop)} (_ : Sy w W bs os rs) (i : Nat) {g c c' b0 : Nat} {a : Option Addr}, os[i]? = some ⟨.slice (some ⟨g, 0, none⟩) l.length c', 3, 1, l.length, L1 (idxs (List.range l.length))⟩ →
  Sx 2 w a l.length c (L2 l) → bs[0]? = some (b0, #[.slice a l.length c], 42) →
  Calls Try.prog 45 #[.slice (some ⟨g, 0, none⟩) l.length c', .func (.func 46) #[] #[.pointer (some ⟨b0, 0, none⟩)]] W
    (fun e w' => e = .returned (.tuple #[]) ∧ ∃ order, InOrder l order ∧ Sy w w' bs (os.set i ⟨.slice (some ⟨g, 0, none⟩) l.length c', 3, 1, l.length, L1 (idxs order)⟩) rs)
theorem cmp_from {l : List I2} {i k : Nat} : fromCmp l i k < 0 ↔ (at0 l i).1 < (at0 l k).1 := by unfold fromCmp; exact cmp_neg
instance beforeDec (l : List I2) (i k : Nat) : Decidable (before l i k) := inferInstanceAs (Decidable ((at0 l i).1 < (at0 l k).1 ∨ (at0 l i).1 = (at0 l k).1 ∧ i < k))
theorem sorts_small {l : List I2} (hpos : 0 < l.length) (hsm : l.length < 20) : SortsUses l := by
  intro w W bs os rs h i g c c' b0 a hi hs h0
  haveI : Inhabited (Fin l.length) := ⟨⟨0, hpos⟩⟩
  have hrow : L1 (idxs (List.range l.length)) = (List.finRange l.length).map (encF l.length) := by
    rw [← finRange_val]
    unfold L1 idxs
    rw [List.map_map, List.map_map]
    rfl
  have hdsz : (List.finRange l.length).toArray.size = l.length := by simp
  have hiff : ∀ x y : Fin l.length, (decide (before l x.val y.val)) = true ↔ before l x.val y.val := fun x y => decide_eq_true_iff
  have hO : SWO (fun x y : Fin l.length => decide (before l x.val y.val)) := by
    refine ⟨fun x => ?_, fun x y z hxy hyz => ?_, fun x y z hxy hyz => ?_⟩
    · rw [← Bool.not_eq_true, hiff]; unfold before; omega
    · rw [hiff] at hxy hyz ⊢; unfold before at hxy hyz ⊢; omega
    · rw [← Bool.not_eq_true, hiff] at hxy hyz ⊢; unfold before at hxy hyz ⊢; omega
  have hH : Holds (encF l.length) W g 0 (List.finRange l.length).toArray := fun j hj => by
    rw [hdsz] at hj
    refine ⟨?_, by rw [Nat.zero_add]; exact h.rfree i hi j⟩
    rw [Nat.zero_add]
    refine h.rcell i hi ?_
    rw [hrow, List.getElem?_map, List.getElem?_eq_getElem (by simpa using hj), getElem!_pos _ j (by rw [hdsz]; exact hj)]
    rfl
  have hcmp : CmpReads Try.prog 46 #[.pointer (some ⟨b0, 0, none⟩)] (encF l.length) (fun x y => fromCmp l x.val y.val) g 0 (List.finRange l.length).toArray.size W := by
    intro m os' dk _ x y
    have hV := away_sort (encF l.length) W g m dk os'
    have hc : (sortWorld (encF l.length) W g 0 m dk os').cell? ⟨b0, 0, none⟩ = some (.slice a l.length c) := by
      rw [away_cell hV (h.lt 0 h0) (fun hm => box_apart h h0 hi (List.mem_singleton.1 hm))]
      exact h.cell 0 0 h0 rfl
    exact allot1_any _ b0 l.length c a l x.val y.val x.isLt y.isLt (own_arg h hi hs _ hV) hc
  have hcall := stable_small W (encF l.length) (encF_one _) (fun x y => fromCmp l x.val y.val) 46 #[.pointer (some ⟨b0, 0, none⟩)] g c' (List.finRange l.length).toArray eg_allot1 hcmp hH (by rw [hdsz]; exact hsm)
  rw [sort_stable (ltOf fun x y : Fin l.length => fromCmp l x.val y.val) (fun x y => decide (before l x.val y.val)) (fun x => x.val) (fun x y hxy => by
    unfold ltOf
    refine decide_eq_decide.2 ?_
    rw [cmp_from]
    unfold before
    omega) (Nat.le_refl _) (fun p q _ hpq hq => by
    rw [hdsz] at hq
    rw [getElem!_pos _ p (by rw [hdsz]; omega), getElem!_pos _ q (by rw [hdsz]; omega)]
    simpa using hpq)] at hcall
  obtain ⟨hp, hsd⟩ := insertionSort_holds hO (List.finRange l.length).toArray 0 (List.finRange l.length).toArray.size (Nat.zero_le _) (Nat.le_refl _)
  generalize insertionSort (fun x y : Fin l.length => decide (before l x.val y.val)) (List.finRange l.length).toArray 0 (List.finRange l.length).toArray.size = d' at *
  rw [hdsz] at hcall hp hsd
  refine hcall.mono ?_
  rintro e w' ⟨rfl, m, rfl⟩
  obtain ⟨o1, o2, o3⟩ := sorted_of hiff (fun x y hxy => by
    have : x.val ≠ y.val := fun e => hxy (Fin.ext e)
    unfold before; omega) hp hsd
  refine ⟨rfl, d'.toList.map (fun x => x.val), ⟨o1, o2⟩, ?_⟩
  have hq := h.sorted (enc := encF l.length) i (zs := List.finRange l.length) (ys := d'.toList) (by rw [hi, hrow]) o3 m #[]
  rw [Array.toArray_toList, sortWorld_none] at hq
  have he : d'.toList.map (encF l.length) = L1 (idxs (d'.toList.map (fun x => x.val))) := by
    unfold L1 idxs
    rw [List.map_map, List.map_map]
    rfl
  rw [he] at hq
  exact hq
end Go.Proofs.Yteogibpmpppgmaa

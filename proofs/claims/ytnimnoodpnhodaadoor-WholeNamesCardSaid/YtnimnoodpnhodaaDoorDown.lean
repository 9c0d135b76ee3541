/- (digits).down: the digits from the highest on; word -/
import Derived.Test.YtnimnoodpnhodaaDoorSettled
import Derived.RangeFuncNested
import Derived.RangeFuncBound
import Derived.RangeFuncCalls
import Derived.RangeFuncLeaves
import Derived.RangeFuncBox
import Derived.RangeFuncWrites
import Derived.Shelf.Abstract
import Derived.Shelf.RegionOpen
import Derived.OwnWalkIn
import Derived.TacticsInMore
import Derived.LoopNIn
import Derived.LoopIn
namespace Go.Proofs.YtnimnoodpnhodaaDoor
open Go.RowKit Go.Shelf Dig
attribute [local go_sem] Oper.semAt_some

/-- a digit -/
abbrev Dx := { x : Int // 0 ≤ x ∧ x < 16777216 }

/-- the blocks of a list stay as they are -/
def KeepsSet (s : List Nat) (A B : World) : Prop := ∀ k ∈ s, B.heap[k]? = A.heap[k]?
theorem keepsSet_t {s : List Nat} {A B C : World} (h : KeepsSet s A B) (k : KeepsSet s B C) : KeepsSet s A C := fun i hi => (k i hi).trans (h i hi)
theorem keepsSet_b {s : List Nat} {w : World} (hs : ∀ k ∈ s, k < w.heap.size) (W : World) (l : Nat) (o o' : Obj) (hl : w.heap.size ≤ l) (_ : W.heap[l]? = some o) (_ : o.isCells = false) (_ : o.isWalk = false) : KeepsSet s W (W.putObj l o') := fun k hk => by
  have := hs k hk
  exact World.putObj_heap_other (by omega)

theorem Sl.keeps {t : TypeId} {w w' : World} {v : Value} {xs : List Int} (h : Sl t w v xs) (hk : ∀ k, v.ownBlock = some k → w'.heap[k]? = w.heap[k]?) : Sl t w' v xs := by
  refine ⟨h.1, ?_⟩
  rcases h.2 with hn | ⟨g, cap, cur, rfl, hb0, hg, rest⟩
  · exact .inl hn
  · exact .inr ⟨g, cap, cur, rfl, hb0, by rw [hk g rfl]; exact hg, rest⟩

set_option maxRecDepth 100000 in
set_option maxHeartbeats 2000000 in
/-- the iterator: every digit is yielded, the highest first -/
theorem down1_in (F : Fence) (n : Nat) (h7 : F.fn 76) (hro : F.round = none) (hn : 1 ≤ n) (l Bs : Nat) (a : Option Addr) (len cap : Nat) (ds : List Dx) (hreach : ds.length ≤ 100000000) (J Jx : List Dx → World → Prop)
    (blk : List Nat) (hblk : ∀ k, Value.ownBlock (.slice a len cap) = some k → k ∈ blk)
    (hY : ∀ pre x W, J pre W → pre.length < ds.length → YieldAt F (n - 1) Tryd.prog l #[.int .i64 x.1] W fun e W' =>
      (e = .returned (.bool true) ∧ J (pre ++ [x]) W' ∧ KeepsSet (Bs :: blk) W W') ∨ (e = .returned (.bool false) ∧ Jx (pre ++ [x]) W'))
    (W : World) (hBs : Box W Bs (.slice a len cap) 25) (hc : Sl 2 W (.slice a len cap) (ds.map (·.1))) (h0 : J [] W) :
    CallsIn F n Tryd.prog 76 #[.func (.yield l) #[] #[], .pointer (some ⟨Bs, 0, none⟩)] W fun e W' => (∃ v, e = .returned v) ∧
      ((∃ ys, ys = ds.reverse ∧ J ys W') ∨ (∃ pre, True ∧ Jx pre W')) := by
  have hlen := hc.len
  rw [List.length_map] at hlen
  subst hlen
  have HC := Lib.hid hc
  clear hc
  refine callsIn_of_wp Tryd.func76 rfl h7 ?_ hro
  simp only [Tryd.ntmps76, List.size_toArray, List.length_cons, List.length_nil, Nat.reduceAdd, Nat.reduceSub, Array.replicate_succ, Array.replicate_zero, List.push_toArray, List.append_toArray, List.nil_append, List.cons_append]
  have bc := hBs.cell
  have HB := Lib.hid hBs
  have HK := Lib.hid hblk
  clear hBs hblk
  gi_wp2
  gi_loopw [3] (fun i wr => ∃ k : Nat, k ≤ ds.length ∧ i = .int .i64 ((k : Int) - 1) ∧ J (ds.drop k).reverse wr ∧ KeepsSet (Bs :: blk) W wr)
    (fun i _ => (intOf i + 1).toNat)
  case atStart => exact ⟨ds.length, Nat.le_refl _, rfl, by rw [List.drop_length]; exact h0, fun _ _ => rfl⟩
  case round =>
    obtain ⟨k, hk, rfl, hJs, hnx⟩ := hrel
    have hbox : Box wr Bs (.slice a ds.length cap) 25 := (hnx Bs (by simp)).trans HB.out
    have bc' := hbox.cell
    cases k with
    | zero =>
      gi_wp2
      go_end0
      exact ⟨⟨_, rfl⟩, .inl ⟨_, rfl, hJs⟩⟩
    | succ k =>
      rw [show ((k + 1 : Nat) : Int) - 1 = (k : Int) from by omega]
      have hkl : k < ds.length := by omega
      have hsl : Sl 2 wr (.slice a ds.length cap) (ds.map (·.1)) := HC.out.keeps (fun j hj => hnx j (List.mem_cons_of_mem _ (HK.out j hj)))
      obtain ⟨g, rfl, hgl⟩ := hsl.row (by simp; omega)
      have hcx := hsl.cell (k := k) (by simpa using hkl)
      rw [List.getElem_map] at hcx
      have hdr : (ds.drop k).reverse = (ds.drop (k + 1)).reverse ++ [ds[k]] := by rw [List.drop_eq_getElem_cons hkl, List.reverse_cons]
      have HDR := Lib.hid hdr
      obtain ⟨fn, tmps, assign, body, hy, hR⟩ := hY _ ds[k] wr hJs (by simp; omega)
      clear hsl hdr
      have HX := Lib.hid hnx
      clear hnx hY
      gi_wp2
      refine hR.mono ?_
      rintro e W3 (⟨rfl, hJ3, hk3⟩ | ⟨rfl, hJx3⟩)
      · have HX3 := Lib.hid (keepsSet_t HX.out hk3)
        clear hk3
        gi_wp2
        go_roundw
        case rel => exact ⟨k, by omega, rfl, by rw [HDR.out]; exact hJ3, HX3.out⟩
        case measure => simp [intOf]
      · gi_wp2
        refine bodyPost_ret (results_none rfl _ _ _) rfl ?_
        exact ⟨⟨_, rfl⟩, .inr ⟨_, trivial, hJx3⟩⟩

set_option maxHeartbeats 1000000 in
theorem down_in (F : Fence) (n : Nat) (h5 : F.fn 57) (hro : F.round = none) (v : Value) (_hv : v.oneCell' = true) (w : World) :
    CallsIn F n Tryd.prog 57 #[.agg #[v]] w fun e w' => e = .returned (.func (.func 76) #[] #[.pointer (some ⟨w.heap.size, 0, none⟩)]) ∧ w' = w.alloc (.cells #[v] 25) := by
  refine callsIn_of_wp Tryd.func57 rfl h5 ?_ hro
  simp only [Tryd.ntmps57, List.size_toArray, List.length_cons, List.length_nil, Nat.reduceAdd, Nat.reduceSub, Array.replicate_succ, Array.replicate_zero, List.push_toArray, List.append_toArray, List.nil_append, List.cons_append]
  gi_wp2
  go_ret
  exact ⟨rfl, rfl⟩

/-- down hands back such an iterator -/
theorem down_stops (F : Fence) (n : Nat) (h7 : F.fn 76) (hro : F.round = none) (hn : 1 ≤ n) (Bs : Nat) (a : Option Addr) (len cap : Nat) (ds : List Dx) (hreach : ds.length ≤ 100000000) (w : World)
    (blk : List Nat) (hblk : ∀ k, Value.ownBlock (.slice a len cap) = some k → k ∈ blk) (hBs : Box w Bs (.slice a len cap) 25) (hc : Sl 2 w (.slice a len cap) (ds.map (·.1))) :
    SeqStopsK F n Tryd.prog 76 #[.pointer (some ⟨Bs, 0, none⟩)] (fun x : Dx => #[Value.int .i64 x.1]) (KeepsSet (Bs :: blk)) (fun ys => ys = ds.reverse) (fun _ => True) ds.length w := fun l J Jx W hW _ _ hY h0 =>
  down1_in F n h7 hro hn l Bs a len cap ds hreach J Jx blk hblk hY W (hBs.below hW hBs.lt) (hc.mono hW) h0

/-- what word has read -/
def wf (pre : List Dx) : Nat := pre.foldl (fun n x => (n % 1099511627776) * 16777216 + x.1.toNat) 0
theorem wf_snoc (pre : List Dx) (x : Dx) : wf (pre ++ [x]) = (wf pre % 1099511627776) * 16777216 + x.1.toNat := by simp [wf]
theorem wf_lt : ∀ pre : List Dx, wf pre < 18446744073709551616 := by
  intro pre
  rcases List.eq_nil_or_concat pre with rfl | ⟨ini, x, rfl⟩
  · simp [wf]
  · rw [List.concat_eq_append, wf_snoc]; have := x.2; omega

theorem wf_reverse : ∀ ds : List Dx, vl 16777216 (ds.map (·.1)) < 18446744073709551616 → (wf ds.reverse : Int) = vl 16777216 (ds.map (·.1))
  | [], _ => by simp [wf, vl]
  | x :: ds, h => by
    rw [List.map_cons, vl] at h ⊢
    have hx := x.2
    have h0 : 0 ≤ vl 16777216 (ds.map (·.1)) := vl_nonneg (b := 16777216) (fun y hy => by obtain ⟨z, _, rfl⟩ := List.mem_map.1 hy; exact z.2.1)
    have ih := wf_reverse ds (by omega)
    rw [List.reverse_cons, wf_snoc]
    omega

theorem u64_shl_or (n : Nat) (x : Int) (hx : 0 ≤ x ∧ x < 16777216) : bits .or .u64 (IntKind.u64.wrap ((n : Int) * 16777216)) x = (((n % 1099511627776) * 16777216 + x.toNat : Nat) : Int) := by
  have hw : IntKind.u64.wrap ((n : Int) * 16777216) = ((n % 1099511627776 : Nat) : Int) * 16777216 := by rw [IntKind.wrap_u64]; omega
  rw [hw, bits_join .u64 64 (by decide) (fun m h0 h1 => by rw [IntKind.wrap_u64]; omega) 24 _ _ (by omega) (by omega) (by omega) hx.1 (by omega) (by omega)]
  omega

set_option maxRecDepth 100000 in
set_option maxHeartbeats 2000000 in
theorem dword_in (F : Fence) (n : Nat) (h3 : F.fn 49) (h5 : F.fn 57) (h7 : F.fn 76) (hro : F.round = none) (hn : 3 ≤ n) (a : Option Addr) (len cap : Nat) (ds : List Dx) (hreach : ds.length ≤ 100000000) (w : World)
    (hI : Sl 2 w (.slice a len cap) (ds.map (·.1))) :
    CallsIn F n Tryd.prog 49 #[.agg #[.slice a len cap]] w fun e W' => e = .returned (.int .u64 (wf ds.reverse)) ∧ Below w.heap.size w W' := by
  have h1 : 1 ≤ n := by omega
  refine callsIn_of_wp_marks Tryd.func49 rfl h3 ?_ hro
  simp only [Tryd.ntmps49, List.size_toArray, List.length_cons, List.length_nil, Nat.reduceAdd, Nat.reduceSub, Array.replicate_succ, Array.replicate_zero, List.push_toArray, List.append_toArray, List.nil_append, List.cons_append]
  gi_wp2_with (gi_at_call 57; refine (down_in F (n - 1) h5 hro _ rfl _).mono ?_; rintro e w' ⟨rfl, rfl⟩)
  have hB0 : Below w.heap.size w (((w.alloc (.cells #[.slice a len cap] 25)).alloc (.cells #[.int .u64 0] 65)).alloc (.cells #[.slice a len cap] 25)) := (((Below.refl _ w).alloc (Nat.le_refl _) _).alloc (by go_size) _).alloc (by go_size) _
  have bN : Box (((w.alloc (.cells #[.slice a len cap] 25)).alloc (.cells #[.int .u64 0] 65)).alloc (.cells #[.slice a len cap] 25)) (w.heap.size + 1) (.int .u64 0) 65 := (Box.new' (by simp)).alloc _
  have bD : Box (((w.alloc (.cells #[.slice a len cap] 25)).alloc (.cells #[.int .u64 0] 65)).alloc (.cells #[.slice a len cap] 25)) (w.heap.size + 1 + 1) (.slice a len cap) 25 := Box.new' (by simp)
  have hblk : ∀ k ∈ (w.heap.size + 1 + 1) :: (Value.ownBlock (.slice a len cap)).toList, k < w.heap.size + 3 ∧ k ≠ w.heap.size + 1 := by
    intro k hk
    rcases List.mem_cons.1 hk with rfl | hk
    · omega
    · have := hI.lt k (by simpa using hk); omega
  refine wpIn_rangeFunc_ownG hro h1 (gf := 76) (lb := #[.pointer (some ⟨w.heap.size + 1 + 1, 0, none⟩)]) rfl h7 (enters_of Tryd.func76 (by kernel_rfl) rfl)
    (down_stops F (n - 1) h7 hro (by omega) (w.heap.size + 1 + 1) a len cap ds hreach _ (Value.ownBlock (.slice a len cap)).toList (fun k hk => by simp [hk]) bD (hI.mono hB0)) keepsSet_t (keepsSet_b (fun k hk => by have := (hblk k hk).1; simp; omega)) (Below.refl _ _) (fun _ => rfl)
    (fun pre W => (W.cell? ⟨w.heap.size + 1, 0, none⟩ = some (.int .u64 (wf pre)) ∧ W.frozen? ⟨w.heap.size + 1, 0, none⟩ = false) ∧ Below w.heap.size w W)
    (fun _ _ _ => False)
    (OwnFrom.and (Own.from (fun s A B row hs hg hr => ⟨cell_kept hs.1 hg hr, (frozen_kept hs.1 hg hr).trans hs.2⟩) _) (ownFrom_below (Nat.le_refl _) (by simp; omega)))
    (fun _ _ _ _ _ hs _ _ => hs)
    ⟨⟨bN.cell, bN.free⟩, hB0⟩
    (fun x => { tmps := #[.agg #[.slice a len cap], .pointer (some ⟨w.heap.size, 0, none⟩), .int .u64 0, .pointer (some ⟨w.heap.size + 1, 0, none⟩), .int .i64 x.1, .agg #[.slice a len cap], .func (.func 76) #[] #[.pointer (some ⟨w.heap.size + 1 + 1, 0, none⟩)], .int .i64 x.1, undef, undef, undef, undef, undef, undef], defers := [] }) ?assign ?body ?done ?stop
  case assign =>
    intro l x W K hK
    gi_wp2
    exact hK
  case body =>
    rintro l pre x W ⟨⟨hc, hf⟩, hB⟩ _
    have hx1 : 0 ≤ x.1 ∧ x.1 < 16777216 := x.2
    gi_wp2
    rw [u64_shl_or _ _ hx1, ← wf_snoc]
    refine ⟨(KeepsOthers.setCell _ _ _).from _, fun k hk => Below.heap_setCell _ _ _ _ (fun e => (hblk k hk).2 e), ⟨⟨World.cell?_setCell_same' _ _ _ (by rw [hc]; rfl), by rw [World.frozen?_setCell]; exact hf⟩, hB.setCell (p := ⟨w.heap.size + 1, 0, none⟩) (by simp) _⟩⟩
  case done =>
    rintro D ys W hD rfl ⟨⟨hc, _⟩, hB⟩ hK
    gi_wp2
    refine ⟨by simp, .inl ⟨_, _, rfl, run_takeDeferred hK, ?_⟩⟩
    exact ⟨_, results_tmp rfl _ _ _, rfl, hB.trans (belowK_b (w := w) (Nat.le_refl _) W D _ _ (by simp at hD; omega) hK rfl rfl)⟩
  case stop =>
    rintro D c pre W _ _ h _
    exact h.elim

/-- the digits, each with its bounds -/
theorem dx_of (N : Nat) : ∃ ds : List Dx, ds.map (·.1) = dg 16777216 N :=
  ⟨(dg 16777216 N).attachWith _ (dg_mem (b := 16777216) (by omega) N), by simp⟩

theorem dword_any (a : Option Addr) (n c : Nat) (M : Nat) (w : World) (h1 : Dg w (.slice a n c) M) (hM : M < 18446744073709551616) :
    Calls Tryd.prog 49 #[.agg #[.slice a n c]] w fun e w' => e = .returned (.int .u64 M) ∧ Below w.heap.size w w' := by
  obtain ⟨ds, hds⟩ := dx_of M
  have hlen : ds.length ≤ 3 := by
    have h := congrArg List.length hds
    rw [List.length_map] at h
    rw [h]
    exact dg_len_le (by omega) (Nat.lt_of_lt_of_le hM (by decide))
  have hv : vl 16777216 (ds.map (·.1)) = (M : Int) := by rw [hds]; exact vl_dg (b := 16777216) (by omega) M
  have hr := wf_reverse ds (by omega)
  have hr2 : wf ds.reverse = M := by omega
  unfold Dg at h1
  rw [← hds] at h1
  refine callsIn_wide (n := 3).1 ?_
  rw [← hr2]
  exact dword_in _ 3 trivial trivial trivial rfl (Nat.le_refl _) a n c ds (by omega) w h1

end Go.Proofs.YtnimnoodpnhodaaDoor

/- the law WholeFolds: its walk -/
import Derived.Test.YtmfplelodnoicaaGreatDoorWB8
import Derived.Test.YtmfplelodnoicaaGreatDoorWB6
import Derived.Test.YtmfplelodnoicaaGreatDoorWB5
import Derived.Test.YtmfplelodnoicaaGreatDoorWN25
import Derived.Test.YtmfplelodnoicaaGreatDoorWSyK
namespace Go.Proofs.YtmfplelodnoicaaGreatDoor
open Go.RowKit Dig

/-- a row of numbers that is handed in -/
def NumRow (W : World) (a : Option Addr) (l : List (Int × Int)) : Prop := ∀ k (hk : k < l.length), ∃ p : Addr, a = some p ∧ p.block < W.heap.size ∧
  W.cell? (p.add (k * 2)) = some (.int .i64 l[k].1) ∧ W.cell? ⟨(p.add (k * 2)).block, (p.add (k * 2)).off + 1, none⟩ = some (.int .i64 l[k].2) ∧
  (-9223372036854775808 ≤ l[k].1 ∧ l[k].1 < 9223372036854775808) ∧ (-9223372036854775808 ≤ l[k].2 ∧ l[k].2 < 9223372036854775808)
theorem add_block (p : Addr) (k : Nat) : (p.add k).block = p.block := by unfold Addr.add; split <;> rfl
/-- the ratios of a row of numbers -/
def qsOf (l : List (Int × Int)) : List Rat := l.map fun x => num x.1 x.2
theorem qsOf_take (l : List (Int × Int)) (k : Nat) (h : k < l.length) : (qsOf l).take (k + 1) = (qsOf l).take k ++ [num l[k].1 l[k].2] := by
  unfold qsOf
  rw [List.take_succ_eq_append_getElem (by rw [List.length_map]; exact h), List.getElem_map]
/-- cells of a row of ratios, and what they read as -/
def RdAll (V : World) (xs : List Value) (qs : List Rat) : Prop := xs.length = qs.length * 3 ∧ ∀ k (hk : k < qs.length), ∃ a n c m d e f, xs[k * 3]? = some (.slice a n c) ∧ xs[k * 3 + 1]? = some (.bool m) ∧ xs[k * 3 + 2]? = some (.slice d e f) ∧ Rd V (.slice a n c) m (.slice d e f) qs[k]
def NqAll (V : World) (xs : List Value) (qs : List Rat) : Prop := xs.length = qs.length * 4 ∧ ∀ k (hk : k < qs.length), ∃ s a n c t d e f, xs[k * 4]? = some (.int .i64 s) ∧ xs[k * 4 + 1]? = some (.slice a n c) ∧ xs[k * 4 + 2]? = some (.int .i64 t) ∧ xs[k * 4 + 3]? = some (.slice d e f) ∧ Nq V s (.slice a n c) t (.slice d e f) qs[k]
theorem RdAll.keep {V V' : World} {xs : List Value} {qs : List Rat} (h : RdAll V xs qs) (hk : Keeps V V') : RdAll V' xs qs := ⟨h.1, fun k hk' => by
  obtain ⟨a, n, c, m, d, e, f, h1, h2, h3, h4⟩ := h.2 k hk'
  exact ⟨a, n, c, m, d, e, f, h1, h2, h3, h4.keep hk⟩⟩
theorem NqAll.keep {V V' : World} {xs : List Value} {qs : List Rat} (h : NqAll V xs qs) (hk : Keeps V V') : NqAll V' xs qs := ⟨h.1, fun k hk' => by
  obtain ⟨s, a, n, c, t, d, e, f, h1, h2, h3, h4, h5⟩ := h.2 k hk'
  exact ⟨s, a, n, c, t, d, e, f, h1, h2, h3, h4, h5.keep hk⟩⟩
theorem RdAll.nil {V : World} : RdAll V [] [] := ⟨rfl, fun k hk => absurd hk (Nat.not_lt_zero k)⟩
theorem NqAll.nil {V : World} : NqAll V [] [] := ⟨rfl, fun k hk => absurd hk (Nat.not_lt_zero k)⟩
theorem RdAll.snoc {V : World} {xs : List Value} {qs : List Rat} {a : Option Addr} {n c : Nat} {m : Bool} {d : Option Addr} {e f : Nat} {q : Rat} (h : RdAll V xs qs) (hq : Rd V (.slice a n c) m (.slice d e f) q) : RdAll V (xs ++ [.slice a n c, .bool m, .slice d e f]) (qs ++ [q]) := by
  refine ⟨by rw [List.length_append, List.length_append, h.1]; simp only [List.length_cons, List.length_nil]; omega, fun k hk => ?_⟩
  have hl := h.1
  by_cases hk' : k < qs.length
  · obtain ⟨a, n, c, m, d, e, f, h1, h2, h3, h4⟩ := h.2 k hk'
    refine ⟨a, n, c, m, d, e, f, ?_, ?_, ?_, ?_⟩
    · rw [List.getElem?_append_left (by omega)]; exact h1
    · rw [List.getElem?_append_left (by omega)]; exact h2
    · rw [List.getElem?_append_left (by omega)]; exact h3
    · rw [List.getElem_append_left hk']; exact h4
  · have hk2 : k = qs.length := by rw [List.length_append] at hk; simp only [List.length_cons, List.length_nil] at hk; omega
    subst hk2
    refine ⟨a, n, c, m, d, e, f, ?_, ?_, ?_, ?_⟩
    · rw [List.getElem?_append_right (by omega), show qs.length * 3 - xs.length = 0 by omega]; rfl
    · rw [List.getElem?_append_right (by omega), show qs.length * 3 + 1 - xs.length = 1 by omega]; rfl
    · rw [List.getElem?_append_right (by omega), show qs.length * 3 + 2 - xs.length = 2 by omega]; rfl
    · rw [List.getElem_append_right (Nat.le_refl _)]; simpa using hq
theorem NqAll.snoc {V : World} {xs : List Value} {qs : List Rat} {s : Int} {a : Option Addr} {n c : Nat} {t : Int} {d : Option Addr} {e f : Nat} {q : Rat} (h : NqAll V xs qs) (hq : Nq V s (.slice a n c) t (.slice d e f) q) : NqAll V (xs ++ [.int .i64 s, .slice a n c, .int .i64 t, .slice d e f]) (qs ++ [q]) := by
  refine ⟨by rw [List.length_append, List.length_append, h.1]; simp only [List.length_cons, List.length_nil]; omega, fun k hk => ?_⟩
  have hl := h.1
  by_cases hk' : k < qs.length
  · obtain ⟨s, a, n, c, t, d, e, f, h1, h2, h3, h4, h5⟩ := h.2 k hk'
    refine ⟨s, a, n, c, t, d, e, f, ?_, ?_, ?_, ?_, ?_⟩
    · rw [List.getElem?_append_left (by omega)]; exact h1
    · rw [List.getElem?_append_left (by omega)]; exact h2
    · rw [List.getElem?_append_left (by omega)]; exact h3
    · rw [List.getElem?_append_left (by omega)]; exact h4
    · rw [List.getElem_append_left hk']; exact h5
  · have hk2 : k = qs.length := by rw [List.length_append] at hk; simp only [List.length_cons, List.length_nil] at hk; omega
    subst hk2
    refine ⟨s, a, n, c, t, d, e, f, ?_, ?_, ?_, ?_, ?_⟩
    · rw [List.getElem?_append_right (by omega), show qs.length * 4 - xs.length = 0 by omega]; rfl
    · rw [List.getElem?_append_right (by omega), show qs.length * 4 + 1 - xs.length = 1 by omega]; rfl
    · rw [List.getElem?_append_right (by omega), show qs.length * 4 + 2 - xs.length = 2 by omega]; rfl
    · rw [List.getElem?_append_right (by omega), show qs.length * 4 + 3 - xs.length = 3 by omega]; rfl
    · rw [List.getElem_append_right (Nat.le_refl _)]; simpa using hq
theorem rowR_of {W : World} {v : Value} {xs : List Value} {qs : List Rat} (h : W.ownsRow 0 48 3 v qs.length xs) (hr : RdAll W xs qs) : ∃ a c, v = .slice a qs.length c ∧ RowR W (.slice a qs.length c) qs := by
  rcases h.2 with ⟨rfl, h0⟩ | ⟨g, cap, cur, rfl, _, hg, _⟩
  · exact ⟨none, 0, by rw [h0], none, 0, rfl, fun k hk => by omega⟩
  · refine ⟨some ⟨g, 0, none⟩, cap, rfl, some ⟨g, 0, none⟩, cap, rfl, fun k hk => ?_⟩
    obtain ⟨a, n, c, m, d, e, f, h1, h2, h3, h4⟩ := hr.2 k hk
    have key : ∀ j u, xs[j]? = some u → W.cell? ⟨g, j, none⟩ = some u := fun j u hu => by
      have := World.ownsRow.cells h (g := g) rfl j u hu
      have hadd : (⟨g, 0, none⟩ : Addr).add j = ⟨g, j, none⟩ := by unfold Addr.add; split <;> simp_all
      rwa [hadd] at this
    exact ⟨g, _, m, _, rfl, (Array.getElem?_eq_some_iff.1 hg).1, key _ _ h1, key _ _ h2, key _ _ h3, h4⟩
theorem rowQ_of {W : World} {v : Value} {xs : List Value} {qs : List Rat} (h : W.ownsRow 0 54 4 v qs.length xs) (hr : NqAll W xs qs) : ∃ a c, v = .slice a qs.length c ∧ RowQ W (.slice a qs.length c) qs := by
  rcases h.2 with ⟨rfl, h0⟩ | ⟨g, cap, cur, rfl, _, hg, _⟩
  · exact ⟨none, 0, by rw [h0], none, 0, rfl, fun k hk => by omega⟩
  · refine ⟨some ⟨g, 0, none⟩, cap, rfl, some ⟨g, 0, none⟩, cap, rfl, fun k hk => ?_⟩
    obtain ⟨s, a, n, c, t, d, e, f, h1, h2, h3, h4, h5⟩ := hr.2 k hk
    have key : ∀ j u, xs[j]? = some u → W.cell? ⟨g, j, none⟩ = some u := fun j u hu => by
      have := World.ownsRow.cells h (g := g) rfl j u hu
      have hadd : (⟨g, 0, none⟩ : Addr).add j = ⟨g, j, none⟩ := by unfold Addr.add; split <;> simp_all
      rwa [hadd] at this
    exact ⟨g, s, a, n, c, t, d, e, f, rfl, (Array.getElem?_eq_some_iff.1 hg).1, key _ _ h1, key _ _ h2, key _ _ h3, key _ _ h4, h5⟩
theorem cell_away {W V : World} (h : Away [] W V) {b k : Nat} (hb : b < W.heap.size) : V.cell? ⟨b, k, none⟩ = W.cell? ⟨b, k, none⟩ := World.cell?_of_block (a := ⟨b, k, none⟩) (h.2 b hb (by simp))
theorem keeps_away {W V : World} (h : Away [] W V) : Keeps W V := ⟨h.1, fun k _ hk _ => (h.2 k (Array.getElem?_eq_some_iff.1 hk).1 (by simp)).trans hk⟩
theorem RowR.away {W V : World} {v : Value} {qs : List Rat} (h : RowR W v qs) (hV : Away [] W V) : RowR V v qs := by
  obtain ⟨a, c, rfl, h⟩ := h
  refine ⟨a, c, rfl, fun k hk => ?_⟩
  obtain ⟨g, s, m, s', h1, h2, h3, h4, h5, h6⟩ := h k hk
  exact ⟨g, s, m, s', h1, Nat.lt_of_lt_of_le h2 hV.1, (cell_away hV h2).trans h3, (cell_away hV h2).trans h4, (cell_away hV h2).trans h5, h6.keep (keeps_away hV)⟩
theorem RowQ.away {W V : World} {v : Value} {qs : List Rat} (h : RowQ W v qs) (hV : Away [] W V) : RowQ V v qs := by
  obtain ⟨a, c, rfl, h⟩ := h
  refine ⟨a, c, rfl, fun k hk => ?_⟩
  obtain ⟨g, s, ga, gn, gc, t, ha, hn, hc, h1, h2, h3, h4, h5, h6, h7⟩ := h k hk
  exact ⟨g, s, ga, gn, gc, t, ha, hn, hc, h1, Nat.lt_of_lt_of_le h2 hV.1, (cell_away hV h2).trans h3, (cell_away hV h2).trans h4, (cell_away hV h2).trans h5, (cell_away hV h2).trans h6, h7.keep (keeps_away hV)⟩
theorem infoR : (Tryz.prog.info? 48).map (fun i => (i.zero, i.size, i.bytes)) = some (some (.agg #[.slice none 0 0, .bool false, .slice none 0 0]), 3, 56) := by kernel_rfl
theorem infoQ : (Tryz.prog.info? 54).map (fun i => (i.zero, i.size, i.bytes)) = some (some (.agg #[.int .i64 0, .slice none 0 0, .int .i64 0, .slice none 0 0]), 4, 64) := by kernel_rfl

set_option maxRecDepth 100000 in
set_option maxHeartbeats 8000000 in
theorem folds_few (a : Option Addr) (l : List (Int × Int)) (c : Nat) (w : World) (h : NumRow w a l) (hl : l.length ≤ 30) :
    Calls Tryz.prog 10 #[.slice a l.length c] w (fun e w' => e = .returned (.bool true) ∧ Below w.heap.size w w') := by
  have HB := Lib.hid (show ∀ q ∈ qsOf l, Bq 64 q from fun q hq => by
    unfold qsOf at hq
    obtain ⟨x, hx, rfl⟩ := List.mem_map.1 hq
    obtain ⟨k, hk, rfl⟩ := List.getElem_of_mem hx
    obtain ⟨_, _, _, _, _, h1, h2⟩ := h k hk
    exact num_bd h1 h2)
  have HR := Lib.hid h
  clear h
  have hl0 : ¬ ((30 : Int) < (l.length : Int)) := by omega
  have hC := Lib.hid ((((Sy.enter w).onil 48 3).onil 54 4).pushK rfl rfl (fun V V' k (hz : RdAll V [] []) => hz.keep k) RdAll.nil |>.pushK rfl rfl (fun V V' k (hz : NqAll V [] []) => hz.keep k) NqAll.nil)
  go_enter Tryz.func10, Tryz.ntmps10
  go_wp2
  go_loopw [3, 4, 5] (fun s3 s4 s5 wr => ∃ (k : Nat) (v3 v4 : Value) (xs ys : List Value), k ≤ l.length ∧ s3 = v3 ∧ s4 = v4 ∧ s5 = .int .i64 k ∧ Hid (Sy w wr [] [⟨v3, 48, 3, k, xs⟩, ⟨v4, 54, 4, k, ys⟩] [fun V => RdAll V xs ((qsOf l).take k), fun V => NqAll V ys ((qsOf l).take k)])) (fun _ _ s5 _ => l.length - (intOf s5).toNat)
  case atStart => exact ⟨0, _, _, [], [], by omega, rfl, rfl, rfl, hC⟩
  case round =>
    clear hC
    obtain ⟨k, v3, v4, xs, ys, hk, rfl, rfl, rfl, hC⟩ := hrel
    by_cases hlt : k < l.length
    · obtain ⟨p, rfl, hp, hc0, hc1, hN, hD⟩ := HR.out k hlt
      have hi0 : (0 : Int) ≤ (k : Int) := by omega
      have hi1 : (k : Int) < (l.length : Int) := by omega
      have x0 := (hC.out.be.cell (p := p.add (k * 2)) (by rw [add_block]; exact hp)).trans hc0
      have x1 := (hC.out.be.cell (p := ⟨(p.add (k * 2)).block, (p.add (k * 2)).off + 1, none⟩) (by show (p.add (k * 2)).block < _; rw [add_block]; exact hp)).trans hc1
      have HT := Lib.hid (qsOf_take l k hlt)
      obtain ⟨nk, hnk⟩ : ∃ z : Int, l[k].1 = z := ⟨_, rfl⟩
      obtain ⟨dk, hdk⟩ : ∃ z : Int, l[k].2 = z := ⟨_, rfl⟩
      rw [hnk] at x0 hN HT
      rw [hdk] at x1 hD HT
      have HN := Lib.hid hN
      have HD := Lib.hid hD
      clear hc0 hc1 hN hD hnk hdk hp
      go_wp2_with fail
      refine (both_any nk dk _ HN.out HD.out).mono ?_
      rintro e w1 ⟨a1, n1, c1, m1, d1, e1, f1, s2, a2, n2, c2, t2, d2, e2, f2, rfl, hz, hn, hb⟩
      have hC1 := Lib.hid ((((hC.out.call hb).pr rfl rfl hz).pq rfl rfl hn |>.al w1.heap.size #[.slice a1 n1 c1, .bool m1, .slice d1 e1 f1] 48 rfl).al (w1.heap.size + 1) #[.int .i64 s2, .slice a2 n2 c2, .int .i64 t2, .slice d2 e2 f2] 54 (by simp))
      clear hz hn hb hC x0 x1
      go_upto_region 9 with fail
      refine wp_geny hC1.out ?_
      intro W hc
      clear hC1
      have hD1 := Lib.hid hc
      clear hc
      refine wp_region_noPanic ?_
      refine wp_region_held_drew (S := (fun w' => w'.cell? ⟨w1.heap.size, 0, none⟩ = some (.slice a1 n1 c1) ∧ w'.cell? ⟨w1.heap.size, 1, none⟩ = some (.bool m1) ∧ w'.cell? ⟨w1.heap.size, 2, none⟩ = some (.slice d1 e1 f1) ∧ w'.cell? ⟨w1.heap.size + 1, 0, none⟩ = some (.int .i64 s2) ∧ w'.cell? ⟨w1.heap.size + 1, 1, none⟩ = some (.slice a2 n2 c2) ∧ w'.cell? ⟨w1.heap.size + 1, 2, none⟩ = some (.int .i64 t2) ∧ w'.cell? ⟨w1.heap.size + 1, 3, none⟩ = some (.slice d2 e2 f2) ∧ True)) (by kernel_rfl) ⟨hD1.out.drew.cell 0 0 rfl rfl, hD1.out.drew.cell 0 1 rfl rfl, hD1.out.drew.cell 0 2 rfl rfl, hD1.out.drew.cell 1 0 rfl rfl, hD1.out.drew.cell 1 1 rfl rfl, hD1.out.drew.cell 1 2 rfl rfl, hD1.out.drew.cell 1 3 rfl rfl, trivial⟩ (fun hH => ?_)
      refine wpAnyH_geny (show Sy w _ [(w1.heap.size, #[.slice a1 n1 c1, .bool m1, .slice d1 e1 f1], 48), (w1.heap.size + 1, #[.int .i64 s2, .slice a2 n2 c2, .int .i64 t2, .slice d2 e2 f2], 54)] [⟨u3, 48, 3, k, xs⟩, ⟨u4, 54, 4, k, ys⟩] [fun V => RdAll V xs ((qsOf l).take k), fun V => NqAll V ys ((qsOf l).take k), fun V => Rd V (.slice a1 n1 c1) m1 (.slice d1 e1 f1) (num nk dk), fun V => Nq V s2 (.slice a2 n2 c2) t2 (.slice d2 e2 f2) (num nk dk)] from hD1.out.drew) hH ?_
      intro Vy_0 hc hHy_0
      have hVy_0 := Lib.hid hc
      clear hc hH hD1
      refine wpAnyH_take (i := 0) (oi := ⟨_, _, _, _, _, _⟩) (v := ?_) rfl (by kernel_rfl) (by kernel_rfl) (by kernel_rfl) (fun _ _ _ h => h) (Or.inl ⟨by rfl, ?_⟩) hHy_0 ?_
      rotate_left
      · intro wS hSw; (try dsimp only at hSw); go_simp; try with_reducible rfl
      try simp only [Act.put, List.setIfInBounds_toArray, List.set_cons_zero, List.set_cons_succ]
      refine wpAnyH_take (i := 1) (oi := ⟨_, _, _, _, _, _⟩) (v := ?_) rfl (by kernel_rfl) (by kernel_rfl) (by kernel_rfl) (fun _ _ _ h => h) (Or.inl ⟨by rfl, ?_⟩) hHy_0 ?_
      rotate_left
      · intro wS hSw; (try dsimp only at hSw); go_simp; try with_reducible rfl
      try simp only [Act.put, List.setIfInBounds_toArray, List.set_cons_zero, List.set_cons_succ]
      refine wpAnyH_take (i := 4) (oi := ⟨_, _, _, _, _, _⟩) (v := ?_) rfl (by kernel_rfl) (by kernel_rfl) (by kernel_rfl) (fun _ _ _ h => h) (Or.inl ⟨by rfl, ?_⟩) hHy_0 ?_
      rotate_left
      · intro wS hSw; (try dsimp only at hSw); go_simp; try with_reducible rfl
      try simp only [Act.put, List.setIfInBounds_toArray, List.set_cons_zero, List.set_cons_succ]
      refine wpAnyH_take (i := 5) (oi := ⟨_, _, _, _, _, _⟩) (v := ?_) rfl (by kernel_rfl) (by kernel_rfl) (by kernel_rfl) (fun _ _ _ h => h) (Or.inl ⟨by rfl, ?_⟩) hHy_0 ?_
      rotate_left
      · intro wS hSw; (try dsimp only at hSw); go_simp; try with_reducible rfl
      try simp only [Act.put, List.setIfInBounds_toArray, List.set_cons_zero, List.set_cons_succ]
      refine wpAnyH_ready (rs := [2, 6]) (by kernel_rfl) (by simp) ?_
      refine AllReadyH.cons (o := ⟨_, _, _, _, _, _⟩) rfl (fun Kq hKq => ?_) ?_
      · go_simp
        refine stepY hKq (show Sy w _ [(w1.heap.size, #[.slice a1 n1 c1, .bool m1, .slice d1 e1 f1], 48), (w1.heap.size + 1, #[.int .i64 s2, .slice a2 n2 c2, .int .i64 t2, .slice d2 e2 f2], 54)] [⟨u3, 48, 3, k, xs⟩, ⟨u4, 54, 4, k, ys⟩, ⟨.slice (some ⟨Vy_0.heap.size, 0, none⟩) 1 1, 48, 3, 1, [.slice a1 n1 c1, .bool m1, .slice d1 e1 f1]⟩] [fun V => RdAll V xs ((qsOf l).take k), fun V => NqAll V ys ((qsOf l).take k), fun V => Rd V (.slice a1 n1 c1) m1 (.slice d1 e1 f1) (num nk dk), fun V => Nq V s2 (.slice a2 n2 c2) t2 (.slice d2 e2 f2) (num nk dk)] from (hVy_0.out.onew Vy_0.heap.size #[.slice a1 n1 c1, .bool m1, .slice d1 e1 f1] 48 3 1 rfl (by omega) rfl)) (fun _ hX => ⟨hX.cell 0 0 rfl rfl, hX.cell 0 1 rfl rfl, hX.cell 0 2 rfl rfl, hX.cell 1 0 rfl rfl, hX.cell 1 1 rfl rfl, hX.cell 1 2 rfl rfl, hX.cell 1 3 rfl rfl, trivial⟩) ?_
        intro Vy_1 hc hHy_1
        have hVy_1 := Lib.hid hc
        clear hc hKq Kq hVy_0 hHy_0
        try simp only [Act.put, List.setIfInBounds_toArray, List.set_cons_zero, List.set_cons_succ]
        refine wpAnyH_ready (rs := [3, 6]) (by kernel_rfl) (by simp) ?_
        refine AllReadyH.cons (o := ⟨_, _, _, _, _, _⟩) rfl (fun Kq hKq => ?_) ?_
        · rw [if_pos (by rfl)]
          refine op_append_sy hVy_1.out 0 2 rfl rfl _ _ _ rfl Tryz.underlying97 infoR rfl (by omega) rfl rfl (by intro u hu; simp only [List.mem_cons, List.not_mem_nil, or_false] at hu; rcases hu with rfl | rfl | rfl <;> rfl) (by omega) (by omega) (fun aAy_2 cAy_2 _ hc => ?_)
          refine stepY hKq (show Sy w _ [(w1.heap.size, #[.slice a1 n1 c1, .bool m1, .slice d1 e1 f1], 48), (w1.heap.size + 1, #[.int .i64 s2, .slice a2 n2 c2, .int .i64 t2, .slice d2 e2 f2], 54)] [⟨.slice aAy_2 (k + 1) cAy_2, 48, 3, k + 1, xs ++ [.slice a1 n1 c1, .bool m1, .slice d1 e1 f1]⟩, ⟨u4, 54, 4, k, ys⟩, ⟨.slice (some ⟨Vy_0.heap.size, 0, none⟩) 1 1, 48, 3, 1, [.slice a1 n1 c1, .bool m1, .slice d1 e1 f1]⟩] [fun V => RdAll V xs ((qsOf l).take k), fun V => NqAll V ys ((qsOf l).take k), fun V => Rd V (.slice a1 n1 c1) m1 (.slice d1 e1 f1) (num nk dk), fun V => Nq V s2 (.slice a2 n2 c2) t2 (.slice d2 e2 f2) (num nk dk)] from hc) (fun _ hX => ⟨hX.cell 0 0 rfl rfl, hX.cell 0 1 rfl rfl, hX.cell 0 2 rfl rfl, hX.cell 1 0 rfl rfl, hX.cell 1 1 rfl rfl, hX.cell 1 2 rfl rfl, hX.cell 1 3 rfl rfl, trivial⟩) ?_
          intro Vy_2 hc2 hHy_2
          have hVy_2 := Lib.hid hc2
          clear hc2 hKq Kq hVy_1 hc hHy_1
          try simp only [Act.put, List.setIfInBounds_toArray, List.set_cons_zero, List.set_cons_succ]
          refine wpAnyH_ready (rs := [6]) (by kernel_rfl) (by simp) ?_
          refine AllReadyH.cons (o := ⟨_, _, _, _, _, _⟩) rfl (fun Kq hKq => ?_) AllReadyH.nil
          go_simp
          refine stepY hKq (show Sy w _ [(w1.heap.size, #[.slice a1 n1 c1, .bool m1, .slice d1 e1 f1], 48), (w1.heap.size + 1, #[.int .i64 s2, .slice a2 n2 c2, .int .i64 t2, .slice d2 e2 f2], 54)] [⟨.slice aAy_2 (k + 1) cAy_2, 48, 3, k + 1, xs ++ [.slice a1 n1 c1, .bool m1, .slice d1 e1 f1]⟩, ⟨u4, 54, 4, k, ys⟩, ⟨.slice (some ⟨Vy_0.heap.size, 0, none⟩) 1 1, 48, 3, 1, [.slice a1 n1 c1, .bool m1, .slice d1 e1 f1]⟩, ⟨.slice (some ⟨Vy_2.heap.size, 0, none⟩) 1 1, 54, 4, 1, [.int .i64 s2, .slice a2 n2 c2, .int .i64 t2, .slice d2 e2 f2]⟩] [fun V => RdAll V xs ((qsOf l).take k), fun V => NqAll V ys ((qsOf l).take k), fun V => Rd V (.slice a1 n1 c1) m1 (.slice d1 e1 f1) (num nk dk), fun V => Nq V s2 (.slice a2 n2 c2) t2 (.slice d2 e2 f2) (num nk dk)] from (hVy_2.out.onew Vy_2.heap.size #[.int .i64 s2, .slice a2 n2 c2, .int .i64 t2, .slice d2 e2 f2] 54 4 1 rfl (by omega) rfl)) (fun _ hX => ⟨hX.cell 0 0 rfl rfl, hX.cell 0 1 rfl rfl, hX.cell 0 2 rfl rfl, hX.cell 1 0 rfl rfl, hX.cell 1 1 rfl rfl, hX.cell 1 2 rfl rfl, hX.cell 1 3 rfl rfl, trivial⟩) ?_
          intro Vy_3 hc hHy_3
          have hVy_3 := Lib.hid hc
          clear hc hKq Kq hVy_2 hHy_2
          try simp only [Act.put, List.setIfInBounds_toArray, List.set_cons_zero, List.set_cons_succ]
          refine wpAnyH_ready (rs := [7]) (by kernel_rfl) (by simp) ?_
          refine AllReadyH.cons (o := ⟨_, _, _, _, _, _⟩) rfl (fun Kq hKq => ?_) AllReadyH.nil
          rw [if_pos (by rfl)]
          refine op_append_sy hVy_3.out 1 3 rfl rfl _ _ _ rfl Tryz.underlying98 infoQ rfl (by omega) rfl rfl (by intro u hu; simp only [List.mem_cons, List.not_mem_nil, or_false] at hu; rcases hu with rfl | rfl | rfl | rfl <;> rfl) (by omega) (by omega) (fun aAy_4 cAy_4 _ hc => ?_)
          refine stepY hKq (show Sy w _ [(w1.heap.size, #[.slice a1 n1 c1, .bool m1, .slice d1 e1 f1], 48), (w1.heap.size + 1, #[.int .i64 s2, .slice a2 n2 c2, .int .i64 t2, .slice d2 e2 f2], 54)] [⟨.slice aAy_2 (k + 1) cAy_2, 48, 3, k + 1, xs ++ [.slice a1 n1 c1, .bool m1, .slice d1 e1 f1]⟩, ⟨.slice aAy_4 (k + 1) cAy_4, 54, 4, k + 1, ys ++ [.int .i64 s2, .slice a2 n2 c2, .int .i64 t2, .slice d2 e2 f2]⟩, ⟨.slice (some ⟨Vy_0.heap.size, 0, none⟩) 1 1, 48, 3, 1, [.slice a1 n1 c1, .bool m1, .slice d1 e1 f1]⟩, ⟨.slice (some ⟨Vy_2.heap.size, 0, none⟩) 1 1, 54, 4, 1, [.int .i64 s2, .slice a2 n2 c2, .int .i64 t2, .slice d2 e2 f2]⟩] [fun V => RdAll V xs ((qsOf l).take k), fun V => NqAll V ys ((qsOf l).take k), fun V => Rd V (.slice a1 n1 c1) m1 (.slice d1 e1 f1) (num nk dk), fun V => Nq V s2 (.slice a2 n2 c2) t2 (.slice d2 e2 f2) (num nk dk)] from hc) (fun _ hX => ⟨hX.cell 0 0 rfl rfl, hX.cell 0 1 rfl rfl, hX.cell 0 2 rfl rfl, hX.cell 1 0 rfl rfl, hX.cell 1 1 rfl rfl, hX.cell 1 2 rfl rfl, hX.cell 1 3 rfl rfl, trivial⟩) ?_
          intro Vy_4 hc2 hHy_4
          have hVy_4 := Lib.hid hc2
          clear hc2 hKq Kq hVy_3 hc hHy_3
          try simp only [Act.put, List.setIfInBounds_toArray, List.set_cons_zero, List.set_cons_succ]
          refine wpAnyH_ready (rs := [8]) (by kernel_rfl) (by simp) ?_
          refine AllReadyH.cons (o := ⟨_, _, _, _, _, _⟩) rfl (fun Kq hKq => ?_) AllReadyH.nil
          go_simp
          refine stepY hKq (show Sy w _ [(w1.heap.size, #[.slice a1 n1 c1, .bool m1, .slice d1 e1 f1], 48), (w1.heap.size + 1, #[.int .i64 s2, .slice a2 n2 c2, .int .i64 t2, .slice d2 e2 f2], 54)] [⟨.slice aAy_2 (k + 1) cAy_2, 48, 3, k + 1, xs ++ [.slice a1 n1 c1, .bool m1, .slice d1 e1 f1]⟩, ⟨.slice aAy_4 (k + 1) cAy_4, 54, 4, k + 1, ys ++ [.int .i64 s2, .slice a2 n2 c2, .int .i64 t2, .slice d2 e2 f2]⟩, ⟨.slice (some ⟨Vy_0.heap.size, 0, none⟩) 1 1, 48, 3, 1, [.slice a1 n1 c1, .bool m1, .slice d1 e1 f1]⟩, ⟨.slice (some ⟨Vy_2.heap.size, 0, none⟩) 1 1, 54, 4, 1, [.int .i64 s2, .slice a2 n2 c2, .int .i64 t2, .slice d2 e2 f2]⟩] [fun V => RdAll V xs ((qsOf l).take k), fun V => NqAll V ys ((qsOf l).take k), fun V => Rd V (.slice a1 n1 c1) m1 (.slice d1 e1 f1) (num nk dk), fun V => Nq V s2 (.slice a2 n2 c2) t2 (.slice d2 e2 f2) (num nk dk)] from hVy_4.out) (fun _ hX => ⟨hX.cell 0 0 rfl rfl, hX.cell 0 1 rfl rfl, hX.cell 0 2 rfl rfl, hX.cell 1 0 rfl rfl, hX.cell 1 1 rfl rfl, hX.cell 1 2 rfl rfl, hX.cell 1 3 rfl rfl, trivial⟩) ?_
          intro Vy_5 hc hHy_5
          have hVy_5 := Lib.hid hc
          clear hc hKq Kq hVy_4 hHy_4
          try simp only [Act.put, List.setIfInBounds_toArray, List.set_cons_zero, List.set_cons_succ]
          refine wpAnyH_ready (rs := [9]) (by kernel_rfl) (by simp) ?_
          refine AllReadyH.cons (o := ⟨_, _, _, _, _, _⟩) rfl (fun Kq hKq => ?_) AllReadyH.nil
          go_simp
          refine stepY hKq (show Sy w _ [(w1.heap.size, #[.slice a1 n1 c1, .bool m1, .slice d1 e1 f1], 48), (w1.heap.size + 1, #[.int .i64 s2, .slice a2 n2 c2, .int .i64 t2, .slice d2 e2 f2], 54)] [⟨.slice aAy_2 (k + 1) cAy_2, 48, 3, k + 1, xs ++ [.slice a1 n1 c1, .bool m1, .slice d1 e1 f1]⟩, ⟨.slice aAy_4 (k + 1) cAy_4, 54, 4, k + 1, ys ++ [.int .i64 s2, .slice a2 n2 c2, .int .i64 t2, .slice d2 e2 f2]⟩, ⟨.slice (some ⟨Vy_0.heap.size, 0, none⟩) 1 1, 48, 3, 1, [.slice a1 n1 c1, .bool m1, .slice d1 e1 f1]⟩, ⟨.slice (some ⟨Vy_2.heap.size, 0, none⟩) 1 1, 54, 4, 1, [.int .i64 s2, .slice a2 n2 c2, .int .i64 t2, .slice d2 e2 f2]⟩] [fun V => RdAll V xs ((qsOf l).take k), fun V => NqAll V ys ((qsOf l).take k), fun V => Rd V (.slice a1 n1 c1) m1 (.slice d1 e1 f1) (num nk dk), fun V => Nq V s2 (.slice a2 n2 c2) t2 (.slice d2 e2 f2) (num nk dk)] from hVy_5.out) (fun _ hX => ⟨hX.cell 0 0 rfl rfl, hX.cell 0 1 rfl rfl, hX.cell 0 2 rfl rfl, hX.cell 1 0 rfl rfl, hX.cell 1 1 rfl rfl, hX.cell 1 2 rfl rfl, hX.cell 1 3 rfl rfl, trivial⟩) ?_
          intro Vy_6 hc hHy_6
          have hVy_6 := Lib.hid hc
          clear hc hKq Kq hVy_5 hHy_5
          try simp only [Act.put, List.setIfInBounds_toArray, List.set_cons_zero, List.set_cons_succ]
          refine wpAnyH_done (by kernel_rfl) ?_ _
          refine NoPanic.normal ?_
          go_wp2
          go_roundw
          case rel =>
            have hT := hVy_6.out.thin (bs' := []) (os' := [⟨.slice aAy_2 (k + 1) cAy_2, 48, 3, k + 1, xs ++ [.slice a1 n1 c1, .bool m1, .slice d1 e1 f1]⟩, ⟨.slice aAy_4 (k + 1) cAy_4, 54, 4, k + 1, ys ++ [.int .i64 s2, .slice a2 n2 c2, .int .i64 t2, .slice d2 e2 f2]⟩]) (List.nil_sublist _) (List.Sublist.cons_cons _ (List.Sublist.cons_cons _ (List.nil_sublist _)))
            have hT2 := hT.pushK rfl rfl (fun V V' k hz => RdAll.keep hz k) (RdAll.snoc (hT.r 0 rfl) (hT.r 2 rfl))
            have hT3 := hT2.pushK rfl rfl (fun V V' k hz => NqAll.keep hz k) (NqAll.snoc (hT2.r 1 rfl) (hT2.r 3 rfl))
            refine ⟨k + 1, _, _, xs ++ [.slice a1 n1 c1, .bool m1, .slice d1 e1 f1], ys ++ [.int .i64 s2, .slice a2 n2 c2, .int .i64 t2, .slice d2 e2 f2], by omega, rfl, rfl, by go_num, ?_⟩
            rw [HT.out]
            exact Lib.hid (hT3.pick [4, 5] rfl)
          case measure => simp [intOf]; omega
        refine AllReadyH.cons (o := ⟨_, _, _, _, _, _⟩) rfl (fun Kq hKq => ?_) ?_
        · go_simp
          refine stepY hKq (show Sy w _ [(w1.heap.size, #[.slice a1 n1 c1, .bool m1, .slice d1 e1 f1], 48), (w1.heap.size + 1, #[.int .i64 s2, .slice a2 n2 c2, .int .i64 t2, .slice d2 e2 f2], 54)] [⟨u3, 48, 3, k, xs⟩, ⟨u4, 54, 4, k, ys⟩, ⟨.slice (some ⟨Vy_0.heap.size, 0, none⟩) 1 1, 48, 3, 1, [.slice a1 n1 c1, .bool m1, .slice d1 e1 f1]⟩, ⟨.slice (some ⟨Vy_1.heap.size, 0, none⟩) 1 1, 54, 4, 1, [.int .i64 s2, .slice a2 n2 c2, .int .i64 t2, .slice d2 e2 f2]⟩] [fun V => RdAll V xs ((qsOf l).take k), fun V => NqAll V ys ((qsOf l).take k), fun V => Rd V (.slice a1 n1 c1) m1 (.slice d1 e1 f1) (num nk dk), fun V => Nq V s2 (.slice a2 n2 c2) t2 (.slice d2 e2 f2) (num nk dk)] from (hVy_1.out.onew Vy_1.heap.size #[.int .i64 s2, .slice a2 n2 c2, .int .i64 t2, .slice d2 e2 f2] 54 4 1 rfl (by omega) rfl)) (fun _ hX => ⟨hX.cell 0 0 rfl rfl, hX.cell 0 1 rfl rfl, hX.cell 0 2 rfl rfl, hX.cell 1 0 rfl rfl, hX.cell 1 1 rfl rfl, hX.cell 1 2 rfl rfl, hX.cell 1 3 rfl rfl, trivial⟩) ?_
          intro Vy_2 hc hHy_2
          have hVy_2 := Lib.hid hc
          clear hc hKq Kq hVy_1 hHy_1
          try simp only [Act.put, List.setIfInBounds_toArray, List.set_cons_zero, List.set_cons_succ]
          refine wpAnyH_ready (rs := [3]) (by kernel_rfl) (by simp) ?_
          refine AllReadyH.cons (o := ⟨_, _, _, _, _, _⟩) rfl (fun Kq hKq => ?_) AllReadyH.nil
          rw [if_pos (by rfl)]
          refine op_append_sy hVy_2.out 0 2 rfl rfl _ _ _ rfl Tryz.underlying97 infoR rfl (by omega) rfl rfl (by intro u hu; simp only [List.mem_cons, List.not_mem_nil, or_false] at hu; rcases hu with rfl | rfl | rfl <;> rfl) (by omega) (by omega) (fun aAy_3 cAy_3 _ hc => ?_)
          refine stepY hKq (show Sy w _ [(w1.heap.size, #[.slice a1 n1 c1, .bool m1, .slice d1 e1 f1], 48), (w1.heap.size + 1, #[.int .i64 s2, .slice a2 n2 c2, .int .i64 t2, .slice d2 e2 f2], 54)] [⟨.slice aAy_3 (k + 1) cAy_3, 48, 3, k + 1, xs ++ [.slice a1 n1 c1, .bool m1, .slice d1 e1 f1]⟩, ⟨u4, 54, 4, k, ys⟩, ⟨.slice (some ⟨Vy_0.heap.size, 0, none⟩) 1 1, 48, 3, 1, [.slice a1 n1 c1, .bool m1, .slice d1 e1 f1]⟩, ⟨.slice (some ⟨Vy_1.heap.size, 0, none⟩) 1 1, 54, 4, 1, [.int .i64 s2, .slice a2 n2 c2, .int .i64 t2, .slice d2 e2 f2]⟩] [fun V => RdAll V xs ((qsOf l).take k), fun V => NqAll V ys ((qsOf l).take k), fun V => Rd V (.slice a1 n1 c1) m1 (.slice d1 e1 f1) (num nk dk), fun V => Nq V s2 (.slice a2 n2 c2) t2 (.slice d2 e2 f2) (num nk dk)] from hc) (fun _ hX => ⟨hX.cell 0 0 rfl rfl, hX.cell 0 1 rfl rfl, hX.cell 0 2 rfl rfl, hX.cell 1 0 rfl rfl, hX.cell 1 1 rfl rfl, hX.cell 1 2 rfl rfl, hX.cell 1 3 rfl rfl, trivial⟩) ?_
          intro Vy_3 hc2 hHy_3
          have hVy_3 := Lib.hid hc2
          clear hc2 hKq Kq hVy_2 hc hHy_2
          try simp only [Act.put, List.setIfInBounds_toArray, List.set_cons_zero, List.set_cons_succ]
          refine wpAnyH_ready (rs := [7]) (by kernel_rfl) (by simp) ?_
          refine AllReadyH.cons (o := ⟨_, _, _, _, _, _⟩) rfl (fun Kq hKq => ?_) AllReadyH.nil
          rw [if_pos (by rfl)]
          refine op_append_sy hVy_3.out 1 3 rfl rfl _ _ _ rfl Tryz.underlying98 infoQ rfl (by omega) rfl rfl (by intro u hu; simp only [List.mem_cons, List.not_mem_nil, or_false] at hu; rcases hu with rfl | rfl | rfl | rfl <;> rfl) (by omega) (by omega) (fun aAy_4 cAy_4 _ hc => ?_)
          refine stepY hKq (show Sy w _ [(w1.heap.size, #[.slice a1 n1 c1, .bool m1, .slice d1 e1 f1], 48), (w1.heap.size + 1, #[.int .i64 s2, .slice a2 n2 c2, .int .i64 t2, .slice d2 e2 f2], 54)] [⟨.slice aAy_3 (k + 1) cAy_3, 48, 3, k + 1, xs ++ [.slice a1 n1 c1, .bool m1, .slice d1 e1 f1]⟩, ⟨.slice aAy_4 (k + 1) cAy_4, 54, 4, k + 1, ys ++ [.int .i64 s2, .slice a2 n2 c2, .int .i64 t2, .slice d2 e2 f2]⟩, ⟨.slice (some ⟨Vy_0.heap.size, 0, none⟩) 1 1, 48, 3, 1, [.slice a1 n1 c1, .bool m1, .slice d1 e1 f1]⟩, ⟨.slice (some ⟨Vy_1.heap.size, 0, none⟩) 1 1, 54, 4, 1, [.int .i64 s2, .slice a2 n2 c2, .int .i64 t2, .slice d2 e2 f2]⟩] [fun V => RdAll V xs ((qsOf l).take k), fun V => NqAll V ys ((qsOf l).take k), fun V => Rd V (.slice a1 n1 c1) m1 (.slice d1 e1 f1) (num nk dk), fun V => Nq V s2 (.slice a2 n2 c2) t2 (.slice d2 e2 f2) (num nk dk)] from hc) (fun _ hX => ⟨hX.cell 0 0 rfl rfl, hX.cell 0 1 rfl rfl, hX.cell 0 2 rfl rfl, hX.cell 1 0 rfl rfl, hX.cell 1 1 rfl rfl, hX.cell 1 2 rfl rfl, hX.cell 1 3 rfl rfl, trivial⟩) ?_
          intro Vy_4 hc2 hHy_4
          have hVy_4 := Lib.hid hc2
          clear hc2 hKq Kq hVy_3 hc hHy_3
          try simp only [Act.put, List.setIfInBounds_toArray, List.set_cons_zero, List.set_cons_succ]
          refine wpAnyH_ready (rs := [8]) (by kernel_rfl) (by simp) ?_
          refine AllReadyH.cons (o := ⟨_, _, _, _, _, _⟩) rfl (fun Kq hKq => ?_) AllReadyH.nil
          go_simp
          refine stepY hKq (show Sy w _ [(w1.heap.size, #[.slice a1 n1 c1, .bool m1, .slice d1 e1 f1], 48), (w1.heap.size + 1, #[.int .i64 s2, .slice a2 n2 c2, .int .i64 t2, .slice d2 e2 f2], 54)] [⟨.slice aAy_3 (k + 1) cAy_3, 48, 3, k + 1, xs ++ [.slice a1 n1 c1, .bool m1, .slice d1 e1 f1]⟩, ⟨.slice aAy_4 (k + 1) cAy_4, 54, 4, k + 1, ys ++ [.int .i64 s2, .slice a2 n2 c2, .int .i64 t2, .slice d2 e2 f2]⟩, ⟨.slice (some ⟨Vy_0.heap.size, 0, none⟩) 1 1, 48, 3, 1, [.slice a1 n1 c1, .bool m1, .slice d1 e1 f1]⟩, ⟨.slice (some ⟨Vy_1.heap.size, 0, none⟩) 1 1, 54, 4, 1, [.int .i64 s2, .slice a2 n2 c2, .int .i64 t2, .slice d2 e2 f2]⟩] [fun V => RdAll V xs ((qsOf l).take k), fun V => NqAll V ys ((qsOf l).take k), fun V => Rd V (.slice a1 n1 c1) m1 (.slice d1 e1 f1) (num nk dk), fun V => Nq V s2 (.slice a2 n2 c2) t2 (.slice d2 e2 f2) (num nk dk)] from hVy_4.out) (fun _ hX => ⟨hX.cell 0 0 rfl rfl, hX.cell 0 1 rfl rfl, hX.cell 0 2 rfl rfl, hX.cell 1 0 rfl rfl, hX.cell 1 1 rfl rfl, hX.cell 1 2 rfl rfl, hX.cell 1 3 rfl rfl, trivial⟩) ?_
          intro Vy_5 hc hHy_5
          have hVy_5 := Lib.hid hc
          clear hc hKq Kq hVy_4 hHy_4
          try simp only [Act.put, List.setIfInBounds_toArray, List.set_cons_zero, List.set_cons_succ]
          refine wpAnyH_ready (rs := [9]) (by kernel_rfl) (by simp) ?_
          refine AllReadyH.cons (o := ⟨_, _, _, _, _, _⟩) rfl (fun Kq hKq => ?_) AllReadyH.nil
          go_simp
          refine stepY hKq (show Sy w _ [(w1.heap.size, #[.slice a1 n1 c1, .bool m1, .slice d1 e1 f1], 48), (w1.heap.size + 1, #[.int .i64 s2, .slice a2 n2 c2, .int .i64 t2, .slice d2 e2 f2], 54)] [⟨.slice aAy_3 (k + 1) cAy_3, 48, 3, k + 1, xs ++ [.slice a1 n1 c1, .bool m1, .slice d1 e1 f1]⟩, ⟨.slice aAy_4 (k + 1) cAy_4, 54, 4, k + 1, ys ++ [.int .i64 s2, .slice a2 n2 c2, .int .i64 t2, .slice d2 e2 f2]⟩, ⟨.slice (some ⟨Vy_0.heap.size, 0, none⟩) 1 1, 48, 3, 1, [.slice a1 n1 c1, .bool m1, .slice d1 e1 f1]⟩, ⟨.slice (some ⟨Vy_1.heap.size, 0, none⟩) 1 1, 54, 4, 1, [.int .i64 s2, .slice a2 n2 c2, .int .i64 t2, .slice d2 e2 f2]⟩] [fun V => RdAll V xs ((qsOf l).take k), fun V => NqAll V ys ((qsOf l).take k), fun V => Rd V (.slice a1 n1 c1) m1 (.slice d1 e1 f1) (num nk dk), fun V => Nq V s2 (.slice a2 n2 c2) t2 (.slice d2 e2 f2) (num nk dk)] from hVy_5.out) (fun _ hX => ⟨hX.cell 0 0 rfl rfl, hX.cell 0 1 rfl rfl, hX.cell 0 2 rfl rfl, hX.cell 1 0 rfl rfl, hX.cell 1 1 rfl rfl, hX.cell 1 2 rfl rfl, hX.cell 1 3 rfl rfl, trivial⟩) ?_
          intro Vy_6 hc hHy_6
          have hVy_6 := Lib.hid hc
          clear hc hKq Kq hVy_5 hHy_5
          try simp only [Act.put, List.setIfInBounds_toArray, List.set_cons_zero, List.set_cons_succ]
          refine wpAnyH_done (by kernel_rfl) ?_ _
          refine NoPanic.normal ?_
          go_wp2
          go_roundw
          case rel =>
            have hT := hVy_6.out.thin (bs' := []) (os' := [⟨.slice aAy_3 (k + 1) cAy_3, 48, 3, k + 1, xs ++ [.slice a1 n1 c1, .bool m1, .slice d1 e1 f1]⟩, ⟨.slice aAy_4 (k + 1) cAy_4, 54, 4, k + 1, ys ++ [.int .i64 s2, .slice a2 n2 c2, .int .i64 t2, .slice d2 e2 f2]⟩]) (List.nil_sublist _) (List.Sublist.cons_cons _ (List.Sublist.cons_cons _ (List.nil_sublist _)))
            have hT2 := hT.pushK rfl rfl (fun V V' k hz => RdAll.keep hz k) (RdAll.snoc (hT.r 0 rfl) (hT.r 2 rfl))
            have hT3 := hT2.pushK rfl rfl (fun V V' k hz => NqAll.keep hz k) (NqAll.snoc (hT2.r 1 rfl) (hT2.r 3 rfl))
            refine ⟨k + 1, _, _, xs ++ [.slice a1 n1 c1, .bool m1, .slice d1 e1 f1], ys ++ [.int .i64 s2, .slice a2 n2 c2, .int .i64 t2, .slice d2 e2 f2], by omega, rfl, rfl, by go_num, ?_⟩
            rw [HT.out]
            exact Lib.hid (hT3.pick [4, 5] rfl)
          case measure => simp [intOf]; omega
        exact AllReadyH.nil
      refine AllReadyH.cons (o := ⟨_, _, _, _, _, _⟩) rfl (fun Kq hKq => ?_) ?_
      · go_simp
        refine stepY hKq (show Sy w _ [(w1.heap.size, #[.slice a1 n1 c1, .bool m1, .slice d1 e1 f1], 48), (w1.heap.size + 1, #[.int .i64 s2, .slice a2 n2 c2, .int .i64 t2, .slice d2 e2 f2], 54)] [⟨u3, 48, 3, k, xs⟩, ⟨u4, 54, 4, k, ys⟩, ⟨.slice (some ⟨Vy_0.heap.size, 0, none⟩) 1 1, 54, 4, 1, [.int .i64 s2, .slice a2 n2 c2, .int .i64 t2, .slice d2 e2 f2]⟩] [fun V => RdAll V xs ((qsOf l).take k), fun V => NqAll V ys ((qsOf l).take k), fun V => Rd V (.slice a1 n1 c1) m1 (.slice d1 e1 f1) (num nk dk), fun V => Nq V s2 (.slice a2 n2 c2) t2 (.slice d2 e2 f2) (num nk dk)] from (hVy_0.out.onew Vy_0.heap.size #[.int .i64 s2, .slice a2 n2 c2, .int .i64 t2, .slice d2 e2 f2] 54 4 1 rfl (by omega) rfl)) (fun _ hX => ⟨hX.cell 0 0 rfl rfl, hX.cell 0 1 rfl rfl, hX.cell 0 2 rfl rfl, hX.cell 1 0 rfl rfl, hX.cell 1 1 rfl rfl, hX.cell 1 2 rfl rfl, hX.cell 1 3 rfl rfl, trivial⟩) ?_
        intro Vy_1 hc hHy_1
        have hVy_1 := Lib.hid hc
        clear hc hKq Kq hVy_0 hHy_0
        try simp only [Act.put, List.setIfInBounds_toArray, List.set_cons_zero, List.set_cons_succ]
        refine wpAnyH_ready (rs := [2]) (by kernel_rfl) (by simp) ?_
        refine AllReadyH.cons (o := ⟨_, _, _, _, _, _⟩) rfl (fun Kq hKq => ?_) AllReadyH.nil
        go_simp
        refine stepY hKq (show Sy w _ [(w1.heap.size, #[.slice a1 n1 c1, .bool m1, .slice d1 e1 f1], 48), (w1.heap.size + 1, #[.int .i64 s2, .slice a2 n2 c2, .int .i64 t2, .slice d2 e2 f2], 54)] [⟨u3, 48, 3, k, xs⟩, ⟨u4, 54, 4, k, ys⟩, ⟨.slice (some ⟨Vy_0.heap.size, 0, none⟩) 1 1, 54, 4, 1, [.int .i64 s2, .slice a2 n2 c2, .int .i64 t2, .slice d2 e2 f2]⟩, ⟨.slice (some ⟨Vy_1.heap.size, 0, none⟩) 1 1, 48, 3, 1, [.slice a1 n1 c1, .bool m1, .slice d1 e1 f1]⟩] [fun V => RdAll V xs ((qsOf l).take k), fun V => NqAll V ys ((qsOf l).take k), fun V => Rd V (.slice a1 n1 c1) m1 (.slice d1 e1 f1) (num nk dk), fun V => Nq V s2 (.slice a2 n2 c2) t2 (.slice d2 e2 f2) (num nk dk)] from (hVy_1.out.onew Vy_1.heap.size #[.slice a1 n1 c1, .bool m1, .slice d1 e1 f1] 48 3 1 rfl (by omega) rfl)) (fun _ hX => ⟨hX.cell 0 0 rfl rfl, hX.cell 0 1 rfl rfl, hX.cell 0 2 rfl rfl, hX.cell 1 0 rfl rfl, hX.cell 1 1 rfl rfl, hX.cell 1 2 rfl rfl, hX.cell 1 3 rfl rfl, trivial⟩) ?_
        intro Vy_2 hc hHy_2
        have hVy_2 := Lib.hid hc
        clear hc hKq Kq hVy_1 hHy_1
        try simp only [Act.put, List.setIfInBounds_toArray, List.set_cons_zero, List.set_cons_succ]
        refine wpAnyH_ready (rs := [3]) (by kernel_rfl) (by simp) ?_
        refine AllReadyH.cons (o := ⟨_, _, _, _, _, _⟩) rfl (fun Kq hKq => ?_) AllReadyH.nil
        rw [if_pos (by rfl)]
        refine op_append_sy hVy_2.out 0 3 rfl rfl _ _ _ rfl Tryz.underlying97 infoR rfl (by omega) rfl rfl (by intro u hu; simp only [List.mem_cons, List.not_mem_nil, or_false] at hu; rcases hu with rfl | rfl | rfl <;> rfl) (by omega) (by omega) (fun aAy_3 cAy_3 _ hc => ?_)
        refine stepY hKq (show Sy w _ [(w1.heap.size, #[.slice a1 n1 c1, .bool m1, .slice d1 e1 f1], 48), (w1.heap.size + 1, #[.int .i64 s2, .slice a2 n2 c2, .int .i64 t2, .slice d2 e2 f2], 54)] [⟨.slice aAy_3 (k + 1) cAy_3, 48, 3, k + 1, xs ++ [.slice a1 n1 c1, .bool m1, .slice d1 e1 f1]⟩, ⟨u4, 54, 4, k, ys⟩, ⟨.slice (some ⟨Vy_0.heap.size, 0, none⟩) 1 1, 54, 4, 1, [.int .i64 s2, .slice a2 n2 c2, .int .i64 t2, .slice d2 e2 f2]⟩, ⟨.slice (some ⟨Vy_1.heap.size, 0, none⟩) 1 1, 48, 3, 1, [.slice a1 n1 c1, .bool m1, .slice d1 e1 f1]⟩] [fun V => RdAll V xs ((qsOf l).take k), fun V => NqAll V ys ((qsOf l).take k), fun V => Rd V (.slice a1 n1 c1) m1 (.slice d1 e1 f1) (num nk dk), fun V => Nq V s2 (.slice a2 n2 c2) t2 (.slice d2 e2 f2) (num nk dk)] from hc) (fun _ hX => ⟨hX.cell 0 0 rfl rfl, hX.cell 0 1 rfl rfl, hX.cell 0 2 rfl rfl, hX.cell 1 0 rfl rfl, hX.cell 1 1 rfl rfl, hX.cell 1 2 rfl rfl, hX.cell 1 3 rfl rfl, trivial⟩) ?_
        intro Vy_3 hc2 hHy_3
        have hVy_3 := Lib.hid hc2
        clear hc2 hKq Kq hVy_2 hc hHy_2
        try simp only [Act.put, List.setIfInBounds_toArray, List.set_cons_zero, List.set_cons_succ]
        refine wpAnyH_ready (rs := [7]) (by kernel_rfl) (by simp) ?_
        refine AllReadyH.cons (o := ⟨_, _, _, _, _, _⟩) rfl (fun Kq hKq => ?_) AllReadyH.nil
        rw [if_pos (by rfl)]
        refine op_append_sy hVy_3.out 1 2 rfl rfl _ _ _ rfl Tryz.underlying98 infoQ rfl (by omega) rfl rfl (by intro u hu; simp only [List.mem_cons, List.not_mem_nil, or_false] at hu; rcases hu with rfl | rfl | rfl | rfl <;> rfl) (by omega) (by omega) (fun aAy_4 cAy_4 _ hc => ?_)
        refine stepY hKq (show Sy w _ [(w1.heap.size, #[.slice a1 n1 c1, .bool m1, .slice d1 e1 f1], 48), (w1.heap.size + 1, #[.int .i64 s2, .slice a2 n2 c2, .int .i64 t2, .slice d2 e2 f2], 54)] [⟨.slice aAy_3 (k + 1) cAy_3, 48, 3, k + 1, xs ++ [.slice a1 n1 c1, .bool m1, .slice d1 e1 f1]⟩, ⟨.slice aAy_4 (k + 1) cAy_4, 54, 4, k + 1, ys ++ [.int .i64 s2, .slice a2 n2 c2, .int .i64 t2, .slice d2 e2 f2]⟩, ⟨.slice (some ⟨Vy_0.heap.size, 0, none⟩) 1 1, 54, 4, 1, [.int .i64 s2, .slice a2 n2 c2, .int .i64 t2, .slice d2 e2 f2]⟩, ⟨.slice (some ⟨Vy_1.heap.size, 0, none⟩) 1 1, 48, 3, 1, [.slice a1 n1 c1, .bool m1, .slice d1 e1 f1]⟩] [fun V => RdAll V xs ((qsOf l).take k), fun V => NqAll V ys ((qsOf l).take k), fun V => Rd V (.slice a1 n1 c1) m1 (.slice d1 e1 f1) (num nk dk), fun V => Nq V s2 (.slice a2 n2 c2) t2 (.slice d2 e2 f2) (num nk dk)] from hc) (fun _ hX => ⟨hX.cell 0 0 rfl rfl, hX.cell 0 1 rfl rfl, hX.cell 0 2 rfl rfl, hX.cell 1 0 rfl rfl, hX.cell 1 1 rfl rfl, hX.cell 1 2 rfl rfl, hX.cell 1 3 rfl rfl, trivial⟩) ?_
        intro Vy_4 hc2 hHy_4
        have hVy_4 := Lib.hid hc2
        clear hc2 hKq Kq hVy_3 hc hHy_3
        try simp only [Act.put, List.setIfInBounds_toArray, List.set_cons_zero, List.set_cons_succ]
        refine wpAnyH_ready (rs := [8]) (by kernel_rfl) (by simp) ?_
        refine AllReadyH.cons (o := ⟨_, _, _, _, _, _⟩) rfl (fun Kq hKq => ?_) AllReadyH.nil
        go_simp
        refine stepY hKq (show Sy w _ [(w1.heap.size, #[.slice a1 n1 c1, .bool m1, .slice d1 e1 f1], 48), (w1.heap.size + 1, #[.int .i64 s2, .slice a2 n2 c2, .int .i64 t2, .slice d2 e2 f2], 54)] [⟨.slice aAy_3 (k + 1) cAy_3, 48, 3, k + 1, xs ++ [.slice a1 n1 c1, .bool m1, .slice d1 e1 f1]⟩, ⟨.slice aAy_4 (k + 1) cAy_4, 54, 4, k + 1, ys ++ [.int .i64 s2, .slice a2 n2 c2, .int .i64 t2, .slice d2 e2 f2]⟩, ⟨.slice (some ⟨Vy_0.heap.size, 0, none⟩) 1 1, 54, 4, 1, [.int .i64 s2, .slice a2 n2 c2, .int .i64 t2, .slice d2 e2 f2]⟩, ⟨.slice (some ⟨Vy_1.heap.size, 0, none⟩) 1 1, 48, 3, 1, [.slice a1 n1 c1, .bool m1, .slice d1 e1 f1]⟩] [fun V => RdAll V xs ((qsOf l).take k), fun V => NqAll V ys ((qsOf l).take k), fun V => Rd V (.slice a1 n1 c1) m1 (.slice d1 e1 f1) (num nk dk), fun V => Nq V s2 (.slice a2 n2 c2) t2 (.slice d2 e2 f2) (num nk dk)] from hVy_4.out) (fun _ hX => ⟨hX.cell 0 0 rfl rfl, hX.cell 0 1 rfl rfl, hX.cell 0 2 rfl rfl, hX.cell 1 0 rfl rfl, hX.cell 1 1 rfl rfl, hX.cell 1 2 rfl rfl, hX.cell 1 3 rfl rfl, trivial⟩) ?_
        intro Vy_5 hc hHy_5
        have hVy_5 := Lib.hid hc
        clear hc hKq Kq hVy_4 hHy_4
        try simp only [Act.put, List.setIfInBounds_toArray, List.set_cons_zero, List.set_cons_succ]
        refine wpAnyH_ready (rs := [9]) (by kernel_rfl) (by simp) ?_
        refine AllReadyH.cons (o := ⟨_, _, _, _, _, _⟩) rfl (fun Kq hKq => ?_) AllReadyH.nil
        go_simp
        refine stepY hKq (show Sy w _ [(w1.heap.size, #[.slice a1 n1 c1, .bool m1, .slice d1 e1 f1], 48), (w1.heap.size + 1, #[.int .i64 s2, .slice a2 n2 c2, .int .i64 t2, .slice d2 e2 f2], 54)] [⟨.slice aAy_3 (k + 1) cAy_3, 48, 3, k + 1, xs ++ [.slice a1 n1 c1, .bool m1, .slice d1 e1 f1]⟩, ⟨.slice aAy_4 (k + 1) cAy_4, 54, 4, k + 1, ys ++ [.int .i64 s2, .slice a2 n2 c2, .int .i64 t2, .slice d2 e2 f2]⟩, ⟨.slice (some ⟨Vy_0.heap.size, 0, none⟩) 1 1, 54, 4, 1, [.int .i64 s2, .slice a2 n2 c2, .int .i64 t2, .slice d2 e2 f2]⟩, ⟨.slice (some ⟨Vy_1.heap.size, 0, none⟩) 1 1, 48, 3, 1, [.slice a1 n1 c1, .bool m1, .slice d1 e1 f1]⟩] [fun V => RdAll V xs ((qsOf l).take k), fun V => NqAll V ys ((qsOf l).take k), fun V => Rd V (.slice a1 n1 c1) m1 (.slice d1 e1 f1) (num nk dk), fun V => Nq V s2 (.slice a2 n2 c2) t2 (.slice d2 e2 f2) (num nk dk)] from hVy_5.out) (fun _ hX => ⟨hX.cell 0 0 rfl rfl, hX.cell 0 1 rfl rfl, hX.cell 0 2 rfl rfl, hX.cell 1 0 rfl rfl, hX.cell 1 1 rfl rfl, hX.cell 1 2 rfl rfl, hX.cell 1 3 rfl rfl, trivial⟩) ?_
        intro Vy_6 hc hHy_6
        have hVy_6 := Lib.hid hc
        clear hc hKq Kq hVy_5 hHy_5
        try simp only [Act.put, List.setIfInBounds_toArray, List.set_cons_zero, List.set_cons_succ]
        refine wpAnyH_done (by kernel_rfl) ?_ _
        refine NoPanic.normal ?_
        go_wp2
        go_roundw
        case rel =>
          have hT := hVy_6.out.thin (bs' := []) (os' := [⟨.slice aAy_3 (k + 1) cAy_3, 48, 3, k + 1, xs ++ [.slice a1 n1 c1, .bool m1, .slice d1 e1 f1]⟩, ⟨.slice aAy_4 (k + 1) cAy_4, 54, 4, k + 1, ys ++ [.int .i64 s2, .slice a2 n2 c2, .int .i64 t2, .slice d2 e2 f2]⟩]) (List.nil_sublist _) (List.Sublist.cons_cons _ (List.Sublist.cons_cons _ (List.nil_sublist _)))
          have hT2 := hT.pushK rfl rfl (fun V V' k hz => RdAll.keep hz k) (RdAll.snoc (hT.r 0 rfl) (hT.r 2 rfl))
          have hT3 := hT2.pushK rfl rfl (fun V V' k hz => NqAll.keep hz k) (NqAll.snoc (hT2.r 1 rfl) (hT2.r 3 rfl))
          refine ⟨k + 1, _, _, xs ++ [.slice a1 n1 c1, .bool m1, .slice d1 e1 f1], ys ++ [.int .i64 s2, .slice a2 n2 c2, .int .i64 t2, .slice d2 e2 f2], by omega, rfl, rfl, by go_num, ?_⟩
          rw [HT.out]
          exact Lib.hid (hT3.pick [4, 5] rfl)
        case measure => simp [intOf]; omega
      exact AllReadyH.nil
    · have hn0 : ¬ ((k : Int) < (l.length : Int)) := by omega
      obtain ⟨qs, hqs⟩ : ∃ qs, (qsOf l).take k = qs := ⟨_, rfl⟩
      have hkq : k = qs.length := by rw [← hqs]; unfold qsOf; rw [List.length_take, List.length_map]; omega
      rw [hqs] at hC
      have hq30 : qs.length ≤ 30 := by omega
      have HQ := Lib.hid (show ∀ q ∈ qs, Bq 64 q from fun q hq => HB.out q (by rw [← hqs] at hq; exact List.mem_of_mem_take hq))
      clear hqs HB HR
      subst hkq
      obtain ⟨a1, c1, rfl, hA⟩ := rowR_of (hC.out.orow0 0 rfl) (hC.out.r 0 rfl)
      obtain ⟨a2, c2, rfl, hB⟩ := rowQ_of (hC.out.orow0 1 rfl) (hC.out.r 1 rfl)
      have HL := Lib.hid (show qs.length ≤ 35 by omega)
      have HS1 := Lib.hid (show Bq 3000 (foldQ (· + ·) qs) from by
        have h := sum_bd qs HQ.out qs.length (Nat.le_refl _)
        rw [List.take_length] at h
        exact h.mono (by omega))
      have HS2 := Lib.hid (show Bq 65 (foldQ (better (-1)) qs) from by
        have h := better_bd (way := -1) qs HQ.out qs.length (Nat.le_refl _)
        rw [List.take_length] at h
        exact h)
      have HS3 := Lib.hid (show Bq 65 (foldQ (better 1) qs) from by
        have h := better_bd (way := 1) qs HQ.out qs.length (Nat.le_refl _)
        rw [List.take_length] at h
        exact h)
      have hS := Lib.hid (((hC.out.thin (bs' := []) (os' := []) (List.nil_sublist _) (List.nil_sublist _)).push (fun V hV => hA.away hV) |>.push (fun V hV => hB.away hV)).pick [2, 3] (rs' := [fun V => RowR V (.slice a1 qs.length c1) qs, fun V => RowQ V (.slice a2 qs.length c2) qs]) rfl)
      clear hA hB hC hq30
      go_wp2_with fail
      refine (sum_any a1 c1 qs _ (hS.out.r 0 rfl) 64 HQ.out (by omega) HL.out).mono ?_
      rintro e wa0 ⟨a3, n3, c3, m3, d3, e3, f3, rfl, hz, hb⟩
      have hS1 := Lib.hid ((hS.out.call hb).pr rfl rfl hz)
      clear hz hb hS
      go_wp2_with fail
      refine (sumN_any a2 c2 qs _ (hS1.out.r 1 rfl) 64 HQ.out (by omega) HL.out).mono ?_
      rintro e wb0 ⟨s4, a4, n4, c4, t4, d4, e4, f4, rfl, hz, hb⟩
      have hS2 := Lib.hid ((hS1.out.call hb).pq rfl rfl hz)
      clear hz hb hS1
      go_wp2_with fail
      refine (same_b (hS2.out.r 2 rfl) (hS2.out.r 3 rfl) HS1.out (by omega)).mono ?_
      rintro e wc0 ⟨rfl, hb⟩
      have hS3 := Lib.hid ((hS2.out.call hb).pick [0, 1] (rs' := [fun V => RowR V (.slice a1 qs.length c1) qs, fun V => RowQ V (.slice a2 qs.length c2) qs]) rfl)
      clear hb hS2
      have hS := hS3
      clear hS3
      go_wp2_with fail
      refine (min_any a1 c1 qs _ (hS.out.r 0 rfl) 64 HQ.out (by omega) HL.out).mono ?_
      rintro e wa1 ⟨a3, n3, c3, m3, d3, e3, f3, rfl, hz, hb⟩
      have hS1 := Lib.hid ((hS.out.call hb).pr rfl rfl hz)
      clear hz hb hS
      go_wp2_with fail
      refine (minN_any a2 c2 qs _ (hS1.out.r 1 rfl) 64 HQ.out (by omega) HL.out).mono ?_
      rintro e wb1 ⟨s4, a4, n4, c4, t4, d4, e4, f4, rfl, hz, hb⟩
      have hS2 := Lib.hid ((hS1.out.call hb).pq rfl rfl hz)
      clear hz hb hS1
      go_wp2_with fail
      refine (same_b (hS2.out.r 2 rfl) (hS2.out.r 3 rfl) HS2.out (by omega)).mono ?_
      rintro e wc1 ⟨rfl, hb⟩
      have hS3 := Lib.hid ((hS2.out.call hb).pick [0, 1] (rs' := [fun V => RowR V (.slice a1 qs.length c1) qs, fun V => RowQ V (.slice a2 qs.length c2) qs]) rfl)
      clear hb hS2
      have hS := hS3
      clear hS3
      go_wp2_with fail
      refine (max_any a1 c1 qs _ (hS.out.r 0 rfl) 64 HQ.out (by omega) HL.out).mono ?_
      rintro e wa2 ⟨a3, n3, c3, m3, d3, e3, f3, rfl, hz, hb⟩
      have hS1 := Lib.hid ((hS.out.call hb).pr rfl rfl hz)
      clear hz hb hS
      go_wp2_with fail
      refine (maxN_any a2 c2 qs _ (hS1.out.r 1 rfl) 64 HQ.out (by omega) HL.out).mono ?_
      rintro e wb2 ⟨s4, a4, n4, c4, t4, d4, e4, f4, rfl, hz, hb⟩
      have hS2 := Lib.hid ((hS1.out.call hb).pq rfl rfl hz)
      clear hz hb hS1
      go_wp2_with fail
      refine (same_b (hS2.out.r 2 rfl) (hS2.out.r 3 rfl) HS3.out (by omega)).mono ?_
      rintro e wc2 ⟨rfl, hb⟩
      have hS3 := Lib.hid ((hS2.out.call hb).pick [0, 1] (rs' := [fun V => RowR V (.slice a1 qs.length c1) qs, fun V => RowQ V (.slice a2 qs.length c2) qs]) rfl)
      clear hb hS2
      go_wp2_with fail
      refine (awake_any _).mono ?_
      rintro e w9 ⟨rfl, hb⟩
      have hS9 := Lib.hid (hS3.out.call hb)
      clear hb hS3
      go_wp2
      go_ret
      exact ⟨rfl, hS9.out.be⟩

set_option maxRecDepth 100000 in
set_option maxHeartbeats 1000000 in
theorem folds_many (a : Option Addr) (n c : Nat) (w : World) (hl : 30 < n) :
    Calls Tryz.prog 10 #[.slice a n c] w (fun e w' => e = .returned (.bool true) ∧ Below w.heap.size w w') := by
  have hl0 : (30 : Int) < (n : Int) := by omega
  go_enter Tryz.func10, Tryz.ntmps10
  go_wp2_with fail
  refine (awake_any _).mono ?_
  rintro e w9 ⟨rfl, hb⟩
  go_wp2
  go_ret
  exact ⟨rfl, hb⟩

theorem wholeFolds_walk (a : Option Addr) (l : List (Int × Int)) (c : Nat) (w : World) (h : NumRow w a l) :
    Calls Tryz.prog 10 #[.slice a l.length c] w (fun e w' => e = .returned (.bool true) ∧ Below w.heap.size w w') := by
  by_cases hl : l.length ≤ 30
  · exact folds_few a l c w h hl
  · exact folds_many a l.length c w (by omega)

end Go.Proofs.YtmfplelodnoicaaGreatDoor

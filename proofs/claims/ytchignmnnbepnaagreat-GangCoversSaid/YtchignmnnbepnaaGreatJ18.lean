/- work.eager: the eager division -/
import Derived.Test.YtchignmnnbepnaaGreatJ17
namespace Go.Proofs.YtchignmnnbepnaaGreat
open Go.RowKit
theorem below_dN2 {B : Nat} {a w : World} (h : Below B a w) (n : Nat) : Below B a (w.drewN n) := ⟨h.os, h.tape, h.output, h.size, h.block⟩
section
variable (w : World)
set_option maxHeartbeats 1000000 in
theorem eager1_any (i be bf n c : Nat) (a : Option Addr) (ends : List Int) (far : Int) (hi : i < n) (hs : Sx 1 w a n c (L1 ends)) (h0 : w.cell? ⟨be, 0, none⟩ = some (.slice a n c)) (h1 : w.cell? ⟨bf, 0, none⟩ = some (.int .i64 far)) (hn : n ≤ 1000) :
    Calls Tryz.prog 74 #[.int .i64 i, .pointer (some ⟨be, 0, none⟩), .pointer (some ⟨bf, 0, none⟩)] w (Gives (.bool (decide (far < ends.getD i 0))) w) := by
  have hlen := hs.n1
  obtain ⟨g, o, rfl⟩ := hs.addr (by omega)
  have x0 := hs.at1 (i := i) (by omega)
  rw [getD_at (by omega)]
  generalize ends[i] = x at *
  have i0 : (0 : Int) ≤ (i : Int) := by omega
  have i1 : (i : Int) < (n : Int) := by omega
  clear hs hlen
  go_enter Tryz.func74, Tryz.ntmps74
  go_wp2
  go_quiet (fail)
  go_wp2
  go_ret
  exact ⟨rfl, below_dN2 (Below.refl _ _) _⟩
theorem eg_eager1 : EG 74 := enters_of Tryz.func74 (by kernel_rfl) rfl
def pacesOf (l : List WL) : List Int := l.map fun x => x.2.1
theorem pacesOf_take (l : List WL) (k : Nat) (h : k < l.length) : (pacesOf l).take (k + 1) = (pacesOf l).take k ++ [l[k].2.1] := by
  unfold pacesOf
  rw [List.take_succ_eq_append_getElem (by rw [List.length_map]; exact h), List.getElem_map]
theorem countP_bound2 {p : Nat → Bool} : ∀ n, (∀ a b, a ≤ b → b < n → p b = true → p a = true) → (∀ i, i < n → (p i = true ↔ i < (List.range n).countP p)) ∧ (List.range n).countP p ≤ n := by
  intro n
  induction n with
  | zero => intro _; exact ⟨fun i h => absurd h (Nat.not_lt_zero i), by simp⟩
  | succ n ih =>
    intro hm
    obtain ⟨h1, h2⟩ := ih fun a b hab hb => hm a b hab (by omega)
    rw [List.range_succ, List.countP_append]
    cases hp : p n with
    | true =>
      have hall : ∀ i, i < n → p i = true := fun i hi => hm i n (by omega) (by omega) hp
      have hc : (List.range n).countP p = n := by
        have : (List.range n).countP p = (List.range n).length := List.countP_eq_length.2 fun i hi => hall i (List.mem_range.1 hi)
        simpa using this
      simp only [hc, List.countP_singleton, hp, if_true]
      refine ⟨fun i hi => ⟨fun _ => hi, fun _ => ?_⟩, Nat.le_refl _⟩
      rcases Nat.lt_or_ge i n with h | h
      · exact hall i h
      · rw [show i = n by omega]; exact hp
    | false =>
      simp only [List.countP_singleton, hp]
      simp only [Bool.false_eq_true, if_false, Nat.add_zero]
      refine ⟨fun i hi => ?_, by omega⟩
      rcases Nat.lt_or_ge i n with h | h
      · exact h1 i h
      · rw [show i = n by omega, hp]
        exact ⟨fun h => (by cases h), fun h => by omega⟩
/-- what the search finds -/
theorem found {ends : List Int} (hs : ends.Pairwise (· < ·)) (far : Int) : ∃ K, (List.range ends.length).countP (fun i => !decide (far < ends.getD i 0)) = K ∧ K ≤ ends.length ∧ ∀ m, nextEnd ends m far = if 0 < K ∧ m < ends.getD (K - 1) 0 then ends.getD (K - 1) 0 else m := by
  obtain ⟨h1, h2⟩ := countP_bound2 (p := fun i => !decide (far < ends.getD i 0)) ends.length (fun x y hxy hyl hy => by
    simp only [Bool.not_eq_true', decide_eq_false_iff_not] at hy ⊢
    rcases Nat.lt_or_ge x y with h3 | h3
    · have := List.pairwise_iff_getElem.1 hs x y (by omega) hyl h3
      rw [getD_at hyl] at hy
      rw [getD_at (by omega)]
      omega
    · rw [show x = y by omega]; exact hy)
  refine ⟨_, rfl, h2, fun m => ?_⟩
  generalize (List.range ends.length).countP (fun i => !decide (far < ends.getD i 0)) = K at *
  rw [nextEnd_last hs (k := K) h2 (fun i hi hik => by
    have := (h1 i hi).2 hik
    simp only [Bool.not_eq_true', decide_eq_false_iff_not] at this
    rw [getD_at hi] at this
    omega) (fun i hi hik => by
    have := mt (h1 i hi).1 (by omega)
    simp only [Bool.not_eq_true', decide_eq_false_iff_not] at this
    rw [getD_at hi] at this
    omega)]
  by_cases h0 : 0 < K
  · rw [dif_pos h0, getD_at (by omega)]
    by_cases h3 : m < ends[K - 1]'(by omega)
    · rw [if_pos h3, if_pos ⟨h0, h3⟩]
    · rw [if_neg h3, if_neg (fun h => h3 h.2)]
  · rw [dif_neg h0, if_neg (fun h => h0 h.1)]
def RetEager (w : World) (ends paces : List Int) (d : Int) (e : Ending) (w' : World) : Prop := ∃ a c, e = .returned (.tuple #[.slice a (stintsOf ends paces d).length c, .int .i64 (reachOf ends paces d)]) ∧ w'.ownsRow w.heap.size 59 3 (.slice a (stintsOf ends paces d).length c) (stintsOf ends paces d).length (L3 (stintsOf ends paces d)) ∧ Below w.heap.size w w'
theorem stints_len (ends : List Int) (d : Int) : ∀ l : List Int, (stintsOf ends l d).length ≤ l.length := by
  refine rev_ind (Nat.le_refl _) fun l p ih => ?_
  rw [stints_snoc]
  split
  · simp only [List.length_append, List.length_singleton]; omega
  · simp only [List.length_append, List.length_singleton]; omega
set_option maxHeartbeats 8000000 in
set_option maxRecDepth 100000 in
theorem eager_any (a a' : Option Addr) (n c n' c' : Nat) (L d : Int) (F : List Int) (l : List WL) (hs : Sx 1 w a n c (L1 F)) (hs' : Sx 3 w a' n' c' (LW l)) (hR : RightF F L) (hF : F.length ≤ 60) (hl : l.length ≤ 12) (hp : ∀ x ∈ l, 1 ≤ x.2.1 ∧ x.2.1 ≤ 20000) (hd0 : 0 ≤ d) (hd1 : d ≤ 1000000) :
    Calls Tryz.prog 40 #[.agg #[.int .i64 L, .slice a n c, .slice a' n' c'], .int .i64 d] w (RetEager w (endsOf F L) (pacesOf l) d) := by
  have hlen := hs.n1
  have hlen' := hs'.nW
  have HS := Lib.hid hs
  have HS' := Lib.hid hs'
  have HR := Lib.hid hR
  have HP := Lib.hid hp
  have HCL := Lib.hid (fun W (hW : Below w.heap.size w W) => clone_any W a n c F (hs.below hW) (by omega))
  obtain rfl : F.length = n := hlen.symm
  obtain rfl : l.length = n' := hlen'.symm
  clear hs hs' hlen hlen' hR hp
  have hC := Lib.hid ((Sy.enter w).al w.heap.size #[.int .i64 L, .slice a F.length c, .slice a' l.length c'] 104 rfl)
  go_enter Tryz.func40, Tryz.ntmps40
  go_upto_region 1 with fail
  refine wp_geny hC.out ?_
  intro W0 hc
  have hD : Hid (Sy w W0 [(w.heap.size, #[.int .i64 L, .slice a F.length c, .slice a' l.length c'], 104)] [] []) := Lib.hid hc
  clear hc hC
  go_cut [6] (fun s6 wx => ∃ (bE : Nat) (a5 : Option Addr) (c5 : Nat), s6 = .pointer (some ⟨bE, 0, none⟩) ∧ Hid (Sy w wx [(w.heap.size, #[.int .i64 L, .slice a F.length c, .slice a' l.length c'], 104), (bE, #[.slice a5 (F.length + 1) c5], 31)] [⟨.slice a5 (F.length + 1) c5, 3, 1, F.length + 1, L1 (endsOf F L)⟩] []))
  case first =>
    refine wp_region_held_drew (S := (fun w' => w'.cell? ⟨w.heap.size, 0, none⟩ = some (.int .i64 L) ∧ w'.cell? ⟨w.heap.size, 1, none⟩ = some (.slice a F.length c) ∧ w'.cell? ⟨w.heap.size, 2, none⟩ = some (.slice a' l.length c') ∧ True)) (by kernel_rfl) ⟨hD.out.drew.cell 0 0 rfl rfl, hD.out.drew.cell 0 1 rfl rfl, hD.out.drew.cell 0 2 rfl rfl, trivial⟩ (fun hH => ?_)
    refine wpAnyH_geny (show Sy w _ [(w.heap.size, #[.int .i64 L, .slice a F.length c, .slice a' l.length c'], 104)] [] [] from hD.out.drew) hH ?_
    intro VE_0 hc hHE_0
    have hVE_0 := Lib.hid hc
    clear hc hH hD
    refine wpAnyH_take (i := 0) (oi := ⟨_, _, _, _, _, _⟩) (v := ?_) rfl (by kernel_rfl) (by kernel_rfl) (by kernel_rfl) (fun _ _ _ h => h) (Or.inl ⟨by rfl, ?_⟩) hHE_0 ?_
    rotate_left
    · intro wS hSw; (try dsimp only at hSw); go_simp; try with_reducible rfl
    try simp only [Act.put, List.setIfInBounds_toArray, List.set_cons_zero, List.set_cons_succ]
    refine wpAnyH_take (i := 1) (oi := ⟨_, _, _, _, _, _⟩) (v := ?_) rfl (by kernel_rfl) (by kernel_rfl) (by kernel_rfl) (fun _ _ _ h => h) (Or.inl ⟨by rfl, ?_⟩) hHE_0 ?_
    rotate_left
    · intro wS hSw; (try dsimp only at hSw); go_simp; try with_reducible rfl
    try simp only [Act.put, List.setIfInBounds_toArray, List.set_cons_zero, List.set_cons_succ]
    refine wpAnyH_take (i := 3) (oi := ⟨_, _, _, _, _, _⟩) (v := ?_) rfl (by kernel_rfl) (by kernel_rfl) (by kernel_rfl) (fun _ _ _ h => h) (Or.inl ⟨by rfl, ?_⟩) hHE_0 ?_
    rotate_left
    · intro wS hSw; (try dsimp only at hSw); go_simp; try with_reducible rfl
    try simp only [Act.put, List.setIfInBounds_toArray, List.set_cons_zero, List.set_cons_succ]
    refine wpAnyH_take (i := 4) (oi := ⟨_, _, _, _, _, _⟩) (v := ?_) rfl (by kernel_rfl) (by kernel_rfl) (by kernel_rfl) (fun _ _ _ h => h) (Or.inl ⟨by rfl, ?_⟩) hHE_0 ?_
    rotate_left
    · intro wS hSw; (try dsimp only at hSw); go_simp; try with_reducible rfl
    try simp only [Act.put, List.setIfInBounds_toArray, List.set_cons_zero, List.set_cons_succ]
    refine wpAnyH_ready (rs := [2, 5, 7]) (by kernel_rfl) (by simp) ?_
    refine AllReadyH.cons (o := ⟨_, _, _, _, _, _⟩) rfl (fun Kq hKq => ?_) ?_
    · go_simp
      go_at_call 70
      refine (HCL.out _ hVE_0.out.be).mono ?_
      rintro e wT ⟨aC, cC, rfl, hr, hb⟩
      (try go_wp2_with fail)
      refine stepY hKq (show Sy w _ [(w.heap.size, #[.int .i64 L, .slice a F.length c, .slice a' l.length c'], 104)] [⟨.slice aC F.length cC, 3, 1, F.length, L1 F⟩] [] from (hVE_0.out.adopt hb hr)) (fun _ hX => ⟨hX.cell 0 0 rfl rfl, hX.cell 0 1 rfl rfl, hX.cell 0 2 rfl rfl, trivial⟩) ?_
      intro VE_1 hc hHE_1
      have hVE_1 := Lib.hid hc
      clear hc hKq Kq hVE_0 hb hr hHE_0
      try simp only [Act.put, List.setIfInBounds_toArray, List.set_cons_zero, List.set_cons_succ]
      refine wpAnyH_ready (rs := [5, 7]) (by kernel_rfl) (by simp) ?_
      refine AllReadyH.cons (o := ⟨_, _, _, _, _, _⟩) rfl (fun Kq hKq => ?_) ?_
      · go_simp
        refine stepY hKq (show Sy w _ [(w.heap.size, #[.int .i64 L, .slice a F.length c, .slice a' l.length c'], 104)] [⟨.slice aC F.length cC, 3, 1, F.length, L1 F⟩, ⟨.slice (some ⟨VE_1.heap.size, 0, none⟩) 1 1, 3, 1, 1, [.int .i64 L]⟩] [] from (hVE_1.out.onew VE_1.heap.size #[.int .i64 L] 3 1 1 rfl (by omega) rfl)) (fun _ hX => ⟨hX.cell 0 0 rfl rfl, hX.cell 0 1 rfl rfl, hX.cell 0 2 rfl rfl, trivial⟩) ?_
        intro VE_2 hc hHE_2
        have hVE_2 := Lib.hid hc
        clear hc hKq Kq hVE_1 hHE_1
        try simp only [Act.put, List.setIfInBounds_toArray, List.set_cons_zero, List.set_cons_succ]
        refine wpAnyH_ready (rs := [6, 7]) (by kernel_rfl) (by simp) ?_
        refine AllReadyH.cons (o := ⟨_, _, _, _, _, _⟩) rfl (fun Kq hKq => ?_) ?_
        · rw [if_pos (by rfl)]
          refine op_append_sy hVE_2.out 0 1 rfl rfl _ _ _ rfl und_int info_int rfl (by omega) rfl rfl (by intro u hu; simp at hu; rcases hu with rfl; rfl) (by omega) (by omega) (fun aAE_3 cAE_3 _ hc => ?_)
          refine stepY hKq (show Sy w _ [(w.heap.size, #[.int .i64 L, .slice a F.length c, .slice a' l.length c'], 104)] [⟨.slice aAE_3 (F.length + 1) cAE_3, 3, 1, F.length + 1, L1 F ++ [.int .i64 L]⟩, ⟨.slice (some ⟨VE_1.heap.size, 0, none⟩) 1 1, 3, 1, 1, [.int .i64 L]⟩] [] from hc) (fun _ hX => ⟨hX.cell 0 0 rfl rfl, hX.cell 0 1 rfl rfl, hX.cell 0 2 rfl rfl, trivial⟩) ?_
          intro VE_3 hc2 hHE_3
          have hVE_3 := Lib.hid hc2
          clear hc2 hKq Kq hVE_2 hc hHE_2
          try simp only [Act.put, List.setIfInBounds_toArray, List.set_cons_zero, List.set_cons_succ]
          refine wpAnyH_ready (rs := [7]) (by kernel_rfl) (by simp) ?_
          refine AllReadyH.cons (o := ⟨_, _, _, _, _, _⟩) rfl (fun Kq hKq => ?_) AllReadyH.nil
          go_simp
          refine stepY hKq (show Sy w _ [(w.heap.size, #[.int .i64 L, .slice a F.length c, .slice a' l.length c'], 104), (VE_3.heap.size, #[.slice none 0 0], 31)] [⟨.slice aAE_3 (F.length + 1) cAE_3, 3, 1, F.length + 1, L1 F ++ [.int .i64 L]⟩, ⟨.slice (some ⟨VE_1.heap.size, 0, none⟩) 1 1, 3, 1, 1, [.int .i64 L]⟩] [] from (hVE_3.out.al VE_3.heap.size #[.slice none 0 0] 31 rfl)) (fun _ hX => ⟨hX.cell 0 0 rfl rfl, hX.cell 0 1 rfl rfl, hX.cell 0 2 rfl rfl, trivial⟩) ?_
          intro VE_4 hc hHE_4
          have hVE_4 := Lib.hid hc
          clear hc hKq Kq hVE_3 hHE_3
          try simp only [Act.put, List.setIfInBounds_toArray, List.set_cons_zero, List.set_cons_succ]
          refine wpAnyH_ready (rs := [8]) (by kernel_rfl) (by simp) ?_
          refine AllReadyH.cons (o := ⟨_, _, _, _, _, _⟩) rfl (fun Kq hKq => ?_) AllReadyH.nil
          have cQ0 := hVE_4.out.cell 1 0 rfl rfl
          have fQ0 := hVE_4.out.free 1 0 rfl
          go_simp
          refine stepY hKq (show Sy w _ [(w.heap.size, #[.int .i64 L, .slice a F.length c, .slice a' l.length c'], 104), (VE_3.heap.size, #[.slice aAE_3 (F.length + 1) cAE_3], 31)] [⟨.slice aAE_3 (F.length + 1) cAE_3, 3, 1, F.length + 1, L1 F ++ [.int .i64 L]⟩, ⟨.slice (some ⟨VE_1.heap.size, 0, none⟩) 1 1, 3, 1, 1, [.int .i64 L]⟩] [] from (hVE_4.out |>.set (j := 0) (v := .slice aAE_3 (F.length + 1) cAE_3) 1 rfl)) (fun _ hX => ⟨hX.cell 0 0 rfl rfl, hX.cell 0 1 rfl rfl, hX.cell 0 2 rfl rfl, trivial⟩) ?_
          intro VE_5 hc hHE_5
          have hVE_5 := Lib.hid hc
          clear hc hKq Kq hVE_4 cQ0 fQ0 hHE_4
          try simp only [Act.put, List.setIfInBounds_toArray, List.set_cons_zero, List.set_cons_succ]
          refine wpAnyH_done (by kernel_rfl) ?_ _
          go_wp2_with fail
          go_meet
          refine ⟨_, aAE_3, cAE_3, rfl, ?_⟩
          have e : L1 (endsOf F L) = L1 F ++ [.int .i64 L] := L1_append F [L]
          rw [e]
          exact Lib.hid (hVE_5.out.thin (List.Sublist.refl _) (List.Sublist.cons_cons _ (List.nil_sublist _)))
        refine AllReadyH.cons (o := ⟨_, _, _, _, _, _⟩) rfl (fun Kq hKq => ?_) ?_
        · go_simp
          refine stepY hKq (show Sy w _ [(w.heap.size, #[.int .i64 L, .slice a F.length c, .slice a' l.length c'], 104), (VE_2.heap.size, #[.slice none 0 0], 31)] [⟨.slice aC F.length cC, 3, 1, F.length, L1 F⟩, ⟨.slice (some ⟨VE_1.heap.size, 0, none⟩) 1 1, 3, 1, 1, [.int .i64 L]⟩] [] from (hVE_2.out.al VE_2.heap.size #[.slice none 0 0] 31 rfl)) (fun _ hX => ⟨hX.cell 0 0 rfl rfl, hX.cell 0 1 rfl rfl, hX.cell 0 2 rfl rfl, trivial⟩) ?_
          intro VE_3 hc hHE_3
          have hVE_3 := Lib.hid hc
          clear hc hKq Kq hVE_2 hHE_2
          try simp only [Act.put, List.setIfInBounds_toArray, List.set_cons_zero, List.set_cons_succ]
          refine wpAnyH_ready (rs := [6]) (by kernel_rfl) (by simp) ?_
          refine AllReadyH.cons (o := ⟨_, _, _, _, _, _⟩) rfl (fun Kq hKq => ?_) AllReadyH.nil
          rw [if_pos (by rfl)]
          refine op_append_sy hVE_3.out 0 1 rfl rfl _ _ _ rfl und_int info_int rfl (by omega) rfl rfl (by intro u hu; simp at hu; rcases hu with rfl; rfl) (by omega) (by omega) (fun aAE_4 cAE_4 _ hc => ?_)
          refine stepY hKq (show Sy w _ [(w.heap.size, #[.int .i64 L, .slice a F.length c, .slice a' l.length c'], 104), (VE_2.heap.size, #[.slice none 0 0], 31)] [⟨.slice aAE_4 (F.length + 1) cAE_4, 3, 1, F.length + 1, L1 F ++ [.int .i64 L]⟩, ⟨.slice (some ⟨VE_1.heap.size, 0, none⟩) 1 1, 3, 1, 1, [.int .i64 L]⟩] [] from hc) (fun _ hX => ⟨hX.cell 0 0 rfl rfl, hX.cell 0 1 rfl rfl, hX.cell 0 2 rfl rfl, trivial⟩) ?_
          intro VE_4 hc2 hHE_4
          have hVE_4 := Lib.hid hc2
          clear hc2 hKq Kq hVE_3 hc hHE_3
          try simp only [Act.put, List.setIfInBounds_toArray, List.set_cons_zero, List.set_cons_succ]
          refine wpAnyH_ready (rs := [8]) (by kernel_rfl) (by simp) ?_
          refine AllReadyH.cons (o := ⟨_, _, _, _, _, _⟩) rfl (fun Kq hKq => ?_) AllReadyH.nil
          have cQ0 := hVE_4.out.cell 1 0 rfl rfl
          have fQ0 := hVE_4.out.free 1 0 rfl
          go_simp
          refine stepY hKq (show Sy w _ [(w.heap.size, #[.int .i64 L, .slice a F.length c, .slice a' l.length c'], 104), (VE_2.heap.size, #[.slice aAE_4 (F.length + 1) cAE_4], 31)] [⟨.slice aAE_4 (F.length + 1) cAE_4, 3, 1, F.length + 1, L1 F ++ [.int .i64 L]⟩, ⟨.slice (some ⟨VE_1.heap.size, 0, none⟩) 1 1, 3, 1, 1, [.int .i64 L]⟩] [] from (hVE_4.out |>.set (j := 0) (v := .slice aAE_4 (F.length + 1) cAE_4) 1 rfl)) (fun _ hX => ⟨hX.cell 0 0 rfl rfl, hX.cell 0 1 rfl rfl, hX.cell 0 2 rfl rfl, trivial⟩) ?_
          intro VE_5 hc hHE_5
          have hVE_5 := Lib.hid hc
          clear hc hKq Kq hVE_4 cQ0 fQ0 hHE_4
          try simp only [Act.put, List.setIfInBounds_toArray, List.set_cons_zero, List.set_cons_succ]
          refine wpAnyH_done (by kernel_rfl) ?_ _
          go_wp2_with fail
          go_meet
          refine ⟨_, aAE_4, cAE_4, rfl, ?_⟩
          have e : L1 (endsOf F L) = L1 F ++ [.int .i64 L] := L1_append F [L]
          rw [e]
          exact Lib.hid (hVE_5.out.thin (List.Sublist.refl _) (List.Sublist.cons_cons _ (List.nil_sublist _)))
        exact AllReadyH.nil
      refine AllReadyH.cons (o := ⟨_, _, _, _, _, _⟩) rfl (fun Kq hKq => ?_) ?_
      · go_simp
        refine stepY hKq (show Sy w _ [(w.heap.size, #[.int .i64 L, .slice a F.length c, .slice a' l.length c'], 104), (VE_1.heap.size, #[.slice none 0 0], 31)] [⟨.slice aC F.length cC, 3, 1, F.length, L1 F⟩] [] from (hVE_1.out.al VE_1.heap.size #[.slice none 0 0] 31 rfl)) (fun _ hX => ⟨hX.cell 0 0 rfl rfl, hX.cell 0 1 rfl rfl, hX.cell 0 2 rfl rfl, trivial⟩) ?_
        intro VE_2 hc hHE_2
        have hVE_2 := Lib.hid hc
        clear hc hKq Kq hVE_1 hHE_1
        try simp only [Act.put, List.setIfInBounds_toArray, List.set_cons_zero, List.set_cons_succ]
        refine wpAnyH_ready (rs := [5]) (by kernel_rfl) (by simp) ?_
        refine AllReadyH.cons (o := ⟨_, _, _, _, _, _⟩) rfl (fun Kq hKq => ?_) AllReadyH.nil
        go_simp
        refine stepY hKq (show Sy w _ [(w.heap.size, #[.int .i64 L, .slice a F.length c, .slice a' l.length c'], 104), (VE_1.heap.size, #[.slice none 0 0], 31)] [⟨.slice aC F.length cC, 3, 1, F.length, L1 F⟩, ⟨.slice (some ⟨VE_2.heap.size, 0, none⟩) 1 1, 3, 1, 1, [.int .i64 L]⟩] [] from (hVE_2.out.onew VE_2.heap.size #[.int .i64 L] 3 1 1 rfl (by omega) rfl)) (fun _ hX => ⟨hX.cell 0 0 rfl rfl, hX.cell 0 1 rfl rfl, hX.cell 0 2 rfl rfl, trivial⟩) ?_
        intro VE_3 hc hHE_3
        have hVE_3 := Lib.hid hc
        clear hc hKq Kq hVE_2 hHE_2
        try simp only [Act.put, List.setIfInBounds_toArray, List.set_cons_zero, List.set_cons_succ]
        refine wpAnyH_ready (rs := [6]) (by kernel_rfl) (by simp) ?_
        refine AllReadyH.cons (o := ⟨_, _, _, _, _, _⟩) rfl (fun Kq hKq => ?_) AllReadyH.nil
        rw [if_pos (by rfl)]
        refine op_append_sy hVE_3.out 0 1 rfl rfl _ _ _ rfl und_int info_int rfl (by omega) rfl rfl (by intro u hu; simp at hu; rcases hu with rfl; rfl) (by omega) (by omega) (fun aAE_4 cAE_4 _ hc => ?_)
        refine stepY hKq (show Sy w _ [(w.heap.size, #[.int .i64 L, .slice a F.length c, .slice a' l.length c'], 104), (VE_1.heap.size, #[.slice none 0 0], 31)] [⟨.slice aAE_4 (F.length + 1) cAE_4, 3, 1, F.length + 1, L1 F ++ [.int .i64 L]⟩, ⟨.slice (some ⟨VE_2.heap.size, 0, none⟩) 1 1, 3, 1, 1, [.int .i64 L]⟩] [] from hc) (fun _ hX => ⟨hX.cell 0 0 rfl rfl, hX.cell 0 1 rfl rfl, hX.cell 0 2 rfl rfl, trivial⟩) ?_
        intro VE_4 hc2 hHE_4
        have hVE_4 := Lib.hid hc2
        clear hc2 hKq Kq hVE_3 hc hHE_3
        try simp only [Act.put, List.setIfInBounds_toArray, List.set_cons_zero, List.set_cons_succ]
        refine wpAnyH_ready (rs := [8]) (by kernel_rfl) (by simp) ?_
        refine AllReadyH.cons (o := ⟨_, _, _, _, _, _⟩) rfl (fun Kq hKq => ?_) AllReadyH.nil
        have cQ0 := hVE_4.out.cell 1 0 rfl rfl
        have fQ0 := hVE_4.out.free 1 0 rfl
        go_simp
        refine stepY hKq (show Sy w _ [(w.heap.size, #[.int .i64 L, .slice a F.length c, .slice a' l.length c'], 104), (VE_1.heap.size, #[.slice aAE_4 (F.length + 1) cAE_4], 31)] [⟨.slice aAE_4 (F.length + 1) cAE_4, 3, 1, F.length + 1, L1 F ++ [.int .i64 L]⟩, ⟨.slice (some ⟨VE_2.heap.size, 0, none⟩) 1 1, 3, 1, 1, [.int .i64 L]⟩] [] from (hVE_4.out |>.set (j := 0) (v := .slice aAE_4 (F.length + 1) cAE_4) 1 rfl)) (fun _ hX => ⟨hX.cell 0 0 rfl rfl, hX.cell 0 1 rfl rfl, hX.cell 0 2 rfl rfl, trivial⟩) ?_
        intro VE_5 hc hHE_5
        have hVE_5 := Lib.hid hc
        clear hc hKq Kq hVE_4 cQ0 fQ0 hHE_4
        try simp only [Act.put, List.setIfInBounds_toArray, List.set_cons_zero, List.set_cons_succ]
        refine wpAnyH_done (by kernel_rfl) ?_ _
        go_wp2_with fail
        go_meet
        refine ⟨_, aAE_4, cAE_4, rfl, ?_⟩
        have e : L1 (endsOf F L) = L1 F ++ [.int .i64 L] := L1_append F [L]
        rw [e]
        exact Lib.hid (hVE_5.out.thin (List.Sublist.refl _) (List.Sublist.cons_cons _ (List.nil_sublist _)))
      exact AllReadyH.nil
    refine AllReadyH.cons (o := ⟨_, _, _, _, _, _⟩) rfl (fun Kq hKq => ?_) ?_
    · go_simp
      refine stepY hKq (show Sy w _ [(w.heap.size, #[.int .i64 L, .slice a F.length c, .slice a' l.length c'], 104)] [⟨.slice (some ⟨VE_0.heap.size, 0, none⟩) 1 1, 3, 1, 1, [.int .i64 L]⟩] [] from (hVE_0.out.onew VE_0.heap.size #[.int .i64 L] 3 1 1 rfl (by omega) rfl)) (fun _ hX => ⟨hX.cell 0 0 rfl rfl, hX.cell 0 1 rfl rfl, hX.cell 0 2 rfl rfl, trivial⟩) ?_
      intro VE_1 hc hHE_1
      have hVE_1 := Lib.hid hc
      clear hc hKq Kq hVE_0 hHE_0
      try simp only [Act.put, List.setIfInBounds_toArray, List.set_cons_zero, List.set_cons_succ]
      refine wpAnyH_ready (rs := [2, 7]) (by kernel_rfl) (by simp) ?_
      refine AllReadyH.cons (o := ⟨_, _, _, _, _, _⟩) rfl (fun Kq hKq => ?_) ?_
      · go_simp
        go_at_call 70
        refine (HCL.out _ hVE_1.out.be).mono ?_
        rintro e wT ⟨aC, cC, rfl, hr, hb⟩
        (try go_wp2_with fail)
        refine stepY hKq (show Sy w _ [(w.heap.size, #[.int .i64 L, .slice a F.length c, .slice a' l.length c'], 104)] [⟨.slice (some ⟨VE_0.heap.size, 0, none⟩) 1 1, 3, 1, 1, [.int .i64 L]⟩, ⟨.slice aC F.length cC, 3, 1, F.length, L1 F⟩] [] from (hVE_1.out.adopt hb hr)) (fun _ hX => ⟨hX.cell 0 0 rfl rfl, hX.cell 0 1 rfl rfl, hX.cell 0 2 rfl rfl, trivial⟩) ?_
        intro VE_2 hc hHE_2
        have hVE_2 := Lib.hid hc
        clear hc hKq Kq hVE_1 hb hr hHE_1
        try simp only [Act.put, List.setIfInBounds_toArray, List.set_cons_zero, List.set_cons_succ]
        refine wpAnyH_ready (rs := [6, 7]) (by kernel_rfl) (by simp) ?_
        refine AllReadyH.cons (o := ⟨_, _, _, _, _, _⟩) rfl (fun Kq hKq => ?_) ?_
        · rw [if_pos (by rfl)]
          refine op_append_sy hVE_2.out 1 0 rfl rfl _ _ _ rfl und_int info_int rfl (by omega) rfl rfl (by intro u hu; simp at hu; rcases hu with rfl; rfl) (by omega) (by omega) (fun aAE_3 cAE_3 _ hc => ?_)
          refine stepY hKq (show Sy w _ [(w.heap.size, #[.int .i64 L, .slice a F.length c, .slice a' l.length c'], 104)] [⟨.slice (some ⟨VE_0.heap.size, 0, none⟩) 1 1, 3, 1, 1, [.int .i64 L]⟩, ⟨.slice aAE_3 (F.length + 1) cAE_3, 3, 1, F.length + 1, L1 F ++ [.int .i64 L]⟩] [] from hc) (fun _ hX => ⟨hX.cell 0 0 rfl rfl, hX.cell 0 1 rfl rfl, hX.cell 0 2 rfl rfl, trivial⟩) ?_
          intro VE_3 hc2 hHE_3
          have hVE_3 := Lib.hid hc2
          clear hc2 hKq Kq hVE_2 hc hHE_2
          try simp only [Act.put, List.setIfInBounds_toArray, List.set_cons_zero, List.set_cons_succ]
          refine wpAnyH_ready (rs := [7]) (by kernel_rfl) (by simp) ?_
          refine AllReadyH.cons (o := ⟨_, _, _, _, _, _⟩) rfl (fun Kq hKq => ?_) AllReadyH.nil
          go_simp
          refine stepY hKq (show Sy w _ [(w.heap.size, #[.int .i64 L, .slice a F.length c, .slice a' l.length c'], 104), (VE_3.heap.size, #[.slice none 0 0], 31)] [⟨.slice (some ⟨VE_0.heap.size, 0, none⟩) 1 1, 3, 1, 1, [.int .i64 L]⟩, ⟨.slice aAE_3 (F.length + 1) cAE_3, 3, 1, F.length + 1, L1 F ++ [.int .i64 L]⟩] [] from (hVE_3.out.al VE_3.heap.size #[.slice none 0 0] 31 rfl)) (fun _ hX => ⟨hX.cell 0 0 rfl rfl, hX.cell 0 1 rfl rfl, hX.cell 0 2 rfl rfl, trivial⟩) ?_
          intro VE_4 hc hHE_4
          have hVE_4 := Lib.hid hc
          clear hc hKq Kq hVE_3 hHE_3
          try simp only [Act.put, List.setIfInBounds_toArray, List.set_cons_zero, List.set_cons_succ]
          refine wpAnyH_ready (rs := [8]) (by kernel_rfl) (by simp) ?_
          refine AllReadyH.cons (o := ⟨_, _, _, _, _, _⟩) rfl (fun Kq hKq => ?_) AllReadyH.nil
          have cQ0 := hVE_4.out.cell 1 0 rfl rfl
          have fQ0 := hVE_4.out.free 1 0 rfl
          go_simp
          refine stepY hKq (show Sy w _ [(w.heap.size, #[.int .i64 L, .slice a F.length c, .slice a' l.length c'], 104), (VE_3.heap.size, #[.slice aAE_3 (F.length + 1) cAE_3], 31)] [⟨.slice (some ⟨VE_0.heap.size, 0, none⟩) 1 1, 3, 1, 1, [.int .i64 L]⟩, ⟨.slice aAE_3 (F.length + 1) cAE_3, 3, 1, F.length + 1, L1 F ++ [.int .i64 L]⟩] [] from (hVE_4.out |>.set (j := 0) (v := .slice aAE_3 (F.length + 1) cAE_3) 1 rfl)) (fun _ hX => ⟨hX.cell 0 0 rfl rfl, hX.cell 0 1 rfl rfl, hX.cell 0 2 rfl rfl, trivial⟩) ?_
          intro VE_5 hc hHE_5
          have hVE_5 := Lib.hid hc
          clear hc hKq Kq hVE_4 cQ0 fQ0 hHE_4
          try simp only [Act.put, List.setIfInBounds_toArray, List.set_cons_zero, List.set_cons_succ]
          refine wpAnyH_done (by kernel_rfl) ?_ _
          go_wp2_with fail
          go_meet
          refine ⟨_, aAE_3, cAE_3, rfl, ?_⟩
          have e : L1 (endsOf F L) = L1 F ++ [.int .i64 L] := L1_append F [L]
          rw [e]
          exact Lib.hid (hVE_5.out.thin (List.Sublist.refl _) (List.Sublist.cons _ (List.Sublist.refl _)))
        refine AllReadyH.cons (o := ⟨_, _, _, _, _, _⟩) rfl (fun Kq hKq => ?_) ?_
        · go_simp
          refine stepY hKq (show Sy w _ [(w.heap.size, #[.int .i64 L, .slice a F.length c, .slice a' l.length c'], 104), (VE_2.heap.size, #[.slice none 0 0], 31)] [⟨.slice (some ⟨VE_0.heap.size, 0, none⟩) 1 1, 3, 1, 1, [.int .i64 L]⟩, ⟨.slice aC F.length cC, 3, 1, F.length, L1 F⟩] [] from (hVE_2.out.al VE_2.heap.size #[.slice none 0 0] 31 rfl)) (fun _ hX => ⟨hX.cell 0 0 rfl rfl, hX.cell 0 1 rfl rfl, hX.cell 0 2 rfl rfl, trivial⟩) ?_
          intro VE_3 hc hHE_3
          have hVE_3 := Lib.hid hc
          clear hc hKq Kq hVE_2 hHE_2
          try simp only [Act.put, List.setIfInBounds_toArray, List.set_cons_zero, List.set_cons_succ]
          refine wpAnyH_ready (rs := [6]) (by kernel_rfl) (by simp) ?_
          refine AllReadyH.cons (o := ⟨_, _, _, _, _, _⟩) rfl (fun Kq hKq => ?_) AllReadyH.nil
          rw [if_pos (by rfl)]
          refine op_append_sy hVE_3.out 1 0 rfl rfl _ _ _ rfl und_int info_int rfl (by omega) rfl rfl (by intro u hu; simp at hu; rcases hu with rfl; rfl) (by omega) (by omega) (fun aAE_4 cAE_4 _ hc => ?_)
          refine stepY hKq (show Sy w _ [(w.heap.size, #[.int .i64 L, .slice a F.length c, .slice a' l.length c'], 104), (VE_2.heap.size, #[.slice none 0 0], 31)] [⟨.slice (some ⟨VE_0.heap.size, 0, none⟩) 1 1, 3, 1, 1, [.int .i64 L]⟩, ⟨.slice aAE_4 (F.length + 1) cAE_4, 3, 1, F.length + 1, L1 F ++ [.int .i64 L]⟩] [] from hc) (fun _ hX => ⟨hX.cell 0 0 rfl rfl, hX.cell 0 1 rfl rfl, hX.cell 0 2 rfl rfl, trivial⟩) ?_
          intro VE_4 hc2 hHE_4
          have hVE_4 := Lib.hid hc2
          clear hc2 hKq Kq hVE_3 hc hHE_3
          try simp only [Act.put, List.setIfInBounds_toArray, List.set_cons_zero, List.set_cons_succ]
          refine wpAnyH_ready (rs := [8]) (by kernel_rfl) (by simp) ?_
          refine AllReadyH.cons (o := ⟨_, _, _, _, _, _⟩) rfl (fun Kq hKq => ?_) AllReadyH.nil
          have cQ0 := hVE_4.out.cell 1 0 rfl rfl
          have fQ0 := hVE_4.out.free 1 0 rfl
          go_simp
          refine stepY hKq (show Sy w _ [(w.heap.size, #[.int .i64 L, .slice a F.length c, .slice a' l.length c'], 104), (VE_2.heap.size, #[.slice aAE_4 (F.length + 1) cAE_4], 31)] [⟨.slice (some ⟨VE_0.heap.size, 0, none⟩) 1 1, 3, 1, 1, [.int .i64 L]⟩, ⟨.slice aAE_4 (F.length + 1) cAE_4, 3, 1, F.length + 1, L1 F ++ [.int .i64 L]⟩] [] from (hVE_4.out |>.set (j := 0) (v := .slice aAE_4 (F.length + 1) cAE_4) 1 rfl)) (fun _ hX => ⟨hX.cell 0 0 rfl rfl, hX.cell 0 1 rfl rfl, hX.cell 0 2 rfl rfl, trivial⟩) ?_
          intro VE_5 hc hHE_5
          have hVE_5 := Lib.hid hc
          clear hc hKq Kq hVE_4 cQ0 fQ0 hHE_4
          try simp only [Act.put, List.setIfInBounds_toArray, List.set_cons_zero, List.set_cons_succ]
          refine wpAnyH_done (by kernel_rfl) ?_ _
          go_wp2_with fail
          go_meet
          refine ⟨_, aAE_4, cAE_4, rfl, ?_⟩
          have e : L1 (endsOf F L) = L1 F ++ [.int .i64 L] := L1_append F [L]
          rw [e]
          exact Lib.hid (hVE_5.out.thin (List.Sublist.refl _) (List.Sublist.cons _ (List.Sublist.refl _)))
        exact AllReadyH.nil
      refine AllReadyH.cons (o := ⟨_, _, _, _, _, _⟩) rfl (fun Kq hKq => ?_) ?_
      · go_simp
        refine stepY hKq (show Sy w _ [(w.heap.size, #[.int .i64 L, .slice a F.length c, .slice a' l.length c'], 104), (VE_1.heap.size, #[.slice none 0 0], 31)] [⟨.slice (some ⟨VE_0.heap.size, 0, none⟩) 1 1, 3, 1, 1, [.int .i64 L]⟩] [] from (hVE_1.out.al VE_1.heap.size #[.slice none 0 0] 31 rfl)) (fun _ hX => ⟨hX.cell 0 0 rfl rfl, hX.cell 0 1 rfl rfl, hX.cell 0 2 rfl rfl, trivial⟩) ?_
        intro VE_2 hc hHE_2
        have hVE_2 := Lib.hid hc
        clear hc hKq Kq hVE_1 hHE_1
        try simp only [Act.put, List.setIfInBounds_toArray, List.set_cons_zero, List.set_cons_succ]
        refine wpAnyH_ready (rs := [2]) (by kernel_rfl) (by simp) ?_
        refine AllReadyH.cons (o := ⟨_, _, _, _, _, _⟩) rfl (fun Kq hKq => ?_) AllReadyH.nil
        go_simp
        go_at_call 70
        refine (HCL.out _ hVE_2.out.be).mono ?_
        rintro e wT ⟨aC, cC, rfl, hr, hb⟩
        (try go_wp2_with fail)
        refine stepY hKq (show Sy w _ [(w.heap.size, #[.int .i64 L, .slice a F.length c, .slice a' l.length c'], 104), (VE_1.heap.size, #[.slice none 0 0], 31)] [⟨.slice (some ⟨VE_0.heap.size, 0, none⟩) 1 1, 3, 1, 1, [.int .i64 L]⟩, ⟨.slice aC F.length cC, 3, 1, F.length, L1 F⟩] [] from (hVE_2.out.adopt hb hr)) (fun _ hX => ⟨hX.cell 0 0 rfl rfl, hX.cell 0 1 rfl rfl, hX.cell 0 2 rfl rfl, trivial⟩) ?_
        intro VE_3 hc hHE_3
        have hVE_3 := Lib.hid hc
        clear hc hKq Kq hVE_2 hb hr hHE_2
        try simp only [Act.put, List.setIfInBounds_toArray, List.set_cons_zero, List.set_cons_succ]
        refine wpAnyH_ready (rs := [6]) (by kernel_rfl) (by simp) ?_
        refine AllReadyH.cons (o := ⟨_, _, _, _, _, _⟩) rfl (fun Kq hKq => ?_) AllReadyH.nil
        rw [if_pos (by rfl)]
        refine op_append_sy hVE_3.out 1 0 rfl rfl _ _ _ rfl und_int info_int rfl (by omega) rfl rfl (by intro u hu; simp at hu; rcases hu with rfl; rfl) (by omega) (by omega) (fun aAE_4 cAE_4 _ hc => ?_)
        refine stepY hKq (show Sy w _ [(w.heap.size, #[.int .i64 L, .slice a F.length c, .slice a' l.length c'], 104), (VE_1.heap.size, #[.slice none 0 0], 31)] [⟨.slice (some ⟨VE_0.heap.size, 0, none⟩) 1 1, 3, 1, 1, [.int .i64 L]⟩, ⟨.slice aAE_4 (F.length + 1) cAE_4, 3, 1, F.length + 1, L1 F ++ [.int .i64 L]⟩] [] from hc) (fun _ hX => ⟨hX.cell 0 0 rfl rfl, hX.cell 0 1 rfl rfl, hX.cell 0 2 rfl rfl, trivial⟩) ?_
        intro VE_4 hc2 hHE_4
        have hVE_4 := Lib.hid hc2
        clear hc2 hKq Kq hVE_3 hc hHE_3
        try simp only [Act.put, List.setIfInBounds_toArray, List.set_cons_zero, List.set_cons_succ]
        refine wpAnyH_ready (rs := [8]) (by kernel_rfl) (by simp) ?_
        refine AllReadyH.cons (o := ⟨_, _, _, _, _, _⟩) rfl (fun Kq hKq => ?_) AllReadyH.nil
        have cQ0 := hVE_4.out.cell 1 0 rfl rfl
        have fQ0 := hVE_4.out.free 1 0 rfl
        go_simp
        refine stepY hKq (show Sy w _ [(w.heap.size, #[.int .i64 L, .slice a F.length c, .slice a' l.length c'], 104), (VE_1.heap.size, #[.slice aAE_4 (F.length + 1) cAE_4], 31)] [⟨.slice (some ⟨VE_0.heap.size, 0, none⟩) 1 1, 3, 1, 1, [.int .i64 L]⟩, ⟨.slice aAE_4 (F.length + 1) cAE_4, 3, 1, F.length + 1, L1 F ++ [.int .i64 L]⟩] [] from (hVE_4.out |>.set (j := 0) (v := .slice aAE_4 (F.length + 1) cAE_4) 1 rfl)) (fun _ hX => ⟨hX.cell 0 0 rfl rfl, hX.cell 0 1 rfl rfl, hX.cell 0 2 rfl rfl, trivial⟩) ?_
        intro VE_5 hc hHE_5
        have hVE_5 := Lib.hid hc
        clear hc hKq Kq hVE_4 cQ0 fQ0 hHE_4
        try simp only [Act.put, List.setIfInBounds_toArray, List.set_cons_zero, List.set_cons_succ]
        refine wpAnyH_done (by kernel_rfl) ?_ _
        go_wp2_with fail
        go_meet
        refine ⟨_, aAE_4, cAE_4, rfl, ?_⟩
        have e : L1 (endsOf F L) = L1 F ++ [.int .i64 L] := L1_append F [L]
        rw [e]
        exact Lib.hid (hVE_5.out.thin (List.Sublist.refl _) (List.Sublist.cons _ (List.Sublist.refl _)))
      exact AllReadyH.nil
    refine AllReadyH.cons (o := ⟨_, _, _, _, _, _⟩) rfl (fun Kq hKq => ?_) ?_
    · go_simp
      refine stepY hKq (show Sy w _ [(w.heap.size, #[.int .i64 L, .slice a F.length c, .slice a' l.length c'], 104), (VE_0.heap.size, #[.slice none 0 0], 31)] [] [] from (hVE_0.out.al VE_0.heap.size #[.slice none 0 0] 31 rfl)) (fun _ hX => ⟨hX.cell 0 0 rfl rfl, hX.cell 0 1 rfl rfl, hX.cell 0 2 rfl rfl, trivial⟩) ?_
      intro VE_1 hc hHE_1
      have hVE_1 := Lib.hid hc
      clear hc hKq Kq hVE_0 hHE_0
      try simp only [Act.put, List.setIfInBounds_toArray, List.set_cons_zero, List.set_cons_succ]
      refine wpAnyH_ready (rs := [2, 5]) (by kernel_rfl) (by simp) ?_
      refine AllReadyH.cons (o := ⟨_, _, _, _, _, _⟩) rfl (fun Kq hKq => ?_) ?_
      · go_simp
        go_at_call 70
        refine (HCL.out _ hVE_1.out.be).mono ?_
        rintro e wT ⟨aC, cC, rfl, hr, hb⟩
        (try go_wp2_with fail)
        refine stepY hKq (show Sy w _ [(w.heap.size, #[.int .i64 L, .slice a F.length c, .slice a' l.length c'], 104), (VE_0.heap.size, #[.slice none 0 0], 31)] [⟨.slice aC F.length cC, 3, 1, F.length, L1 F⟩] [] from (hVE_1.out.adopt hb hr)) (fun _ hX => ⟨hX.cell 0 0 rfl rfl, hX.cell 0 1 rfl rfl, hX.cell 0 2 rfl rfl, trivial⟩) ?_
        intro VE_2 hc hHE_2
        have hVE_2 := Lib.hid hc
        clear hc hKq Kq hVE_1 hb hr hHE_1
        try simp only [Act.put, List.setIfInBounds_toArray, List.set_cons_zero, List.set_cons_succ]
        refine wpAnyH_ready (rs := [5]) (by kernel_rfl) (by simp) ?_
        refine AllReadyH.cons (o := ⟨_, _, _, _, _, _⟩) rfl (fun Kq hKq => ?_) AllReadyH.nil
        go_simp
        refine stepY hKq (show Sy w _ [(w.heap.size, #[.int .i64 L, .slice a F.length c, .slice a' l.length c'], 104), (VE_0.heap.size, #[.slice none 0 0], 31)] [⟨.slice aC F.length cC, 3, 1, F.length, L1 F⟩, ⟨.slice (some ⟨VE_2.heap.size, 0, none⟩) 1 1, 3, 1, 1, [.int .i64 L]⟩] [] from (hVE_2.out.onew VE_2.heap.size #[.int .i64 L] 3 1 1 rfl (by omega) rfl)) (fun _ hX => ⟨hX.cell 0 0 rfl rfl, hX.cell 0 1 rfl rfl, hX.cell 0 2 rfl rfl, trivial⟩) ?_
        intro VE_3 hc hHE_3
        have hVE_3 := Lib.hid hc
        clear hc hKq Kq hVE_2 hHE_2
        try simp only [Act.put, List.setIfInBounds_toArray, List.set_cons_zero, List.set_cons_succ]
        refine wpAnyH_ready (rs := [6]) (by kernel_rfl) (by simp) ?_
        refine AllReadyH.cons (o := ⟨_, _, _, _, _, _⟩) rfl (fun Kq hKq => ?_) AllReadyH.nil
        rw [if_pos (by rfl)]
        refine op_append_sy hVE_3.out 0 1 rfl rfl _ _ _ rfl und_int info_int rfl (by omega) rfl rfl (by intro u hu; simp at hu; rcases hu with rfl; rfl) (by omega) (by omega) (fun aAE_4 cAE_4 _ hc => ?_)
        refine stepY hKq (show Sy w _ [(w.heap.size, #[.int .i64 L, .slice a F.length c, .slice a' l.length c'], 104), (VE_0.heap.size, #[.slice none 0 0], 31)] [⟨.slice aAE_4 (F.length + 1) cAE_4, 3, 1, F.length + 1, L1 F ++ [.int .i64 L]⟩, ⟨.slice (some ⟨VE_2.heap.size, 0, none⟩) 1 1, 3, 1, 1, [.int .i64 L]⟩] [] from hc) (fun _ hX => ⟨hX.cell 0 0 rfl rfl, hX.cell 0 1 rfl rfl, hX.cell 0 2 rfl rfl, trivial⟩) ?_
        intro VE_4 hc2 hHE_4
        have hVE_4 := Lib.hid hc2
        clear hc2 hKq Kq hVE_3 hc hHE_3
        try simp only [Act.put, List.setIfInBounds_toArray, List.set_cons_zero, List.set_cons_succ]
        refine wpAnyH_ready (rs := [8]) (by kernel_rfl) (by simp) ?_
        refine AllReadyH.cons (o := ⟨_, _, _, _, _, _⟩) rfl (fun Kq hKq => ?_) AllReadyH.nil
        have cQ0 := hVE_4.out.cell 1 0 rfl rfl
        have fQ0 := hVE_4.out.free 1 0 rfl
        go_simp
        refine stepY hKq (show Sy w _ [(w.heap.size, #[.int .i64 L, .slice a F.length c, .slice a' l.length c'], 104), (VE_0.heap.size, #[.slice aAE_4 (F.length + 1) cAE_4], 31)] [⟨.slice aAE_4 (F.length + 1) cAE_4, 3, 1, F.length + 1, L1 F ++ [.int .i64 L]⟩, ⟨.slice (some ⟨VE_2.heap.size, 0, none⟩) 1 1, 3, 1, 1, [.int .i64 L]⟩] [] from (hVE_4.out |>.set (j := 0) (v := .slice aAE_4 (F.length + 1) cAE_4) 1 rfl)) (fun _ hX => ⟨hX.cell 0 0 rfl rfl, hX.cell 0 1 rfl rfl, hX.cell 0 2 rfl rfl, trivial⟩) ?_
        intro VE_5 hc hHE_5
        have hVE_5 := Lib.hid hc
        clear hc hKq Kq hVE_4 cQ0 fQ0 hHE_4
        try simp only [Act.put, List.setIfInBounds_toArray, List.set_cons_zero, List.set_cons_succ]
        refine wpAnyH_done (by kernel_rfl) ?_ _
        go_wp2_with fail
        go_meet
        refine ⟨_, aAE_4, cAE_4, rfl, ?_⟩
        have e : L1 (endsOf F L) = L1 F ++ [.int .i64 L] := L1_append F [L]
        rw [e]
        exact Lib.hid (hVE_5.out.thin (List.Sublist.refl _) (List.Sublist.cons_cons _ (List.nil_sublist _)))
      refine AllReadyH.cons (o := ⟨_, _, _, _, _, _⟩) rfl (fun Kq hKq => ?_) ?_
      · go_simp
        refine stepY hKq (show Sy w _ [(w.heap.size, #[.int .i64 L, .slice a F.length c, .slice a' l.length c'], 104), (VE_0.heap.size, #[.slice none 0 0], 31)] [⟨.slice (some ⟨VE_1.heap.size, 0, none⟩) 1 1, 3, 1, 1, [.int .i64 L]⟩] [] from (hVE_1.out.onew VE_1.heap.size #[.int .i64 L] 3 1 1 rfl (by omega) rfl)) (fun _ hX => ⟨hX.cell 0 0 rfl rfl, hX.cell 0 1 rfl rfl, hX.cell 0 2 rfl rfl, trivial⟩) ?_
        intro VE_2 hc hHE_2
        have hVE_2 := Lib.hid hc
        clear hc hKq Kq hVE_1 hHE_1
        try simp only [Act.put, List.setIfInBounds_toArray, List.set_cons_zero, List.set_cons_succ]
        refine wpAnyH_ready (rs := [2]) (by kernel_rfl) (by simp) ?_
        refine AllReadyH.cons (o := ⟨_, _, _, _, _, _⟩) rfl (fun Kq hKq => ?_) AllReadyH.nil
        go_simp
        go_at_call 70
        refine (HCL.out _ hVE_2.out.be).mono ?_
        rintro e wT ⟨aC, cC, rfl, hr, hb⟩
        (try go_wp2_with fail)
        refine stepY hKq (show Sy w _ [(w.heap.size, #[.int .i64 L, .slice a F.length c, .slice a' l.length c'], 104), (VE_0.heap.size, #[.slice none 0 0], 31)] [⟨.slice (some ⟨VE_1.heap.size, 0, none⟩) 1 1, 3, 1, 1, [.int .i64 L]⟩, ⟨.slice aC F.length cC, 3, 1, F.length, L1 F⟩] [] from (hVE_2.out.adopt hb hr)) (fun _ hX => ⟨hX.cell 0 0 rfl rfl, hX.cell 0 1 rfl rfl, hX.cell 0 2 rfl rfl, trivial⟩) ?_
        intro VE_3 hc hHE_3
        have hVE_3 := Lib.hid hc
        clear hc hKq Kq hVE_2 hb hr hHE_2
        try simp only [Act.put, List.setIfInBounds_toArray, List.set_cons_zero, List.set_cons_succ]
        refine wpAnyH_ready (rs := [6]) (by kernel_rfl) (by simp) ?_
        refine AllReadyH.cons (o := ⟨_, _, _, _, _, _⟩) rfl (fun Kq hKq => ?_) AllReadyH.nil
        rw [if_pos (by rfl)]
        refine op_append_sy hVE_3.out 1 0 rfl rfl _ _ _ rfl und_int info_int rfl (by omega) rfl rfl (by intro u hu; simp at hu; rcases hu with rfl; rfl) (by omega) (by omega) (fun aAE_4 cAE_4 _ hc => ?_)
        refine stepY hKq (show Sy w _ [(w.heap.size, #[.int .i64 L, .slice a F.length c, .slice a' l.length c'], 104), (VE_0.heap.size, #[.slice none 0 0], 31)] [⟨.slice (some ⟨VE_1.heap.size, 0, none⟩) 1 1, 3, 1, 1, [.int .i64 L]⟩, ⟨.slice aAE_4 (F.length + 1) cAE_4, 3, 1, F.length + 1, L1 F ++ [.int .i64 L]⟩] [] from hc) (fun _ hX => ⟨hX.cell 0 0 rfl rfl, hX.cell 0 1 rfl rfl, hX.cell 0 2 rfl rfl, trivial⟩) ?_
        intro VE_4 hc2 hHE_4
        have hVE_4 := Lib.hid hc2
        clear hc2 hKq Kq hVE_3 hc hHE_3
        try simp only [Act.put, List.setIfInBounds_toArray, List.set_cons_zero, List.set_cons_succ]
        refine wpAnyH_ready (rs := [8]) (by kernel_rfl) (by simp) ?_
        refine AllReadyH.cons (o := ⟨_, _, _, _, _, _⟩) rfl (fun Kq hKq => ?_) AllReadyH.nil
        have cQ0 := hVE_4.out.cell 1 0 rfl rfl
        have fQ0 := hVE_4.out.free 1 0 rfl
        go_simp
        refine stepY hKq (show Sy w _ [(w.heap.size, #[.int .i64 L, .slice a F.length c, .slice a' l.length c'], 104), (VE_0.heap.size, #[.slice aAE_4 (F.length + 1) cAE_4], 31)] [⟨.slice (some ⟨VE_1.heap.size, 0, none⟩) 1 1, 3, 1, 1, [.int .i64 L]⟩, ⟨.slice aAE_4 (F.length + 1) cAE_4, 3, 1, F.length + 1, L1 F ++ [.int .i64 L]⟩] [] from (hVE_4.out |>.set (j := 0) (v := .slice aAE_4 (F.length + 1) cAE_4) 1 rfl)) (fun _ hX => ⟨hX.cell 0 0 rfl rfl, hX.cell 0 1 rfl rfl, hX.cell 0 2 rfl rfl, trivial⟩) ?_
        intro VE_5 hc hHE_5
        have hVE_5 := Lib.hid hc
        clear hc hKq Kq hVE_4 cQ0 fQ0 hHE_4
        try simp only [Act.put, List.setIfInBounds_toArray, List.set_cons_zero, List.set_cons_succ]
        refine wpAnyH_done (by kernel_rfl) ?_ _
        go_wp2_with fail
        go_meet
        refine ⟨_, aAE_4, cAE_4, rfl, ?_⟩
        have e : L1 (endsOf F L) = L1 F ++ [.int .i64 L] := L1_append F [L]
        rw [e]
        exact Lib.hid (hVE_5.out.thin (List.Sublist.refl _) (List.Sublist.cons _ (List.Sublist.refl _)))
      exact AllReadyH.nil
    exact AllReadyH.nil
  case rest =>
    obtain ⟨bE, a5, c5, rfl, hE⟩ := hcut
    clear hD
    have c0 := hE.out.cell 0 0 rfl rfl
    have c1 := hE.out.cell 0 1 rfl rfl
    have c2 := hE.out.cell 0 2 rfl rfl
    obtain ⟨gE, rfl, hcE⟩ := hE.out.oaddr 0 rfl (by omega)
    go_wp2
    go_loopw [4, 5, 21] (fun lv av iv wr => ∃ (k : Nat) (a1 : Option Addr) (c1 : Nat), k ≤ l.length ∧ lv = .slice a1 (stintsOf (endsOf F L) ((pacesOf l).take k) d).length c1 ∧ av = .int .i64 (reachOf (endsOf F L) ((pacesOf l).take k) d) ∧ iv = .int .i64 k ∧
      Hid (Sy w wr [(w.heap.size, #[.int .i64 L, .slice a F.length c, .slice a' l.length c'], 104), (bE, #[.slice (some ⟨gE, 0, none⟩) (F.length + 1) c5], 31)] [⟨.slice (some ⟨gE, 0, none⟩) (F.length + 1) c5, 3, 1, F.length + 1, L1 (endsOf F L)⟩, ⟨.slice a1 (stintsOf (endsOf F L) ((pacesOf l).take k) d).length c1, 59, 3, (stintsOf (endsOf F L) ((pacesOf l).take k) d).length, L3 (stintsOf (endsOf F L) ((pacesOf l).take k) d)⟩] [])) (fun _ _ iv _ => l.length - (intOf iv).toNat)
    case atStart => exact ⟨0, none, 0, Nat.zero_le _, rfl, rfl, rfl, Lib.hid (hE.out.onil _ 3)⟩
    case round =>
      clear c0 c1 c2 hE
      obtain ⟨k, a1, c1, hk, rfl, rfl, rfl, hC⟩ := hrel
      by_cases hlt : k < l.length
      · obtain ⟨g0, o0, rfl⟩ := HS'.out.addr (by omega)
        obtain ⟨x0, x1, x2⟩ := (hC.out.sx HS'.out).atW hlt
        have HPT := Lib.hid (pacesOf_take l k hlt)
        have hp := HP.out _ (List.getElem_mem hlt)
        have hkl : ((pacesOf l).take k).length = k := by rw [List.length_take]; simp [pacesOf]; omega
        have HSN := Lib.hid (stints_snoc (endsOf F L) ((pacesOf l).take k) l[k].2.1 d)
        have HRN := Lib.hid (reach_snoc (endsOf F L) ((pacesOf l).take k) l[k].2.1 d)
        have hr1 := HR.out.reach_le (paces := (pacesOf l).take k) d
        have hr0 := reach_ge (endsOf F L) ((pacesOf l).take k) d
        have hsl := stints_len (endsOf F L) d ((pacesOf l).take k)
        have hLL := HR.out.2.1
        rw [hkl] at hsl HSN
        rw [← HPT.out] at HSN HRN
        clear hkl HPT
        generalize l[k] = x at *
        obtain ⟨u0, u1, u2⟩ := x
        have hp0 : 1 ≤ u1 := hp.1
        have hp1 : u1 ≤ 20000 := hp.2
        generalize hst : stintsOf (endsOf F L) ((pacesOf l).take k) d = st at *
        generalize hat : reachOf (endsOf F L) ((pacesOf l).take k) d = at0 at *
        have HST := Lib.hid hst
        have HAT := Lib.hid hat
        have q0 : 0 ≤ u1 * d := Int.mul_nonneg (by omega) hd0
        have q1 : u1 * d ≤ 20000 * 1000000 := Int.mul_le_mul hp1 hd1 hd0 (by decide)
        clear hst hat hp
        have hC2 := Lib.hid ((hC.out.al wr.heap.size #[.string u0, .int .i64 u1, .int .i64 u2] 57 rfl).al (wr.heap.size + 1) #[.int .i64 (at0 + u1 * d)] 3 (by simp))
        go_upto_region 6 with fail
        refine wp_geny hC2.out ?_
        intro W2 hc
        have hD : Hid (Sy w W2 [(w.heap.size, #[.int .i64 L, .slice a F.length c, .slice (some ⟨g0, o0, none⟩) l.length c'], 104), (bE, #[.slice (some ⟨gE, 0, none⟩) (F.length + 1) c5], 31), (wr.heap.size, #[.string u0, .int .i64 u1, .int .i64 u2], 57), (wr.heap.size + 1, #[.int .i64 (at0 + u1 * d)], 3)] [⟨.slice (some ⟨gE, 0, none⟩) (F.length + 1) c5, 3, 1, F.length + 1, L1 (endsOf F L)⟩, ⟨.slice a1 st.length c1, 59, 3, st.length, L3 st⟩] []) := Lib.hid hc
        clear hc hC2 hC x0 x1 x2
        generalize at0 + u1 * d = far at *
        generalize wr.heap.size + 1 = bF at *
        obtain ⟨K, hK, hKl, hKn⟩ := found HR.out.asc far
        have hel : (endsOf F L).length = F.length + 1 := by simp [endsOf]
        rw [hel] at hK hKl
        have hS := search_any W2 74 #[.pointer (some ⟨bE, 0, none⟩), .pointer (some ⟨bF, 0, none⟩)] (F.length + 1) (fun i => decide (far < (endsOf F L).getD i 0)) eg_eager1 (by omega)
          (fun W' hW i hi => eager1_any W' i bE bF (F.length + 1) c5 (some ⟨gE, 0, none⟩) (endsOf F L) far hi ((hD.out.osx 0 rfl).below hW) ((World.cell?_of_block (a := ⟨bE, 0, none⟩) (hW.block bE (hD.out.lt 1 rfl))).trans (hD.out.cell 1 0 rfl rfl)) ((World.cell?_of_block (a := ⟨bF, 0, none⟩) (hW.block bF (hD.out.lt 3 rfl))).trans (hD.out.cell 3 0 rfl rfl)) (by omega))
          (fun x y hxy hy hx => by
            have h1 := of_decide_eq_true hx
            refine decide_eq_true ?_
            rcases Nat.lt_or_ge x y with h3 | h3
            · have h2 := List.pairwise_iff_getElem.1 HR.out.asc x y (by omega) (by omega) h3
              rw [getD_at (by omega)] at h1
              rw [getD_at (by omega)]
              omega
            · rw [show y = x by omega]; exact h1)
        rw [hK] at hS
        have HC := Lib.hid hS
        clear hS hK
        have xE := hD.out.cell 1 0 rfl rfl
        have HKN := Lib.hid (hKn at0)
        have hnm : at0 < nextEnd (endsOf F L) at0 far ↔ 0 < K ∧ at0 < (endsOf F L).getD (K - 1) 0 := by
          rw [hKn at0]
          split
          · next h => exact ⟨fun _ => h, fun _ => h.2⟩
          · next h => exact ⟨fun h1 => absurd h1 (by omega), fun h1 => absurd h1 h⟩
        have HNM := Lib.hid hnm
        clear hKn hnm
        go_wp2_with fail
        refine HC.out.mono ?_
        rintro e wT ⟨rfl, hb⟩
        have hG := Lib.hid (hD.out.call hb)
        clear hb xE HC
        clear hD
        have xE := hG.out.cell 1 0 rfl rfl
        by_cases hK0 : 0 < K
        · have hKi : K - 1 < (endsOf F L).length := by omega
          have xK := (hG.out.osx 0 rfl).at1 hKi
          rw [getD_at hKi] at HNM
          have hge := HR.out.ends_le _ (List.getElem_mem hKi)
          generalize hEK : (endsOf F L)[K - 1] = eK at *
          have HEK := Lib.hid hEK
          clear hEK
          rw [Nat.zero_add] at xK
          have n1 : ((K : Int) - 1) = ((K - 1 : Nat) : Int) := by omega
          cases hk1 : decide (at0 < eK)
          · have HSK := Lib.hid (hk1)
            go_wp2
            go_roundw
            case rel =>
              have hno : ¬ at0 < nextEnd (endsOf F L) at0 far := fun h => by have := (HNM.out.1 h).2; have := of_decide_eq_false HSK.out; omega
              have e1 := HSN.out
              have e2 := HRN.out
              rw [if_neg hno] at e1
              have e3 : nextEnd (endsOf F L) at0 far = at0 := by
                have h3 := HKN.out
                rw [if_neg (fun h => hno (HNM.out.2 ⟨h.1, by rw [getD_at hKi, HEK.out] at h; exact h.2⟩))] at h3
                exact h3
              rw [e3] at e2
              refine ⟨k + 1, a1, c1, by omega, by rw [e1], by rw [e2], by go_num, ?_⟩
              rw [e1]
              exact Lib.hid (hG.out.thin (by simp) (by simp))
            case measure => simp [intOf]; omega
          · have HSK := Lib.hid (hk1)
            go_wp2_with (refine wpList_append_sy (o := ⟨some 57, _, _, _, _, _⟩) rfl (hG.out.onew wT.heap.size #[.int .i64 (k : Int), .int .i64 at0, .int .i64 eK] 59 3 1 rfl (by omega) rfl) 1 2 rfl rfl _ _ _ rfl und_Stint info_Stint rfl (by omega) rfl rfl (by intro u hu; simp at hu; rcases hu with rfl | rfl | rfl <;> rfl) (by omega) (by omega) ?_; intro a3 c3 V hV; have hJ := Lib.hid hV; clear hV; have xE := hJ.out.cell 1 0 rfl rfl; have xK := (hJ.out.osx 0 rfl).at1 hKi; rw [HEK.out, Nat.zero_add] at xK)
            go_roundw
            case rel =>
              have hno : at0 < nextEnd (endsOf F L) at0 far := HNM.out.2 ⟨hK0, of_decide_eq_true HSK.out⟩
              have e1 := HSN.out
              have e2 := HRN.out
              have e3 : nextEnd (endsOf F L) at0 far = eK := by
                have h3 := HKN.out
                rw [getD_at hKi, HEK.out, if_pos (HNM.out.1 hno)] at h3
                exact h3
              rw [if_pos hno, e3] at e1
              rw [e3] at e2
              refine ⟨k + 1, a3, c3, by omega, by rw [e1, List.length_append]; rfl, by rw [e2], by go_num, ?_⟩
              rw [e1]
              have hLs : L3 (st ++ [((k : Int), at0, eK)]) = L3 st ++ #[.int .i64 (k : Int), .int .i64 at0, .int .i64 eK].toList := by rw [L3_append]; rfl
              rw [hLs, List.length_append]
              exact Lib.hid (hJ.out.thin (List.Sublist.cons_cons _ (List.Sublist.cons_cons _ (List.nil_sublist _))) (List.Sublist.cons_cons _ (List.Sublist.cons_cons _ (List.nil_sublist _))))
            case measure => simp [intOf]; omega
        · have HSK := Lib.hid hK0
          go_wp2
          go_roundw
          case rel =>
            have hno : ¬ at0 < nextEnd (endsOf F L) at0 far := fun h => hK0 (HNM.out.1 h).1
            have e1 := HSN.out
            have e2 := HRN.out
            rw [if_neg hno] at e1
            have e3 : nextEnd (endsOf F L) at0 far = at0 := by
              have h3 := HKN.out
              rw [if_neg (fun h => hK0 h.1)] at h3
              exact h3
            rw [e3] at e2
            refine ⟨k + 1, a1, c1, by omega, by rw [e1], by rw [e2], by go_num, ?_⟩
            rw [e1]
            exact Lib.hid (hG.out.thin (by simp) (by simp))
          case measure => simp [intOf]; omega
      · obtain rfl : k = l.length := by omega
        have ht : (pacesOf l).take l.length = pacesOf l := List.take_of_length_le (by simp [pacesOf])
        rw [ht] at hC
        rw [ht]
        go_wp2
        go_ret2
        exact ⟨a1, c1, rfl, hC.out.gives 1 rfl, hC.out.be⟩
end
end Go.Proofs.YtchignmnnbepnaaGreat

/- is a list of loads a carrying, and at what cost: the reference's Carrying -/
import Derived.Test.YteogibpmpppgmaaGreatH16
import Derived.BigQuiet
import Derived.Test.YteogibpmpppgmaaGreatH5
namespace Go.Proofs.YteogibpmpppgmaaGreat
open Go.RowKit

def ld0 : I3 := (0, 0, 0)
def ldIn (np nn : Nat) (x : I3) : Bool := inB x.1 0 ((np : Int) - 1) && inB x.2.1 0 ((nn : Int) - 1) && inB x.2.2 1 1000000
def ldUp (y x : I3) : Bool := !(decide (x.1 < y.1) || (decide (x.1 = y.1) && decide (x.2.1 ≤ y.2.1)))
def ldOk (np nn : Nat) (l : List I3) (i : Nat) : Bool := ldIn np nn (l.getD i ld0) && (decide (i = 0) || ldUp (l.getD (i - 1) ld0) (l.getD i ld0))
def ldsOk (np nn : Nat) (l : List I3) : Bool := (List.range l.length).all (ldOk np nn l)
def putL (g : List Int) (j : Nat) (x : Int) : List Int := g.set j (g.getD j 0 + x)
def givenL (np : Nat) (l : List I3) : List Int := l.foldl (fun g x => putL g x.1.toNat x.2.2) (List.replicate np 0)
def gotL (nn : Nat) (l : List I3) : List Int := l.foldl (fun g x => putL g x.2.1.toNat x.2.2) (List.replicate nn 0)
def unitAt (P : List I3) (N : List I2) (x : I3) : Int := unitI (P.getD x.1.toNat ld0) (N.getD x.2.1.toNat (0, 0))
def costL (P : List I3) (N : List I2) (l : List I3) : Int := l.foldl (fun c x => c + x.2.2 * unitAt P N x) 0
def givenOk (P : List I3) (G : List Int) : Bool := (List.range P.length).all fun i => decide (G.getD i 0 ≤ hA P i)
def gotOk (N : List I2) (T : List Int) : Bool := (List.range N.length).all fun k => decide (T.getD k 0 = hB N k)
def carryOk (P : List I3) (N : List I2) (l : List I3) : Bool := ldsOk P.length N.length l && givenOk P (givenL P.length l) && gotOk N (gotL N.length l)
def carryAns (P : List I3) (N : List I2) (l : List I3) : Int × Bool := if carryOk P N l then (costL P N l, true) else (0, false)
theorem getD_at3 {l : List I3} {i : Nat} (h : i < l.length) : l.getD i ld0 = l[i] := by rw [List.getD_eq_getElem?_getD, List.getElem?_eq_getElem h]; rfl
theorem getD_at2 {l : List I2} {i : Nat} (h : i < l.length) : l.getD i (0, 0) = l[i] := by rw [List.getD_eq_getElem?_getD, List.getElem?_eq_getElem h]; rfl
theorem givenL_succ (np : Nat) {l : List I3} {k : Nat} (h : k < l.length) : givenL np (l.take (k + 1)) = putL (givenL np (l.take k)) l[k].1.toNat l[k].2.2 := by
  unfold givenL; rw [List.take_succ_eq_append_getElem h, List.foldl_append]; rfl
theorem gotL_succ (np : Nat) {l : List I3} {k : Nat} (h : k < l.length) : gotL np (l.take (k + 1)) = putL (gotL np (l.take k)) l[k].2.1.toNat l[k].2.2 := by
  unfold gotL; rw [List.take_succ_eq_append_getElem h, List.foldl_append]; rfl
theorem costL_succ (P : List I3) (N : List I2) {l : List I3} {k : Nat} (h : k < l.length) : costL P N (l.take (k + 1)) = costL P N (l.take k) + l[k].2.2 * unitAt P N l[k] := by
  unfold costL; rw [List.take_succ_eq_append_getElem h, List.foldl_append]; rfl
theorem putL_len (g : List Int) (j : Nat) (x : Int) : (putL g j x).length = g.length := List.length_set
theorem putL_at {g : List Int} {j : Nat} {x : Int} (k : Nat) (h : j < g.length) : (putL g j x).getD k 0 = if j = k then g.getD j 0 + x else g.getD k 0 := by unfold putL; rw [getD_set h]
theorem lds_no {np nn : Nat} {l : List I3} {i : Nat} (hi : i < l.length) (h : ldOk np nn l i = false) : ldsOk np nn l = false := by
  unfold ldsOk; rw [List.all_eq_false]; exact ⟨i, List.mem_range.2 hi, by rw [h]; decide⟩
theorem lds_yes {np nn : Nat} {l : List I3} (h : ∀ i, i < l.length → ldOk np nn l i = true) : ldsOk np nn l = true := by
  unfold ldsOk; rw [List.all_eq_true]; exact fun i hi => h i (List.mem_range.1 hi)
theorem given_no {P : List I3} {G : List Int} {i : Nat} (hi : i < P.length) (h : hA P i < G.getD i 0) : givenOk P G = false := by
  unfold givenOk; rw [List.all_eq_false]; exact ⟨i, List.mem_range.2 hi, by rw [decide_eq_false (by omega)]; decide⟩
theorem given_yes {P : List I3} {G : List Int} (h : ∀ i, i < P.length → G.getD i 0 ≤ hA P i) : givenOk P G = true := by
  unfold givenOk; rw [List.all_eq_true]; exact fun i hi => decide_eq_true (h i (List.mem_range.1 hi))
theorem got_no {N : List I2} {T : List Int} {i : Nat} (hi : i < N.length) (h : ¬ T.getD i 0 = hB N i) : gotOk N T = false := by
  unfold gotOk; rw [List.all_eq_false]; exact ⟨i, List.mem_range.2 hi, by rw [decide_eq_false h]; decide⟩
theorem got_yes {N : List I2} {T : List Int} (h : ∀ i, i < N.length → T.getD i 0 = hB N i) : gotOk N T = true := by
  unfold gotOk; rw [List.all_eq_true]; exact fun i hi => decide_eq_true (h i (List.mem_range.1 hi))
theorem ans_no {P : List I3} {N : List I2} {l : List I3} {ca : Int} {cb : Bool} (h : carryAns P N l = (ca, cb)) (hn : carryOk P N l = false) : ca = 0 ∧ cb = false := by
  unfold carryAns at h; rw [hn] at h; cases h; exact ⟨rfl, rfl⟩
theorem ans_yes {P : List I3} {N : List I2} {l : List I3} {ca : Int} {cb : Bool} (h : carryAns P N l = (ca, cb)) (hn : carryOk P N l = true) : ca = costL P N l ∧ cb = true := by
  unfold carryAns at h; rw [hn] at h; cases h; exact ⟨rfl, rfl⟩
theorem ok_no1 {P : List I3} {N : List I2} {l : List I3} (h : ldsOk P.length N.length l = false) : carryOk P N l = false := by unfold carryOk; rw [h]; rfl
theorem ok_no2 {P : List I3} {N : List I2} {l : List I3} (h : givenOk P (givenL P.length l) = false) : carryOk P N l = false := by unfold carryOk; rw [h, Bool.and_false]; rfl
theorem ok_no3 {P : List I3} {N : List I2} {l : List I3} (h : gotOk N (gotL N.length l) = false) : carryOk P N l = false := by unfold carryOk; rw [h, Bool.and_false]
theorem ok_yes {P : List I3} {N : List I2} {l : List I3} (h1 : ldsOk P.length N.length l = true) (h2 : givenOk P (givenL P.length l) = true) (h3 : gotOk N (gotL N.length l) = true) : carryOk P N l = true := by unfold carryOk; rw [h1, h2, h3]; rfl
/-- the lists of what is given and got stay small -/
def SmallL (G : List Int) (n k : Nat) : Prop := G.length = n ∧ ∀ j, 0 ≤ G.getD j 0 ∧ G.getD j 0 ≤ (k : Int) * 1000000
theorem SmallL.start (n : Nat) : SmallL (List.replicate n 0) n 0 := ⟨List.length_replicate, fun j => by rw [rep0]; omega⟩
theorem SmallL.put {G : List Int} {n k j : Nat} {x : Int} (h : SmallL G n k) (hj : j < n) (hx : 1 ≤ x ∧ x ≤ 1000000) : SmallL (putL G j x) n (k + 1) := ⟨by rw [putL_len]; exact h.1, fun i => by
  rw [putL_at i (by rw [h.1]; exact hj)]
  have h1 := h.2 j
  have h2 := h.2 i
  split <;> omega⟩
theorem small_cell {w W : World} {bs : List (Nat × Array Value × TypeId)} {os : List Rw} {rs : List (World → Prop)} (h : Sy w W bs os rs) (i : Nat) {g n c k : Nat} {G : List Int} {e : TypeId} (hi : os[i]? = some ⟨.slice (some ⟨g, 0, none⟩) n c, e, 1, n, L1 G⟩) (hG : G.length = n) (hk : k < n) : W.cell? ⟨g, k, none⟩ = some (.int .i64 (G.getD k 0)) :=
  h.rcell i hi (by unfold L1; rw [List.getElem?_map, List.getD_eq_getElem?_getD, List.getElem?_eq_getElem (by omega)]; rfl)
theorem unit_bd {P : List I3} {N : List I2} (hG : YGood P N) {j k : Nat} (hj : j < P.length) (hk : k < N.length) : 0 ≤ unitI P[j] N[k] ∧ unitI P[j] N[k] ≤ 1200000 := by
  have h1 := hG.2.2.1 _ (List.getElem_mem hj)
  have h2 := hG.2.2.2 _ (List.getElem_mem hk)
  unfold unitI
  omega
section
variable (w : World)
set_option maxRecDepth 100000 in
set_option maxHeartbeats 16000000 in
theorem refCarrying_any (a0 a1 a2 : Option Addr) (n0 c0 n1 c1 n2 c2 : Nat) (P : List I3) (N : List I2) (l : List I3) (hsp : Sx 3 w a0 n0 c0 (L3 P)) (hsn : Sx 2 w a1 n1 c1 (L2 N)) (hsl : Sx 3 w a2 n2 c2 (L3 l)) (hG : YGood P N) (hn2 : n2 ≤ 1000) :
    Calls Tryz.prog 29 #[.slice a0 n0 c0, .slice a1 n1 c1, .slice a2 n2 c2] w (Gives (.tuple #[.int .i64 (carryAns P N l).1, .bool (carryAns P N l).2]) w) := by
  obtain rfl := hsp.n3
  obtain rfl := hsn.n2
  obtain rfl := hsl.n3
  have HSP := Lib.hid hsp
  have HSN := Lib.hid hsn
  have HSL := Lib.hid hsl
  have HGD := Lib.hid hG
  have hP20 := hG.1
  have hN20 := hG.2.1
  obtain ⟨ca, hca⟩ : ∃ ca, (carryAns P N l).1 = ca := ⟨_, rfl⟩
  obtain ⟨cb, hcb⟩ : ∃ cb, (carryAns P N l).2 = cb := ⟨_, rfl⟩
  rw [hca, hcb]
  have HANS := Lib.hid (show carryAns P N l = (ca, cb) from by rw [← hca, ← hcb])
  clear hca hcb hsp hsn hsl hG
  have wP : IntKind.i64.wrap ((P.length : Int) - 1) = (P.length : Int) - 1 := by rw [IntKind.wrap_i64]; omega
  have wN : IntKind.i64.wrap ((N.length : Int) - 1) = (N.length : Int) - 1 := by rw [IntKind.wrap_i64]; omega
  have hC := Lib.hid (Sy.enter w)
  go_enter Tryz.func29, Tryz.ntmps29
  go_upto_region 1 with fail
  go_cut [8, 9] (fun s8 s9 wx => ∃ (g1 g2 : Nat), s8 = .slice (some ⟨g1, 0, none⟩) P.length P.length ∧ s9 = .slice (some ⟨g2, 0, none⟩) N.length N.length ∧ Hid (Sy w wx [] [⟨.slice (some ⟨g1, 0, none⟩) P.length P.length, 3, 1, P.length, List.replicate P.length (.int .i64 0)⟩, ⟨.slice (some ⟨g2, 0, none⟩) N.length N.length, 3, 1, N.length, List.replicate N.length (.int .i64 0)⟩] []))
  case first =>
    refine wp_region_held_drew (S := (fun w' => True)) (by kernel_rfl) trivial (fun hH => ?_)
    refine wpAnyH_geny (show Sy w _ [] [] [] from hC.out.drew) hH ?_
    intro VL_0 hc hHL_0
    have hVL_0 := Lib.hid hc
    clear hc hH hC
    refine wpAnyH_take (i := 0) (oi := ⟨_, _, _, _, _, _⟩) (v := ?_) rfl (by kernel_rfl) (by kernel_rfl) (by kernel_rfl) (fun _ _ _ h => h) (Or.inl ⟨by rfl, ?_⟩) hHL_0 ?_
    rotate_left
    · intro wS hSw; (try dsimp only at hSw); go_simp; try with_reducible rfl
    try simp only [Act.put, List.setIfInBounds_toArray, List.set_cons_zero, List.set_cons_succ]
    refine wpAnyH_take (i := 1) (oi := ⟨_, _, _, _, _, _⟩) (v := ?_) rfl (by kernel_rfl) (by kernel_rfl) (by kernel_rfl) (fun _ _ _ h => h) (Or.inl ⟨by rfl, ?_⟩) hHL_0 ?_
    rotate_left
    · intro wS hSw; (try dsimp only at hSw); go_simp; try with_reducible rfl
    try simp only [Act.put, List.setIfInBounds_toArray, List.set_cons_zero, List.set_cons_succ]
    refine wpAnyH_take (i := 3) (oi := ⟨_, _, _, _, _, _⟩) (v := ?_) rfl (by kernel_rfl) (by kernel_rfl) (by kernel_rfl) (fun _ _ _ h => h) (Or.inl ⟨by rfl, ?_⟩) hHL_0 ?_
    rotate_left
    · intro wS hSw; (try dsimp only at hSw); go_simp; try with_reducible rfl
    try simp only [Act.put, List.setIfInBounds_toArray, List.set_cons_zero, List.set_cons_succ]
    refine wpAnyH_take (i := 4) (oi := ⟨_, _, _, _, _, _⟩) (v := ?_) rfl (by kernel_rfl) (by kernel_rfl) (by kernel_rfl) (fun _ _ _ h => h) (Or.inl ⟨by rfl, ?_⟩) hHL_0 ?_
    rotate_left
    · intro wS hSw; (try dsimp only at hSw); go_simp; try with_reducible rfl
    try simp only [Act.put, List.setIfInBounds_toArray, List.set_cons_zero, List.set_cons_succ]
    refine wpAnyH_ready (rs := [2, 5]) (by kernel_rfl) (by simp) ?_
    refine AllReadyH.cons (o := ⟨_, _, _, _, _, _⟩) rfl (fun Kq hKq => ?_) ?_
    · rw [if_pos (by rfl)]
      refine op_make_sy hVL_0.out _ 3 _ _ rfl (.int .i64 0) rfl 8 (P.length) rfl rfl und_int info_int (by omega) (by omega) (fun gML_1 _ hc => ?_)
      refine stepY hKq (show Sy w _ [] [⟨.slice (some ⟨gML_1, 0, none⟩) P.length P.length, 3, 1, P.length, List.replicate P.length (.int .i64 0)⟩] [] from hc) (fun _ hX => trivial) ?_
      intro VL_1 hc2 hHL_1
      have hVL_1 := Lib.hid hc2
      clear hc2 hKq Kq hVL_0 hc hHL_0
      try simp only [Act.put, List.setIfInBounds_toArray, List.set_cons_zero, List.set_cons_succ]
      refine wpAnyH_ready (rs := [5, 6]) (by kernel_rfl) (by simp) ?_
      refine AllReadyH.cons (o := ⟨_, _, _, _, _, _⟩) rfl (fun Kq hKq => ?_) ?_
      · rw [if_pos (by rfl)]
        refine op_make_sy hVL_1.out _ 3 _ _ rfl (.int .i64 0) rfl 8 (N.length) rfl rfl und_int info_int (by omega) (by omega) (fun gML_2 _ hc => ?_)
        refine stepY hKq (show Sy w _ [] [⟨.slice (some ⟨gML_1, 0, none⟩) P.length P.length, 3, 1, P.length, List.replicate P.length (.int .i64 0)⟩, ⟨.slice (some ⟨gML_2, 0, none⟩) N.length N.length, 3, 1, N.length, List.replicate N.length (.int .i64 0)⟩] [] from hc) (fun _ hX => trivial) ?_
        intro VL_2 hc2 hHL_2
        have hVL_2 := Lib.hid hc2
        clear hc2 hKq Kq hVL_1 hc hHL_1
        try simp only [Act.put, List.setIfInBounds_toArray, List.set_cons_zero, List.set_cons_succ]
        refine wpAnyH_ready (rs := [6]) (by kernel_rfl) (by simp) ?_
        refine AllReadyH.cons (o := ⟨_, _, _, _, _, _⟩) rfl (fun Kq hKq => ?_) AllReadyH.nil
        go_simp
        refine stepY hKq (show Sy w _ [] [⟨.slice (some ⟨gML_1, 0, none⟩) P.length P.length, 3, 1, P.length, List.replicate P.length (.int .i64 0)⟩, ⟨.slice (some ⟨gML_2, 0, none⟩) N.length N.length, 3, 1, N.length, List.replicate N.length (.int .i64 0)⟩] [] from hVL_2.out) (fun _ hX => trivial) ?_
        intro VL_3 hc hHL_3
        have hVL_3 := Lib.hid hc
        clear hc hKq Kq hVL_2 hHL_2
        try simp only [Act.put, List.setIfInBounds_toArray, List.set_cons_zero, List.set_cons_succ]
        refine wpAnyH_ready (rs := [7]) (by kernel_rfl) (by simp) ?_
        refine AllReadyH.cons (o := ⟨_, _, _, _, _, _⟩) rfl (fun Kq hKq => ?_) AllReadyH.nil
        go_simp
        refine stepY hKq (show Sy w _ [] [⟨.slice (some ⟨gML_1, 0, none⟩) P.length P.length, 3, 1, P.length, List.replicate P.length (.int .i64 0)⟩, ⟨.slice (some ⟨gML_2, 0, none⟩) N.length N.length, 3, 1, N.length, List.replicate N.length (.int .i64 0)⟩] [] from hVL_3.out) (fun _ hX => trivial) ?_
        intro VL_4 hc hHL_4
        have hVL_4 := Lib.hid hc
        clear hc hKq Kq hVL_3 hHL_3
        try simp only [Act.put, List.setIfInBounds_toArray, List.set_cons_zero, List.set_cons_succ]
        refine wpAnyH_done (by kernel_rfl) ?_ _
        go_wp2_with fail
        go_meet
        exact ⟨gML_1, gML_2, rfl, rfl, hVL_4⟩
      refine AllReadyH.cons (o := ⟨_, _, _, _, _, _⟩) rfl (fun Kq hKq => ?_) ?_
      · go_simp
        refine stepY hKq (show Sy w _ [] [⟨.slice (some ⟨gML_1, 0, none⟩) P.length P.length, 3, 1, P.length, List.replicate P.length (.int .i64 0)⟩] [] from hVL_1.out) (fun _ hX => trivial) ?_
        intro VL_2 hc hHL_2
        have hVL_2 := Lib.hid hc
        clear hc hKq Kq hVL_1 hHL_1
        try simp only [Act.put, List.setIfInBounds_toArray, List.set_cons_zero, List.set_cons_succ]
        refine wpAnyH_ready (rs := [5]) (by kernel_rfl) (by simp) ?_
        refine AllReadyH.cons (o := ⟨_, _, _, _, _, _⟩) rfl (fun Kq hKq => ?_) AllReadyH.nil
        rw [if_pos (by rfl)]
        refine op_make_sy hVL_2.out _ 3 _ _ rfl (.int .i64 0) rfl 8 (N.length) rfl rfl und_int info_int (by omega) (by omega) (fun gML_3 _ hc => ?_)
        refine stepY hKq (show Sy w _ [] [⟨.slice (some ⟨gML_1, 0, none⟩) P.length P.length, 3, 1, P.length, List.replicate P.length (.int .i64 0)⟩, ⟨.slice (some ⟨gML_3, 0, none⟩) N.length N.length, 3, 1, N.length, List.replicate N.length (.int .i64 0)⟩] [] from hc) (fun _ hX => trivial) ?_
        intro VL_3 hc2 hHL_3
        have hVL_3 := Lib.hid hc2
        clear hc2 hKq Kq hVL_2 hc hHL_2
        try simp only [Act.put, List.setIfInBounds_toArray, List.set_cons_zero, List.set_cons_succ]
        refine wpAnyH_ready (rs := [7]) (by kernel_rfl) (by simp) ?_
        refine AllReadyH.cons (o := ⟨_, _, _, _, _, _⟩) rfl (fun Kq hKq => ?_) AllReadyH.nil
        go_simp
        refine stepY hKq (show Sy w _ [] [⟨.slice (some ⟨gML_1, 0, none⟩) P.length P.length, 3, 1, P.length, List.replicate P.length (.int .i64 0)⟩, ⟨.slice (some ⟨gML_3, 0, none⟩) N.length N.length, 3, 1, N.length, List.replicate N.length (.int .i64 0)⟩] [] from hVL_3.out) (fun _ hX => trivial) ?_
        intro VL_4 hc hHL_4
        have hVL_4 := Lib.hid hc
        clear hc hKq Kq hVL_3 hHL_3
        try simp only [Act.put, List.setIfInBounds_toArray, List.set_cons_zero, List.set_cons_succ]
        refine wpAnyH_done (by kernel_rfl) ?_ _
        go_wp2_with fail
        go_meet
        exact ⟨gML_1, gML_3, rfl, rfl, hVL_4⟩
      exact AllReadyH.nil
    refine AllReadyH.cons (o := ⟨_, _, _, _, _, _⟩) rfl (fun Kq hKq => ?_) ?_
    · rw [if_pos (by rfl)]
      refine op_make_sy hVL_0.out _ 3 _ _ rfl (.int .i64 0) rfl 8 (N.length) rfl rfl und_int info_int (by omega) (by omega) (fun gML_1 _ hc => ?_)
      refine stepY hKq (show Sy w _ [] [⟨.slice (some ⟨gML_1, 0, none⟩) N.length N.length, 3, 1, N.length, List.replicate N.length (.int .i64 0)⟩] [] from hc) (fun _ hX => trivial) ?_
      intro VL_1 hc2 hHL_1
      have hVL_1 := Lib.hid hc2
      clear hc2 hKq Kq hVL_0 hc hHL_0
      try simp only [Act.put, List.setIfInBounds_toArray, List.set_cons_zero, List.set_cons_succ]
      refine wpAnyH_ready (rs := [2]) (by kernel_rfl) (by simp) ?_
      refine AllReadyH.cons (o := ⟨_, _, _, _, _, _⟩) rfl (fun Kq hKq => ?_) AllReadyH.nil
      rw [if_pos (by rfl)]
      refine op_make_sy hVL_1.out _ 3 _ _ rfl (.int .i64 0) rfl 8 (P.length) rfl rfl und_int info_int (by omega) (by omega) (fun gML_2 _ hc => ?_)
      refine stepY hKq (show Sy w _ [] [⟨.slice (some ⟨gML_1, 0, none⟩) N.length N.length, 3, 1, N.length, List.replicate N.length (.int .i64 0)⟩, ⟨.slice (some ⟨gML_2, 0, none⟩) P.length P.length, 3, 1, P.length, List.replicate P.length (.int .i64 0)⟩] [] from hc) (fun _ hX => trivial) ?_
      intro VL_2 hc2 hHL_2
      have hVL_2 := Lib.hid hc2
      clear hc2 hKq Kq hVL_1 hc hHL_1
      try simp only [Act.put, List.setIfInBounds_toArray, List.set_cons_zero, List.set_cons_succ]
      refine wpAnyH_ready (rs := [6]) (by kernel_rfl) (by simp) ?_
      refine AllReadyH.cons (o := ⟨_, _, _, _, _, _⟩) rfl (fun Kq hKq => ?_) AllReadyH.nil
      go_simp
      refine stepY hKq (show Sy w _ [] [⟨.slice (some ⟨gML_1, 0, none⟩) N.length N.length, 3, 1, N.length, List.replicate N.length (.int .i64 0)⟩, ⟨.slice (some ⟨gML_2, 0, none⟩) P.length P.length, 3, 1, P.length, List.replicate P.length (.int .i64 0)⟩] [] from hVL_2.out) (fun _ hX => trivial) ?_
      intro VL_3 hc hHL_3
      have hVL_3 := Lib.hid hc
      clear hc hKq Kq hVL_2 hHL_2
      try simp only [Act.put, List.setIfInBounds_toArray, List.set_cons_zero, List.set_cons_succ]
      refine wpAnyH_ready (rs := [7]) (by kernel_rfl) (by simp) ?_
      refine AllReadyH.cons (o := ⟨_, _, _, _, _, _⟩) rfl (fun Kq hKq => ?_) AllReadyH.nil
      go_simp
      refine stepY hKq (show Sy w _ [] [⟨.slice (some ⟨gML_1, 0, none⟩) N.length N.length, 3, 1, N.length, List.replicate N.length (.int .i64 0)⟩, ⟨.slice (some ⟨gML_2, 0, none⟩) P.length P.length, 3, 1, P.length, List.replicate P.length (.int .i64 0)⟩] [] from hVL_3.out) (fun _ hX => trivial) ?_
      intro VL_4 hc hHL_4
      have hVL_4 := Lib.hid hc
      clear hc hKq Kq hVL_3 hHL_3
      try simp only [Act.put, List.setIfInBounds_toArray, List.set_cons_zero, List.set_cons_succ]
      refine wpAnyH_done (by kernel_rfl) ?_ _
      go_wp2_with fail
      go_meet
      exact ⟨gML_2, gML_1, rfl, rfl, Lib.hid hVL_4.out.oswap⟩
    exact AllReadyH.nil
  case rest =>
    obtain ⟨g1, g2, rfl, rfl, hE1⟩ := hcut
    have hS : Hid (Sy w wc [] [⟨.slice (some ⟨g1, 0, none⟩) P.length P.length, 3, 1, P.length, L1 (List.replicate P.length 0)⟩, ⟨.slice (some ⟨g2, 0, none⟩) N.length N.length, 3, 1, N.length, L1 (List.replicate N.length 0)⟩] []) := by
      unfold L1
      rw [List.map_replicate, List.map_replicate]
      exact hE1
    clear hE1 hC
    go_wp2
    go_loopw [10, 11] (fun qv iv wr => ∃ (k : Nat) (q : Int) (G T : List Int), k ≤ l.length ∧ qv = .int .i64 q ∧ iv = .int .i64 k ∧ (0 ≤ q ∧ q ≤ (k : Int) * 1200000000000) ∧ Hid (∀ i, i < k → ldOk P.length N.length l i = true) ∧
      Hid (q = costL P N (l.take k) ∧ G = givenL P.length (l.take k) ∧ T = gotL N.length (l.take k)) ∧ Hid (SmallL G P.length k ∧ SmallL T N.length k) ∧
      Hid (Sy w wr [] [⟨.slice (some ⟨g1, 0, none⟩) P.length P.length, 3, 1, P.length, L1 G⟩, ⟨.slice (some ⟨g2, 0, none⟩) N.length N.length, 3, 1, N.length, L1 T⟩] [])) (fun _ iv _ => l.length - (intOf iv).toNat)
    case atStart => exact ⟨0, 0, _, _, Nat.zero_le _, rfl, rfl, ⟨Int.le_refl _, Int.le_refl _⟩, Lib.hid (fun i h => absurd h (Nat.not_lt_zero i)), Lib.hid ⟨rfl, rfl, rfl⟩, Lib.hid ⟨SmallL.start _, SmallL.start _⟩, hS⟩
    case round =>
      clear hS
      obtain ⟨k, q, G, T, hk, rfl, rfl, hq, hOK, hD, hSM, hS⟩ := hrel
      by_cases hlt : k < l.length
      · have hkk : (k : Int) < (l.length : Int) := by omega
        have k0 : (0 : Int) ≤ (k : Int) := by omega
        obtain ⟨gl, ol, rfl⟩ := HSL.out.addr (by omega)
        obtain ⟨x0, x1, x2⟩ := (hS.out.sx HSL.out).at3 hlt
        have HGS := Lib.hid (givenL_succ P.length hlt)
        have HTS := Lib.hid (gotL_succ N.length hlt)
        have HCS := Lib.hid (costL_succ P N hlt)
        have HXK := Lib.hid (getD_at3 hlt)
        generalize l[k] = x at *
        obtain ⟨X0, X1, X2⟩ := x
        dsimp only at x0 x1 x2 HGS HTS HCS
        have hA := Lib.hid (hS.out.al wr.heap.size #[.int .i64 X0, .int .i64 X1, .int .i64 X2] 138 rfl)
        clear hS
        go_upto_region 7 with fail
        refine wp_geny hA.out ?_
        intro W2 hc
        have hS : Hid (Sy w W2 [(wr.heap.size, #[.int .i64 X0, .int .i64 X1, .int .i64 X2], 138)] [⟨.slice (some ⟨g1, 0, none⟩) P.length P.length, 3, 1, P.length, L1 G⟩, ⟨.slice (some ⟨g2, 0, none⟩) N.length N.length, 3, 1, N.length, L1 T⟩] []) := Lib.hid hc
        clear hc hA x0 x1 x2
        generalize wr.heap.size = bx at *
        have b0 := hS.out.cell 0 0 rfl rfl
        have b1 := hS.out.cell 0 1 rfl rfl
        have b2 := hS.out.cell 0 2 rfl rfl
        cases hin : ldIn P.length N.length (X0, X1, X2)
        · have HNO := Lib.hid (ans_no HANS.out (ok_no1 (lds_no hlt (show ldOk P.length N.length l k = false from by unfold ldOk; rw [HXK.out, hin]; rfl))))
          have h3 : inB X0 0 ((P.length : Int) - 1) = false ∨ (inB X0 0 ((P.length : Int) - 1) = true ∧ inB X1 0 ((N.length : Int) - 1) = false) ∨ (inB X0 0 ((P.length : Int) - 1) = true ∧ inB X1 0 ((N.length : Int) - 1) = true ∧ inB X2 1 1000000 = false) := by
            unfold ldIn at hin
            dsimp only at hin
            cases h1 : inB X0 0 ((P.length : Int) - 1)
            · exact .inl rfl
            · cases h2 : inB X1 0 ((N.length : Int) - 1)
              · exact .inr (.inl ⟨rfl, rfl⟩)
              · rw [h1, h2] at hin
                exact .inr (.inr ⟨rfl, rfl, by simpa using hin⟩)
          clear hin
          rcases h3 with i0 | ⟨i0, i1⟩ | ⟨i0, i1, i2⟩
          all_goals
            go_wp2_with ((with_reducible refine (In_any _ _ _ _).mono ?_); rintro e w1 ⟨rfl, rfl⟩)
            go_ret2
            exact ⟨by rw [HNO.out.1, HNO.out.2]; rfl, hS.out.be⟩
        · have hin2 := hin
          unfold ldIn at hin2
          dsimp only at hin2
          rw [Bool.and_eq_true, Bool.and_eq_true] at hin2
          obtain ⟨⟨i0, i1⟩, i2⟩ := hin2
          have r0 := inB_iff.1 i0
          have r1 := inB_iff.1 i1
          have r2 := inB_iff.1 i2
          have HIN := Lib.hid hin
          clear hin
          go_upto_region 9 with ((with_reducible refine (In_any _ _ _ _).mono ?_); rintro e w1 ⟨rfl, rfl⟩)
          clear b0 b1 b2 i0 i1 i2
          obtain ⟨J0, rfl⟩ : ∃ n : Nat, X0 = n := ⟨X0.toNat, by omega⟩
          obtain ⟨K0, rfl⟩ : ∃ n : Nat, X1 = n := ⟨X1.toNat, by omega⟩
          have hJ : J0 < P.length := by omega
          have hK : K0 < N.length := by omega
          have hJ1 : (J0 : Int) < (P.length : Int) := by omega
          have hK1 : (K0 : Int) < (N.length : Int) := by omega
          have hJ2 : (0 : Int) ≤ (J0 : Int) := by omega
          have hK2 : (0 : Int) ≤ (K0 : Int) := by omega
          rw [Int.toNat_natCast] at HGS HTS
          have HU := Lib.hid (show unitAt P N ((J0 : Int), (K0 : Int), X2) = unitI P[J0] N[K0] from by unfold unitAt; dsimp only; rw [Int.toNat_natCast, Int.toNat_natCast, getD_at3 hJ, getD_at2 hK])
          have hub := unit_bd HGD.out hJ hK
          have HUC := Lib.hid (fun W => refUnit_any W P[J0] N[K0] (by have := (HGD.out.2.2.1 _ (List.getElem_mem hJ)).1; omega) (by have := (HGD.out.2.2.2 _ (List.getElem_mem hK)).1; omega) (HGD.out.2.2.1 _ (List.getElem_mem hJ)).2.2)
          obtain ⟨gp, op, rfl⟩ := HSP.out.addr (by omega)
          obtain ⟨gn, on, rfl⟩ := HSN.out.addr (by omega)
          have HPJ := Lib.hid (fun W (hW : Below w.heap.size w W) => (HSP.out.below hW).at3 hJ)
          have HNK := Lib.hid (fun W (hW : Below w.heap.size w W) => (HSN.out.below hW).at2 hK)
          rw [HU.out] at HCS
          generalize P[J0] = p at *
          generalize N[K0] = n at *
          obtain ⟨p0, p1, p2⟩ := p
          obtain ⟨n0, n1⟩ := n
          generalize unitI (p0, p1, p2) (n0, n1) = un at *
          dsimp only at HPJ HNK HUC
          clear HU
          have hp0 : 0 ≤ X2 * un := Int.mul_nonneg (by omega) hub.1
          have hp1 : X2 * un ≤ 1000000 * 1200000 := Int.mul_le_mul r2.2 hub.2 hub.1 (by decide)
          have wu : IntKind.i64.wrap (X2 * un) = X2 * un := IntWalk.i64_in _ (by omega)
          have wq : IntKind.i64.wrap (q + X2 * un) = q + X2 * un := IntWalk.i64_in _ (by omega)
          have HUP : Hid (k = 0 ∨ (0 < k ∧ ldUp (l.getD (k - 1) ld0) ((J0 : Int), (K0 : Int), X2) = true) ∨ (0 < k ∧ ldUp (l.getD (k - 1) ld0) ((J0 : Int), (K0 : Int), X2) = false)) := Lib.hid (by
            rcases Nat.eq_zero_or_pos k with h | h
            · exact .inl h
            · cases ldUp (l.getD (k - 1) ld0) ((J0 : Int), (K0 : Int), X2)
              · exact .inr (.inr ⟨h, rfl⟩)
              · exact .inr (.inl ⟨h, rfl⟩))
          have HLD := Lib.hid (show ldOk P.length N.length l k = (decide (k = 0) || ldUp (l.getD (k - 1) ld0) ((J0 : Int), (K0 : Int), X2)) from by unfold ldOk; rw [HXK.out, HIN.out, Bool.true_and])
          rcases Nat.eq_zero_or_pos k with hk0 | hk0
          · have hkz : decide ((k : Int) > 0) = false := decide_eq_false (by omega)
            have hkz1 : decide (0 < k) = false := decide_eq_false (by omega)
            have HL1 := Lib.hid (show ldOk P.length N.length l k = true from by rw [HLD.out, decide_eq_true hk0]; rfl)
            clear HUP HLD hk0
            go_quiet (fail)
            have hS1 := Lib.hid (hS.out.call (below_dN (Below.refl _ _) nq))
            go_upto_region 11 with fail
            refine wp_geny hS1.out ?_
            intro W3 hc
            have hS2 := Lib.hid hc
            clear hc hS1 hS
            have b0 : W3.cell? ⟨bx, 0, none⟩ = some (.int .i64 (J0 : Int)) := hS2.out.cell 0 0 rfl rfl
            have b2 : W3.cell? ⟨bx, 2, none⟩ = some (.int .i64 X2) := hS2.out.cell 0 2 rfl rfl
            have y0 : W3.cell? ⟨g1, J0, none⟩ = some (.int .i64 (G.getD J0 0)) := small_cell hS2.out 0 rfl hSM.out.1.1 hJ
            have y1 : W3.frozen? ⟨g1, J0, none⟩ = false := hS2.out.rfree 0 rfl _
            have hgb := hSM.out.1.2 J0
            have HPG := Lib.hid (show putL G J0 X2 = G.set J0 (G.getD J0 0 + X2) from rfl)
            generalize G.getD J0 0 = gv at *
            have wg : IntKind.i64.wrap (gv + X2) = gv + X2 := by rw [IntKind.wrap_i64]; omega
            have hS3 := Lib.hid ((hS2.out.ostore 0 rfl J0 (.int .i64 (gv + X2))).drew)
            go_still_tail 9, (by kernel_rfl)
            change wpList _ _ _ _ _ _
            have e2 : W3.drew.cell? ⟨g1, J0, none⟩ = some (.int .i64 gv) := y0
            have e3 : W3.drew.frozen? ⟨g1, J0, none⟩ = false := y1
            go_upto_region 12 with fail
            refine wp_geny hS3.out ?_
            intro W4 hc
            rw [show (L1 G).set J0 (.int .i64 (gv + X2)) = L1 (putL G J0 X2) from by rw [HPG.out]; unfold L1; rw [List.map_set]] at hc
            have hS4 : Hid (Sy w W4 [(bx, #[.int .i64 (J0 : Int), .int .i64 (K0 : Int), .int .i64 X2], 138)] [⟨.slice (some ⟨g1, 0, none⟩) P.length P.length, 3, 1, P.length, L1 (putL G J0 X2)⟩, ⟨.slice (some ⟨g2, 0, none⟩) N.length N.length, 3, 1, N.length, L1 T⟩] []) := Lib.hid hc
            clear hc hS3 hS2 b0 b2 y0 y1 e2 e3 HPG hgb wg
            have b1 : W4.cell? ⟨bx, 1, none⟩ = some (.int .i64 (K0 : Int)) := hS4.out.cell 0 1 rfl rfl
            have b2 : W4.cell? ⟨bx, 2, none⟩ = some (.int .i64 X2) := hS4.out.cell 0 2 rfl rfl
            have y0 : W4.cell? ⟨g2, K0, none⟩ = some (.int .i64 (T.getD K0 0)) := small_cell hS4.out 1 rfl hSM.out.2.1 hK
            have y1 : W4.frozen? ⟨g2, K0, none⟩ = false := hS4.out.rfree 1 rfl _
            have hgb := hSM.out.2.2 K0
            have HPG := Lib.hid (show putL T K0 X2 = T.set K0 (T.getD K0 0 + X2) from rfl)
            generalize T.getD K0 0 = tv at *
            have wg : IntKind.i64.wrap (tv + X2) = tv + X2 := by rw [IntKind.wrap_i64]; omega
            have hS5 := Lib.hid ((hS4.out.ostore 1 rfl K0 (.int .i64 (tv + X2))).drew)
            go_still_tail 9, (by kernel_rfl)
            change wpList _ _ _ _ _ _
            have e2 : W4.drew.cell? ⟨g2, K0, none⟩ = some (.int .i64 tv) := y0
            have e3 : W4.drew.frozen? ⟨g2, K0, none⟩ = false := y1
            go_upto_region 13 with fail
            refine wp_geny hS5.out ?_
            intro W5 hc
            rw [show (L1 T).set K0 (.int .i64 (tv + X2)) = L1 (putL T K0 X2) from by rw [HPG.out]; unfold L1; rw [List.map_set]] at hc
            have hS : Hid (Sy w W5 [(bx, #[.int .i64 (J0 : Int), .int .i64 (K0 : Int), .int .i64 X2], 138)] [⟨.slice (some ⟨g1, 0, none⟩) P.length P.length, 3, 1, P.length, L1 (putL G J0 X2)⟩, ⟨.slice (some ⟨g2, 0, none⟩) N.length N.length, 3, 1, N.length, L1 (putL T K0 X2)⟩] []) := Lib.hid hc
            clear hc hS5 hS4 b1 b2 y0 y1 e2 e3 HPG hgb wg
            refine wp_region_held_drew (S := (fun w' => w'.cell? ⟨bx, 0, none⟩ = some (.int .i64 (J0 : Int)) ∧ w'.cell? ⟨bx, 1, none⟩ = some (.int .i64 (K0 : Int)) ∧ w'.cell? ⟨bx, 2, none⟩ = some (.int .i64 X2) ∧ w'.cell? ⟨gp, op + J0 * 3, none⟩ = some (.int .i64 p0) ∧ w'.cell? ⟨gp, op + J0 * 3 + 1, none⟩ = some (.int .i64 p1) ∧ w'.cell? ⟨gp, op + J0 * 3 + 2, none⟩ = some (.int .i64 p2) ∧ w'.cell? ⟨gn, on + K0 * 2, none⟩ = some (.int .i64 n0) ∧ w'.cell? ⟨gn, on + K0 * 2 + 1, none⟩ = some (.int .i64 n1) ∧ True)) (by kernel_rfl) ⟨hS.out.drew.cell 0 0 rfl rfl, hS.out.drew.cell 0 1 rfl rfl, hS.out.drew.cell 0 2 rfl rfl, (HPJ.out _ hS.out.drew.be).1, (HPJ.out _ hS.out.drew.be).2.1, (HPJ.out _ hS.out.drew.be).2.2, (HNK.out _ hS.out.drew.be).1, (HNK.out _ hS.out.drew.be).2, trivial⟩ (fun hH => ?_)
            refine wpAnyH_geny (show Sy w _ [(bx, #[.int .i64 (J0 : Int), .int .i64 (K0 : Int), .int .i64 X2], 138)] [⟨.slice (some ⟨g1, 0, none⟩) P.length P.length, 3, 1, P.length, L1 (putL G J0 X2)⟩, ⟨.slice (some ⟨g2, 0, none⟩) N.length N.length, 3, 1, N.length, L1 (putL T K0 X2)⟩] [] from hS.out.drew) hH ?_
            intro VR_0 hc hHR_0
            have hVR_0 := Lib.hid hc
            clear hc hH hS
            refine wpAnyH_take (i := 0) (oi := ⟨_, _, _, _, _, _⟩) (v := ?_) rfl (by kernel_rfl) (by kernel_rfl) (by kernel_rfl) (fun _ _ _ h => h) (Or.inl ⟨by rfl, ?_⟩) hHR_0 ?_
            rotate_left
            · intro wS hSw; (try dsimp only at hSw); go_simp; try with_reducible rfl
            try simp only [Act.put, List.setIfInBounds_toArray, List.set_cons_zero, List.set_cons_succ]
            refine wpAnyH_take (i := 1) (oi := ⟨_, _, _, _, _, _⟩) (v := ?_) rfl (by kernel_rfl) (by kernel_rfl) (by kernel_rfl) (fun _ _ _ h => h) (Or.inl ⟨by rfl, ?_⟩) hHR_0 ?_
            rotate_left
            · intro wS hSw; (try dsimp only at hSw); go_simp; try with_reducible rfl
            try simp only [Act.put, List.setIfInBounds_toArray, List.set_cons_zero, List.set_cons_succ]
            refine wpAnyH_take (i := 2) (oi := ⟨_, _, _, _, _, _⟩) (v := ?_) rfl (by kernel_rfl) (by kernel_rfl) (by kernel_rfl) (fun _ _ _ h => h) (Or.inl ⟨by rfl, ?_⟩) hHR_0 ?_
            rotate_left
            · intro wS hSw; (try dsimp only at hSw); go_simp; try with_reducible rfl
            try simp only [Act.put, List.setIfInBounds_toArray, List.set_cons_zero, List.set_cons_succ]
            refine wpAnyH_take (i := 3) (oi := ⟨_, _, _, _, _, _⟩) (v := ?_) rfl (by kernel_rfl) (by kernel_rfl) (by kernel_rfl) (fun _ _ _ h => h) (Or.inl ⟨by rfl, ?_⟩) hHR_0 ?_
            rotate_left
            · intro wS hSw; (try dsimp only at hSw); go_simp; try with_reducible rfl
            try simp only [Act.put, List.setIfInBounds_toArray, List.set_cons_zero, List.set_cons_succ]
            refine wpAnyH_take (i := 4) (oi := ⟨_, _, _, _, _, _⟩) (v := ?_) rfl (by kernel_rfl) (by kernel_rfl) (by kernel_rfl) (fun _ _ _ h => h) (Or.inl ⟨by rfl, ?_⟩) hHR_0 ?_
            rotate_left
            · intro wS hSw; (try dsimp only at hSw); go_simp; try with_reducible rfl
            try simp only [Act.put, List.setIfInBounds_toArray, List.set_cons_zero, List.set_cons_succ]
            refine wpAnyH_take (i := 5) (oi := ⟨_, _, _, _, _, _⟩) (v := ?_) rfl (by kernel_rfl) (by kernel_rfl) (by kernel_rfl) (fun _ _ _ h => h) (Or.inl ⟨by rfl, ?_⟩) hHR_0 ?_
            rotate_left
            · intro wS hSw; (try dsimp only at hSw); go_simp; try with_reducible rfl
            try simp only [Act.put, List.setIfInBounds_toArray, List.set_cons_zero, List.set_cons_succ]
            refine wpAnyH_take (i := 6) (oi := ⟨_, _, _, _, _, _⟩) (v := ?_) rfl (by kernel_rfl) (by kernel_rfl) (by kernel_rfl) (fun _ _ _ h => h) (Or.inl ⟨by rfl, ?_⟩) hHR_0 ?_
            rotate_left
            · intro wS hSw; (try dsimp only at hSw); go_simp; try with_reducible rfl
            try simp only [Act.put, List.setIfInBounds_toArray, List.set_cons_zero, List.set_cons_succ]
            refine wpAnyH_take (i := 7) (oi := ⟨_, _, _, _, _, _⟩) (v := ?_) rfl (by kernel_rfl) (by kernel_rfl) (by kernel_rfl) (fun _ _ _ h => h) (Or.inl ⟨by rfl, ?_⟩) hHR_0 ?_
            rotate_left
            · intro wS hSw; (try dsimp only at hSw); go_simp; try with_reducible rfl
            try simp only [Act.put, List.setIfInBounds_toArray, List.set_cons_zero, List.set_cons_succ]
            refine wpAnyH_take (i := 8) (oi := ⟨_, _, _, _, _, _⟩) (v := ?_) rfl (by kernel_rfl) (by kernel_rfl) (by kernel_rfl) (fun _ _ _ h => h) (Or.inl ⟨by rfl, ?_⟩) hHR_0 ?_
            rotate_left
            · intro wS hSw; (try dsimp only at hSw); go_simp; try with_reducible rfl
            try simp only [Act.put, List.setIfInBounds_toArray, List.set_cons_zero, List.set_cons_succ]
            refine wpAnyH_take (i := 9) (oi := ⟨_, _, _, _, _, _⟩) (v := ?_) rfl (by kernel_rfl) (by kernel_rfl) (by kernel_rfl) (fun _ _ _ h => h) (Or.inl ⟨by rfl, ?_⟩) hHR_0 ?_
            rotate_left
            · intro wS hSw; (try dsimp only at hSw); go_simp; try with_reducible rfl
            try simp only [Act.put, List.setIfInBounds_toArray, List.set_cons_zero, List.set_cons_succ]
            refine wpAnyH_take (i := 10) (oi := ⟨_, _, _, _, _, _⟩) (v := ?_) rfl (by kernel_rfl) (by kernel_rfl) (by kernel_rfl) (fun _ _ _ h => h) (Or.inl ⟨by rfl, ?_⟩) hHR_0 ?_
            rotate_left
            · intro wS hSw; (try dsimp only at hSw); go_simp; try with_reducible rfl
            try simp only [Act.put, List.setIfInBounds_toArray, List.set_cons_zero, List.set_cons_succ]
            refine wpAnyH_take (i := 11) (oi := ⟨_, _, _, _, _, _⟩) (v := ?_) rfl (by kernel_rfl) (by kernel_rfl) (by kernel_rfl) (fun _ _ _ h => h) (Or.inl ⟨by rfl, ?_⟩) hHR_0 ?_
            rotate_left
            · intro wS hSw; (try dsimp only at hSw); go_simp; try with_reducible rfl
            try simp only [Act.put, List.setIfInBounds_toArray, List.set_cons_zero, List.set_cons_succ]
            refine wpAnyH_take (i := 12) (oi := ⟨_, _, _, _, _, _⟩) (v := ?_) rfl (by kernel_rfl) (by kernel_rfl) (by kernel_rfl) (fun _ _ _ h => h) (Or.inl ⟨by rfl, ?_⟩) hHR_0 ?_
            rotate_left
            · intro wS hSw; (try dsimp only at hSw); go_simp; try with_reducible rfl
            try simp only [Act.put, List.setIfInBounds_toArray, List.set_cons_zero, List.set_cons_succ]
            refine wpAnyH_ready (rs := [13]) (by kernel_rfl) (by simp) ?_
            refine AllReadyH.cons (o := ⟨_, _, _, _, _, _⟩) rfl (fun Kq hKq => ?_) AllReadyH.nil
            go_simp
            go_at_call 69
            refine (HUC.out _).mono ?_
            rintro e wT ⟨rfl, hb⟩
            (try go_wp2_with fail)
            refine stepY hKq (show Sy w _ [(bx, #[.int .i64 (J0 : Int), .int .i64 (K0 : Int), .int .i64 X2], 138)] [⟨.slice (some ⟨g1, 0, none⟩) P.length P.length, 3, 1, P.length, L1 (putL G J0 X2)⟩, ⟨.slice (some ⟨g2, 0, none⟩) N.length N.length, 3, 1, N.length, L1 (putL T K0 X2)⟩] [] from (hVR_0.out.call hb)) (fun _ hX => ⟨hX.cell 0 0 rfl rfl, hX.cell 0 1 rfl rfl, hX.cell 0 2 rfl rfl, (HPJ.out _ hX.be).1, (HPJ.out _ hX.be).2.1, (HPJ.out _ hX.be).2.2, (HNK.out _ hX.be).1, (HNK.out _ hX.be).2, trivial⟩) ?_
            intro VR_1 hc hHR_1
            have hVR_1 := Lib.hid hc
            clear hc hKq Kq hVR_0 hb hHR_0
            try simp only [Act.put, List.setIfInBounds_toArray, List.set_cons_zero, List.set_cons_succ]
            refine wpAnyH_take (i := 14) (oi := ⟨_, _, _, _, _, _⟩) (v := ?_) rfl (by kernel_rfl) (by kernel_rfl) (by kernel_rfl) (fun _ _ _ h => h) (Or.inl ⟨by rfl, ?_⟩) hHR_1 ?_
            rotate_left
            · intro wS hSw; (try dsimp only at hSw); go_simp; try with_reducible rfl
            try simp only [Act.put, List.setIfInBounds_toArray, List.set_cons_zero, List.set_cons_succ]
            refine wpAnyH_take (i := 15) (oi := ⟨_, _, _, _, _, _⟩) (v := ?_) rfl (by kernel_rfl) (by kernel_rfl) (by kernel_rfl) (fun _ _ _ h => h) (Or.inl ⟨by rfl, ?_⟩) hHR_1 ?_
            rotate_left
            · intro wS hSw; (try dsimp only at hSw); go_simp; try with_reducible rfl
            try simp only [Act.put, List.setIfInBounds_toArray, List.set_cons_zero, List.set_cons_succ]
            refine wpAnyH_ready (rs := [16]) (by kernel_rfl) (by simp) ?_
            refine AllReadyH.cons (o := ⟨_, _, _, _, _, _⟩) rfl (fun Kq hKq => ?_) AllReadyH.nil
            go_simp
            refine stepY hKq (show Sy w _ [(bx, #[.int .i64 (J0 : Int), .int .i64 (K0 : Int), .int .i64 X2], 138)] [⟨.slice (some ⟨g1, 0, none⟩) P.length P.length, 3, 1, P.length, L1 (putL G J0 X2)⟩, ⟨.slice (some ⟨g2, 0, none⟩) N.length N.length, 3, 1, N.length, L1 (putL T K0 X2)⟩] [] from hVR_1.out) (fun _ hX => ⟨hX.cell 0 0 rfl rfl, hX.cell 0 1 rfl rfl, hX.cell 0 2 rfl rfl, (HPJ.out _ hX.be).1, (HPJ.out _ hX.be).2.1, (HPJ.out _ hX.be).2.2, (HNK.out _ hX.be).1, (HNK.out _ hX.be).2, trivial⟩) ?_
            intro VR_2 hc hHR_2
            have hVR_2 := Lib.hid hc
            clear hc hKq Kq hVR_1 hHR_1
            try simp only [Act.put, List.setIfInBounds_toArray, List.set_cons_zero, List.set_cons_succ]
            refine wpAnyH_done (by kernel_rfl) ?_ _
            go_wp2
            go_roundw
            case rel =>
              refine ⟨k + 1, q + X2 * un, putL G J0 X2, putL T K0 X2, by omega, rfl, by go_num, by omega, Lib.hid (fun i hi => ?_), Lib.hid ⟨by rw [HCS.out, ← hD.out.1], by rw [HGS.out, ← hD.out.2.1], by rw [HTS.out, ← hD.out.2.2]⟩, Lib.hid ⟨hSM.out.1.put hJ r2, hSM.out.2.put hK r2⟩, Lib.hid (hVR_2.out.thin (List.nil_sublist _) (List.Sublist.refl _))⟩
              rcases Nat.lt_or_ge i k with h | h
              · exact hOK.out i h
              · rw [show i = k by omega]; exact HL1.out
            case measure => simp [intOf]; omega
          · have hkz : decide ((k : Int) > 0) = true := decide_eq_true (by omega)
            have hkz1 : decide (0 < k) = true := decide_eq_true (by omega)
            have hkm : k - 1 < l.length := by omega
            have HYK := Lib.hid (fun W (hW : Below w.heap.size w W) => (HSL.out.below hW).at3 hkm)
            have HYD := Lib.hid (getD_at3 hkm)
            generalize l[k - 1] = y at *
            obtain ⟨y0, y1, y2⟩ := y
            dsimp only at HYK
            rw [HYD.out] at HLD
            have wk : IntKind.i64.wrap ((k : Int) - 1) = ((k - 1 : Nat) : Int) := by rw [IntKind.wrap_i64]; omega
            have kk1 : ((k - 1 : Nat) : Int) < (l.length : Int) := by omega
            have kk0 : (0 : Int) ≤ ((k - 1 : Nat) : Int) := by omega
            clear HUP HYD
            have HK0 := Lib.hid hk0
            generalize hkj : k - 1 = kj at *
            have HKJ := Lib.hid hkj
            clear hkj hk0 hkm
            obtain ⟨z0, z1, z2⟩ := HYK.out _ hS.out.be
            have b0 := hS.out.cell 0 0 rfl rfl
            have b1 := hS.out.cell 0 1 rfl rfl
            have HUD := Lib.hid (show ldUp (y0, y1, y2) ((J0 : Int), (K0 : Int), X2) = !(decide ((J0 : Int) < y0) || (decide ((J0 : Int) = y0) && decide ((K0 : Int) ≤ y1))) from rfl)
            have h4 : ((J0 : Int) < y0) ∨ (¬ ((J0 : Int) < y0) ∧ ((J0 : Int) = y0) ∧ ((K0 : Int) ≤ y1)) ∨ (¬ ((J0 : Int) < y0) ∧ ((J0 : Int) = y0) ∧ ¬ ((K0 : Int) ≤ y1)) ∨ (¬ ((J0 : Int) < y0) ∧ ¬ ((J0 : Int) = y0)) := by omega
            rcases h4 with e0 | ⟨e0, e1, e2⟩ | ⟨e0, e1, e2⟩ | ⟨e0, e1⟩
            · have HNO := Lib.hid (ans_no HANS.out (ok_no1 (lds_no hlt (show ldOk P.length N.length l k = false from by rw [HLD.out, HUD.out, decide_eq_true e0, decide_eq_false (show ¬ k = 0 by have := HK0.out; omega)]; rfl))))
              have d0 : decide ((J0 : Int) < y0) = true := decide_eq_true e0
              clear e0
              go_quiet (fail)
              go_wp2
              go_ret2
              exact ⟨by rw [HNO.out.1, HNO.out.2]; rfl, hS.out.be.trans (below_dN (Below.refl _ _) nq)⟩
            · have HNO := Lib.hid (ans_no HANS.out (ok_no1 (lds_no hlt (show ldOk P.length N.length l k = false from by rw [HLD.out, HUD.out, decide_eq_false e0, decide_eq_true e1, decide_eq_true e2, decide_eq_false (show ¬ k = 0 by have := HK0.out; omega)]; rfl))))
              have d0 : decide ((J0 : Int) < y0) = false := decide_eq_false e0
              have d1 : ((J0 : Int) == y0) = true := by simpa using e1
              have d2 : decide ((K0 : Int) ≤ y1) = true := decide_eq_true e2
              clear e0 e1 e2
              go_quiet (fail)
              go_wp2
              go_ret2
              exact ⟨by rw [HNO.out.1, HNO.out.2]; rfl, hS.out.be.trans (below_dN (Below.refl _ _) nq)⟩
            · have HL1 := Lib.hid (show ldOk P.length N.length l k = true from by rw [HLD.out, HUD.out, decide_eq_false e0, decide_eq_false e2]; simp)
              have d0 : decide ((J0 : Int) < y0) = false := decide_eq_false e0
              have d1 : ((J0 : Int) == y0) = true := by simpa using e1
              have d2 : decide ((K0 : Int) ≤ y1) = false := decide_eq_false e2
              clear e0 e1 e2
              go_quiet (fail)
              clear z0 z1 z2 b0 b1
              have hS1 := Lib.hid (hS.out.call (below_dN (Below.refl _ _) nq))
              go_upto_region 11 with fail
              refine wp_geny hS1.out ?_
              intro W3 hc
              have hS2 := Lib.hid hc
              clear hc hS1 hS
              have b0 : W3.cell? ⟨bx, 0, none⟩ = some (.int .i64 (J0 : Int)) := hS2.out.cell 0 0 rfl rfl
              have b2 : W3.cell? ⟨bx, 2, none⟩ = some (.int .i64 X2) := hS2.out.cell 0 2 rfl rfl
              have y0 : W3.cell? ⟨g1, J0, none⟩ = some (.int .i64 (G.getD J0 0)) := small_cell hS2.out 0 rfl hSM.out.1.1 hJ
              have y1 : W3.frozen? ⟨g1, J0, none⟩ = false := hS2.out.rfree 0 rfl _
              have hgb := hSM.out.1.2 J0
              have HPG := Lib.hid (show putL G J0 X2 = G.set J0 (G.getD J0 0 + X2) from rfl)
              generalize G.getD J0 0 = gv at *
              have wg : IntKind.i64.wrap (gv + X2) = gv + X2 := by rw [IntKind.wrap_i64]; omega
              have hS3 := Lib.hid ((hS2.out.ostore 0 rfl J0 (.int .i64 (gv + X2))).drew)
              go_still_tail 9, (by kernel_rfl)
              change wpList _ _ _ _ _ _
              have e2 : W3.drew.cell? ⟨g1, J0, none⟩ = some (.int .i64 gv) := y0
              have e3 : W3.drew.frozen? ⟨g1, J0, none⟩ = false := y1
              go_upto_region 12 with fail
              refine wp_geny hS3.out ?_
              intro W4 hc
              rw [show (L1 G).set J0 (.int .i64 (gv + X2)) = L1 (putL G J0 X2) from by rw [HPG.out]; unfold L1; rw [List.map_set]] at hc
              have hS4 : Hid (Sy w W4 [(bx, #[.int .i64 (J0 : Int), .int .i64 (K0 : Int), .int .i64 X2], 138)] [⟨.slice (some ⟨g1, 0, none⟩) P.length P.length, 3, 1, P.length, L1 (putL G J0 X2)⟩, ⟨.slice (some ⟨g2, 0, none⟩) N.length N.length, 3, 1, N.length, L1 T⟩] []) := Lib.hid hc
              clear hc hS3 hS2 b0 b2 y0 y1 e2 e3 HPG hgb wg
              have b1 : W4.cell? ⟨bx, 1, none⟩ = some (.int .i64 (K0 : Int)) := hS4.out.cell 0 1 rfl rfl
              have b2 : W4.cell? ⟨bx, 2, none⟩ = some (.int .i64 X2) := hS4.out.cell 0 2 rfl rfl
              have y0 : W4.cell? ⟨g2, K0, none⟩ = some (.int .i64 (T.getD K0 0)) := small_cell hS4.out 1 rfl hSM.out.2.1 hK
              have y1 : W4.frozen? ⟨g2, K0, none⟩ = false := hS4.out.rfree 1 rfl _
              have hgb := hSM.out.2.2 K0
              have HPG := Lib.hid (show putL T K0 X2 = T.set K0 (T.getD K0 0 + X2) from rfl)
              generalize T.getD K0 0 = tv at *
              have wg : IntKind.i64.wrap (tv + X2) = tv + X2 := by rw [IntKind.wrap_i64]; omega
              have hS5 := Lib.hid ((hS4.out.ostore 1 rfl K0 (.int .i64 (tv + X2))).drew)
              go_still_tail 9, (by kernel_rfl)
              change wpList _ _ _ _ _ _
              have e2 : W4.drew.cell? ⟨g2, K0, none⟩ = some (.int .i64 tv) := y0
              have e3 : W4.drew.frozen? ⟨g2, K0, none⟩ = false := y1
              go_upto_region 13 with fail
              refine wp_geny hS5.out ?_
              intro W5 hc
              rw [show (L1 T).set K0 (.int .i64 (tv + X2)) = L1 (putL T K0 X2) from by rw [HPG.out]; unfold L1; rw [List.map_set]] at hc
              have hS : Hid (Sy w W5 [(bx, #[.int .i64 (J0 : Int), .int .i64 (K0 : Int), .int .i64 X2], 138)] [⟨.slice (some ⟨g1, 0, none⟩) P.length P.length, 3, 1, P.length, L1 (putL G J0 X2)⟩, ⟨.slice (some ⟨g2, 0, none⟩) N.length N.length, 3, 1, N.length, L1 (putL T K0 X2)⟩] []) := Lib.hid hc
              clear hc hS5 hS4 b1 b2 y0 y1 e2 e3 HPG hgb wg
              refine wp_region_held_drew (S := (fun w' => w'.cell? ⟨bx, 0, none⟩ = some (.int .i64 (J0 : Int)) ∧ w'.cell? ⟨bx, 1, none⟩ = some (.int .i64 (K0 : Int)) ∧ w'.cell? ⟨bx, 2, none⟩ = some (.int .i64 X2) ∧ w'.cell? ⟨gp, op + J0 * 3, none⟩ = some (.int .i64 p0) ∧ w'.cell? ⟨gp, op + J0 * 3 + 1, none⟩ = some (.int .i64 p1) ∧ w'.cell? ⟨gp, op + J0 * 3 + 2, none⟩ = some (.int .i64 p2) ∧ w'.cell? ⟨gn, on + K0 * 2, none⟩ = some (.int .i64 n0) ∧ w'.cell? ⟨gn, on + K0 * 2 + 1, none⟩ = some (.int .i64 n1) ∧ True)) (by kernel_rfl) ⟨hS.out.drew.cell 0 0 rfl rfl, hS.out.drew.cell 0 1 rfl rfl, hS.out.drew.cell 0 2 rfl rfl, (HPJ.out _ hS.out.drew.be).1, (HPJ.out _ hS.out.drew.be).2.1, (HPJ.out _ hS.out.drew.be).2.2, (HNK.out _ hS.out.drew.be).1, (HNK.out _ hS.out.drew.be).2, trivial⟩ (fun hH => ?_)
              refine wpAnyH_geny (show Sy w _ [(bx, #[.int .i64 (J0 : Int), .int .i64 (K0 : Int), .int .i64 X2], 138)] [⟨.slice (some ⟨g1, 0, none⟩) P.length P.length, 3, 1, P.length, L1 (putL G J0 X2)⟩, ⟨.slice (some ⟨g2, 0, none⟩) N.length N.length, 3, 1, N.length, L1 (putL T K0 X2)⟩] [] from hS.out.drew) hH ?_
              intro VR_0 hc hHR_0
              have hVR_0 := Lib.hid hc
              clear hc hH hS
              refine wpAnyH_take (i := 0) (oi := ⟨_, _, _, _, _, _⟩) (v := ?_) rfl (by kernel_rfl) (by kernel_rfl) (by kernel_rfl) (fun _ _ _ h => h) (Or.inl ⟨by rfl, ?_⟩) hHR_0 ?_
              rotate_left
              · intro wS hSw; (try dsimp only at hSw); go_simp; try with_reducible rfl
              try simp only [Act.put, List.setIfInBounds_toArray, List.set_cons_zero, List.set_cons_succ]
              refine wpAnyH_take (i := 1) (oi := ⟨_, _, _, _, _, _⟩) (v := ?_) rfl (by kernel_rfl) (by kernel_rfl) (by kernel_rfl) (fun _ _ _ h => h) (Or.inl ⟨by rfl, ?_⟩) hHR_0 ?_
              rotate_left
              · intro wS hSw; (try dsimp only at hSw); go_simp; try with_reducible rfl
              try simp only [Act.put, List.setIfInBounds_toArray, List.set_cons_zero, List.set_cons_succ]
              refine wpAnyH_take (i := 2) (oi := ⟨_, _, _, _, _, _⟩) (v := ?_) rfl (by kernel_rfl) (by kernel_rfl) (by kernel_rfl) (fun _ _ _ h => h) (Or.inl ⟨by rfl, ?_⟩) hHR_0 ?_
              rotate_left
              · intro wS hSw; (try dsimp only at hSw); go_simp; try with_reducible rfl
              try simp only [Act.put, List.setIfInBounds_toArray, List.set_cons_zero, List.set_cons_succ]
              refine wpAnyH_take (i := 3) (oi := ⟨_, _, _, _, _, _⟩) (v := ?_) rfl (by kernel_rfl) (by kernel_rfl) (by kernel_rfl) (fun _ _ _ h => h) (Or.inl ⟨by rfl, ?_⟩) hHR_0 ?_
              rotate_left
              · intro wS hSw; (try dsimp only at hSw); go_simp; try with_reducible rfl
              try simp only [Act.put, List.setIfInBounds_toArray, List.set_cons_zero, List.set_cons_succ]
              refine wpAnyH_take (i := 4) (oi := ⟨_, _, _, _, _, _⟩) (v := ?_) rfl (by kernel_rfl) (by kernel_rfl) (by kernel_rfl) (fun _ _ _ h => h) (Or.inl ⟨by rfl, ?_⟩) hHR_0 ?_
              rotate_left
              · intro wS hSw; (try dsimp only at hSw); go_simp; try with_reducible rfl
              try simp only [Act.put, List.setIfInBounds_toArray, List.set_cons_zero, List.set_cons_succ]
              refine wpAnyH_take (i := 5) (oi := ⟨_, _, _, _, _, _⟩) (v := ?_) rfl (by kernel_rfl) (by kernel_rfl) (by kernel_rfl) (fun _ _ _ h => h) (Or.inl ⟨by rfl, ?_⟩) hHR_0 ?_
              rotate_left
              · intro wS hSw; (try dsimp only at hSw); go_simp; try with_reducible rfl
              try simp only [Act.put, List.setIfInBounds_toArray, List.set_cons_zero, List.set_cons_succ]
              refine wpAnyH_take (i := 6) (oi := ⟨_, _, _, _, _, _⟩) (v := ?_) rfl (by kernel_rfl) (by kernel_rfl) (by kernel_rfl) (fun _ _ _ h => h) (Or.inl ⟨by rfl, ?_⟩) hHR_0 ?_
              rotate_left
              · intro wS hSw; (try dsimp only at hSw); go_simp; try with_reducible rfl
              try simp only [Act.put, List.setIfInBounds_toArray, List.set_cons_zero, List.set_cons_succ]
              refine wpAnyH_take (i := 7) (oi := ⟨_, _, _, _, _, _⟩) (v := ?_) rfl (by kernel_rfl) (by kernel_rfl) (by kernel_rfl) (fun _ _ _ h => h) (Or.inl ⟨by rfl, ?_⟩) hHR_0 ?_
              rotate_left
              · intro wS hSw; (try dsimp only at hSw); go_simp; try with_reducible rfl
              try simp only [Act.put, List.setIfInBounds_toArray, List.set_cons_zero, List.set_cons_succ]
              refine wpAnyH_take (i := 8) (oi := ⟨_, _, _, _, _, _⟩) (v := ?_) rfl (by kernel_rfl) (by kernel_rfl) (by kernel_rfl) (fun _ _ _ h => h) (Or.inl ⟨by rfl, ?_⟩) hHR_0 ?_
              rotate_left
              · intro wS hSw; (try dsimp only at hSw); go_simp; try with_reducible rfl
              try simp only [Act.put, List.setIfInBounds_toArray, List.set_cons_zero, List.set_cons_succ]
              refine wpAnyH_take (i := 9) (oi := ⟨_, _, _, _, _, _⟩) (v := ?_) rfl (by kernel_rfl) (by kernel_rfl) (by kernel_rfl) (fun _ _ _ h => h) (Or.inl ⟨by rfl, ?_⟩) hHR_0 ?_
              rotate_left
              · intro wS hSw; (try dsimp only at hSw); go_simp; try with_reducible rfl
              try simp only [Act.put, List.setIfInBounds_toArray, List.set_cons_zero, List.set_cons_succ]
              refine wpAnyH_take (i := 10) (oi := ⟨_, _, _, _, _, _⟩) (v := ?_) rfl (by kernel_rfl) (by kernel_rfl) (by kernel_rfl) (fun _ _ _ h => h) (Or.inl ⟨by rfl, ?_⟩) hHR_0 ?_
              rotate_left
              · intro wS hSw; (try dsimp only at hSw); go_simp; try with_reducible rfl
              try simp only [Act.put, List.setIfInBounds_toArray, List.set_cons_zero, List.set_cons_succ]
              refine wpAnyH_take (i := 11) (oi := ⟨_, _, _, _, _, _⟩) (v := ?_) rfl (by kernel_rfl) (by kernel_rfl) (by kernel_rfl) (fun _ _ _ h => h) (Or.inl ⟨by rfl, ?_⟩) hHR_0 ?_
              rotate_left
              · intro wS hSw; (try dsimp only at hSw); go_simp; try with_reducible rfl
              try simp only [Act.put, List.setIfInBounds_toArray, List.set_cons_zero, List.set_cons_succ]
              refine wpAnyH_take (i := 12) (oi := ⟨_, _, _, _, _, _⟩) (v := ?_) rfl (by kernel_rfl) (by kernel_rfl) (by kernel_rfl) (fun _ _ _ h => h) (Or.inl ⟨by rfl, ?_⟩) hHR_0 ?_
              rotate_left
              · intro wS hSw; (try dsimp only at hSw); go_simp; try with_reducible rfl
              try simp only [Act.put, List.setIfInBounds_toArray, List.set_cons_zero, List.set_cons_succ]
              refine wpAnyH_ready (rs := [13]) (by kernel_rfl) (by simp) ?_
              refine AllReadyH.cons (o := ⟨_, _, _, _, _, _⟩) rfl (fun Kq hKq => ?_) AllReadyH.nil
              go_simp
              go_at_call 69
              refine (HUC.out _).mono ?_
              rintro e wT ⟨rfl, hb⟩
              (try go_wp2_with fail)
              refine stepY hKq (show Sy w _ [(bx, #[.int .i64 (J0 : Int), .int .i64 (K0 : Int), .int .i64 X2], 138)] [⟨.slice (some ⟨g1, 0, none⟩) P.length P.length, 3, 1, P.length, L1 (putL G J0 X2)⟩, ⟨.slice (some ⟨g2, 0, none⟩) N.length N.length, 3, 1, N.length, L1 (putL T K0 X2)⟩] [] from (hVR_0.out.call hb)) (fun _ hX => ⟨hX.cell 0 0 rfl rfl, hX.cell 0 1 rfl rfl, hX.cell 0 2 rfl rfl, (HPJ.out _ hX.be).1, (HPJ.out _ hX.be).2.1, (HPJ.out _ hX.be).2.2, (HNK.out _ hX.be).1, (HNK.out _ hX.be).2, trivial⟩) ?_
              intro VR_1 hc hHR_1
              have hVR_1 := Lib.hid hc
              clear hc hKq Kq hVR_0 hb hHR_0
              try simp only [Act.put, List.setIfInBounds_toArray, List.set_cons_zero, List.set_cons_succ]
              refine wpAnyH_take (i := 14) (oi := ⟨_, _, _, _, _, _⟩) (v := ?_) rfl (by kernel_rfl) (by kernel_rfl) (by kernel_rfl) (fun _ _ _ h => h) (Or.inl ⟨by rfl, ?_⟩) hHR_1 ?_
              rotate_left
              · intro wS hSw; (try dsimp only at hSw); go_simp; try with_reducible rfl
              try simp only [Act.put, List.setIfInBounds_toArray, List.set_cons_zero, List.set_cons_succ]
              refine wpAnyH_take (i := 15) (oi := ⟨_, _, _, _, _, _⟩) (v := ?_) rfl (by kernel_rfl) (by kernel_rfl) (by kernel_rfl) (fun _ _ _ h => h) (Or.inl ⟨by rfl, ?_⟩) hHR_1 ?_
              rotate_left
              · intro wS hSw; (try dsimp only at hSw); go_simp; try with_reducible rfl
              try simp only [Act.put, List.setIfInBounds_toArray, List.set_cons_zero, List.set_cons_succ]
              refine wpAnyH_ready (rs := [16]) (by kernel_rfl) (by simp) ?_
              refine AllReadyH.cons (o := ⟨_, _, _, _, _, _⟩) rfl (fun Kq hKq => ?_) AllReadyH.nil
              go_simp
              refine stepY hKq (show Sy w _ [(bx, #[.int .i64 (J0 : Int), .int .i64 (K0 : Int), .int .i64 X2], 138)] [⟨.slice (some ⟨g1, 0, none⟩) P.length P.length, 3, 1, P.length, L1 (putL G J0 X2)⟩, ⟨.slice (some ⟨g2, 0, none⟩) N.length N.length, 3, 1, N.length, L1 (putL T K0 X2)⟩] [] from hVR_1.out) (fun _ hX => ⟨hX.cell 0 0 rfl rfl, hX.cell 0 1 rfl rfl, hX.cell 0 2 rfl rfl, (HPJ.out _ hX.be).1, (HPJ.out _ hX.be).2.1, (HPJ.out _ hX.be).2.2, (HNK.out _ hX.be).1, (HNK.out _ hX.be).2, trivial⟩) ?_
              intro VR_2 hc hHR_2
              have hVR_2 := Lib.hid hc
              clear hc hKq Kq hVR_1 hHR_1
              try simp only [Act.put, List.setIfInBounds_toArray, List.set_cons_zero, List.set_cons_succ]
              refine wpAnyH_done (by kernel_rfl) ?_ _
              go_wp2
              go_roundw
              case rel =>
                refine ⟨k + 1, q + X2 * un, putL G J0 X2, putL T K0 X2, by omega, rfl, by go_num, by omega, Lib.hid (fun i hi => ?_), Lib.hid ⟨by rw [HCS.out, ← hD.out.1], by rw [HGS.out, ← hD.out.2.1], by rw [HTS.out, ← hD.out.2.2]⟩, Lib.hid ⟨hSM.out.1.put hJ r2, hSM.out.2.put hK r2⟩, Lib.hid (hVR_2.out.thin (List.nil_sublist _) (List.Sublist.refl _))⟩
                rcases Nat.lt_or_ge i k with h | h
                · exact hOK.out i h
                · rw [show i = k by omega]; exact HL1.out
              case measure => simp [intOf]; omega
            · have HL1 := Lib.hid (show ldOk P.length N.length l k = true from by rw [HLD.out, HUD.out, decide_eq_false e0, decide_eq_false e1]; simp)
              have d0 : decide ((J0 : Int) < y0) = false := decide_eq_false e0
              have d1 : ((J0 : Int) == y0) = false := by simpa using e1
              clear e0 e1
              go_quiet (fail)
              clear z0 z1 z2 b0 b1
              have hS1 := Lib.hid (hS.out.call (below_dN (Below.refl _ _) nq))
              go_upto_region 11 with fail
              refine wp_geny hS1.out ?_
              intro W3 hc
              have hS2 := Lib.hid hc
              clear hc hS1 hS
              have b0 : W3.cell? ⟨bx, 0, none⟩ = some (.int .i64 (J0 : Int)) := hS2.out.cell 0 0 rfl rfl
              have b2 : W3.cell? ⟨bx, 2, none⟩ = some (.int .i64 X2) := hS2.out.cell 0 2 rfl rfl
              have y0 : W3.cell? ⟨g1, J0, none⟩ = some (.int .i64 (G.getD J0 0)) := small_cell hS2.out 0 rfl hSM.out.1.1 hJ
              have y1 : W3.frozen? ⟨g1, J0, none⟩ = false := hS2.out.rfree 0 rfl _
              have hgb := hSM.out.1.2 J0
              have HPG := Lib.hid (show putL G J0 X2 = G.set J0 (G.getD J0 0 + X2) from rfl)
              generalize G.getD J0 0 = gv at *
              have wg : IntKind.i64.wrap (gv + X2) = gv + X2 := by rw [IntKind.wrap_i64]; omega
              have hS3 := Lib.hid ((hS2.out.ostore 0 rfl J0 (.int .i64 (gv + X2))).drew)
              go_still_tail 9, (by kernel_rfl)
              change wpList _ _ _ _ _ _
              have e2 : W3.drew.cell? ⟨g1, J0, none⟩ = some (.int .i64 gv) := y0
              have e3 : W3.drew.frozen? ⟨g1, J0, none⟩ = false := y1
              go_upto_region 12 with fail
              refine wp_geny hS3.out ?_
              intro W4 hc
              rw [show (L1 G).set J0 (.int .i64 (gv + X2)) = L1 (putL G J0 X2) from by rw [HPG.out]; unfold L1; rw [List.map_set]] at hc
              have hS4 : Hid (Sy w W4 [(bx, #[.int .i64 (J0 : Int), .int .i64 (K0 : Int), .int .i64 X2], 138)] [⟨.slice (some ⟨g1, 0, none⟩) P.length P.length, 3, 1, P.length, L1 (putL G J0 X2)⟩, ⟨.slice (some ⟨g2, 0, none⟩) N.length N.length, 3, 1, N.length, L1 T⟩] []) := Lib.hid hc
              clear hc hS3 hS2 b0 b2 y0 y1 e2 e3 HPG hgb wg
              have b1 : W4.cell? ⟨bx, 1, none⟩ = some (.int .i64 (K0 : Int)) := hS4.out.cell 0 1 rfl rfl
              have b2 : W4.cell? ⟨bx, 2, none⟩ = some (.int .i64 X2) := hS4.out.cell 0 2 rfl rfl
              have y0 : W4.cell? ⟨g2, K0, none⟩ = some (.int .i64 (T.getD K0 0)) := small_cell hS4.out 1 rfl hSM.out.2.1 hK
              have y1 : W4.frozen? ⟨g2, K0, none⟩ = false := hS4.out.rfree 1 rfl _
              have hgb := hSM.out.2.2 K0
              have HPG := Lib.hid (show putL T K0 X2 = T.set K0 (T.getD K0 0 + X2) from rfl)
              generalize T.getD K0 0 = tv at *
              have wg : IntKind.i64.wrap (tv + X2) = tv + X2 := by rw [IntKind.wrap_i64]; omega
              have hS5 := Lib.hid ((hS4.out.ostore 1 rfl K0 (.int .i64 (tv + X2))).drew)
              go_still_tail 9, (by kernel_rfl)
              change wpList _ _ _ _ _ _
              have e2 : W4.drew.cell? ⟨g2, K0, none⟩ = some (.int .i64 tv) := y0
              have e3 : W4.drew.frozen? ⟨g2, K0, none⟩ = false := y1
              go_upto_region 13 with fail
              refine wp_geny hS5.out ?_
              intro W5 hc
              rw [show (L1 T).set K0 (.int .i64 (tv + X2)) = L1 (putL T K0 X2) from by rw [HPG.out]; unfold L1; rw [List.map_set]] at hc
              have hS : Hid (Sy w W5 [(bx, #[.int .i64 (J0 : Int), .int .i64 (K0 : Int), .int .i64 X2], 138)] [⟨.slice (some ⟨g1, 0, none⟩) P.length P.length, 3, 1, P.length, L1 (putL G J0 X2)⟩, ⟨.slice (some ⟨g2, 0, none⟩) N.length N.length, 3, 1, N.length, L1 (putL T K0 X2)⟩] []) := Lib.hid hc
              clear hc hS5 hS4 b1 b2 y0 y1 e2 e3 HPG hgb wg
              refine wp_region_held_drew (S := (fun w' => w'.cell? ⟨bx, 0, none⟩ = some (.int .i64 (J0 : Int)) ∧ w'.cell? ⟨bx, 1, none⟩ = some (.int .i64 (K0 : Int)) ∧ w'.cell? ⟨bx, 2, none⟩ = some (.int .i64 X2) ∧ w'.cell? ⟨gp, op + J0 * 3, none⟩ = some (.int .i64 p0) ∧ w'.cell? ⟨gp, op + J0 * 3 + 1, none⟩ = some (.int .i64 p1) ∧ w'.cell? ⟨gp, op + J0 * 3 + 2, none⟩ = some (.int .i64 p2) ∧ w'.cell? ⟨gn, on + K0 * 2, none⟩ = some (.int .i64 n0) ∧ w'.cell? ⟨gn, on + K0 * 2 + 1, none⟩ = some (.int .i64 n1) ∧ True)) (by kernel_rfl) ⟨hS.out.drew.cell 0 0 rfl rfl, hS.out.drew.cell 0 1 rfl rfl, hS.out.drew.cell 0 2 rfl rfl, (HPJ.out _ hS.out.drew.be).1, (HPJ.out _ hS.out.drew.be).2.1, (HPJ.out _ hS.out.drew.be).2.2, (HNK.out _ hS.out.drew.be).1, (HNK.out _ hS.out.drew.be).2, trivial⟩ (fun hH => ?_)
              refine wpAnyH_geny (show Sy w _ [(bx, #[.int .i64 (J0 : Int), .int .i64 (K0 : Int), .int .i64 X2], 138)] [⟨.slice (some ⟨g1, 0, none⟩) P.length P.length, 3, 1, P.length, L1 (putL G J0 X2)⟩, ⟨.slice (some ⟨g2, 0, none⟩) N.length N.length, 3, 1, N.length, L1 (putL T K0 X2)⟩] [] from hS.out.drew) hH ?_
              intro VR_0 hc hHR_0
              have hVR_0 := Lib.hid hc
              clear hc hH hS
              refine wpAnyH_take (i := 0) (oi := ⟨_, _, _, _, _, _⟩) (v := ?_) rfl (by kernel_rfl) (by kernel_rfl) (by kernel_rfl) (fun _ _ _ h => h) (Or.inl ⟨by rfl, ?_⟩) hHR_0 ?_
              rotate_left
              · intro wS hSw; (try dsimp only at hSw); go_simp; try with_reducible rfl
              try simp only [Act.put, List.setIfInBounds_toArray, List.set_cons_zero, List.set_cons_succ]
              refine wpAnyH_take (i := 1) (oi := ⟨_, _, _, _, _, _⟩) (v := ?_) rfl (by kernel_rfl) (by kernel_rfl) (by kernel_rfl) (fun _ _ _ h => h) (Or.inl ⟨by rfl, ?_⟩) hHR_0 ?_
              rotate_left
              · intro wS hSw; (try dsimp only at hSw); go_simp; try with_reducible rfl
              try simp only [Act.put, List.setIfInBounds_toArray, List.set_cons_zero, List.set_cons_succ]
              refine wpAnyH_take (i := 2) (oi := ⟨_, _, _, _, _, _⟩) (v := ?_) rfl (by kernel_rfl) (by kernel_rfl) (by kernel_rfl) (fun _ _ _ h => h) (Or.inl ⟨by rfl, ?_⟩) hHR_0 ?_
              rotate_left
              · intro wS hSw; (try dsimp only at hSw); go_simp; try with_reducible rfl
              try simp only [Act.put, List.setIfInBounds_toArray, List.set_cons_zero, List.set_cons_succ]
              refine wpAnyH_take (i := 3) (oi := ⟨_, _, _, _, _, _⟩) (v := ?_) rfl (by kernel_rfl) (by kernel_rfl) (by kernel_rfl) (fun _ _ _ h => h) (Or.inl ⟨by rfl, ?_⟩) hHR_0 ?_
              rotate_left
              · intro wS hSw; (try dsimp only at hSw); go_simp; try with_reducible rfl
              try simp only [Act.put, List.setIfInBounds_toArray, List.set_cons_zero, List.set_cons_succ]
              refine wpAnyH_take (i := 4) (oi := ⟨_, _, _, _, _, _⟩) (v := ?_) rfl (by kernel_rfl) (by kernel_rfl) (by kernel_rfl) (fun _ _ _ h => h) (Or.inl ⟨by rfl, ?_⟩) hHR_0 ?_
              rotate_left
              · intro wS hSw; (try dsimp only at hSw); go_simp; try with_reducible rfl
              try simp only [Act.put, List.setIfInBounds_toArray, List.set_cons_zero, List.set_cons_succ]
              refine wpAnyH_take (i := 5) (oi := ⟨_, _, _, _, _, _⟩) (v := ?_) rfl (by kernel_rfl) (by kernel_rfl) (by kernel_rfl) (fun _ _ _ h => h) (Or.inl ⟨by rfl, ?_⟩) hHR_0 ?_
              rotate_left
              · intro wS hSw; (try dsimp only at hSw); go_simp; try with_reducible rfl
              try simp only [Act.put, List.setIfInBounds_toArray, List.set_cons_zero, List.set_cons_succ]
              refine wpAnyH_take (i := 6) (oi := ⟨_, _, _, _, _, _⟩) (v := ?_) rfl (by kernel_rfl) (by kernel_rfl) (by kernel_rfl) (fun _ _ _ h => h) (Or.inl ⟨by rfl, ?_⟩) hHR_0 ?_
              rotate_left
              · intro wS hSw; (try dsimp only at hSw); go_simp; try with_reducible rfl
              try simp only [Act.put, List.setIfInBounds_toArray, List.set_cons_zero, List.set_cons_succ]
              refine wpAnyH_take (i := 7) (oi := ⟨_, _, _, _, _, _⟩) (v := ?_) rfl (by kernel_rfl) (by kernel_rfl) (by kernel_rfl) (fun _ _ _ h => h) (Or.inl ⟨by rfl, ?_⟩) hHR_0 ?_
              rotate_left
              · intro wS hSw; (try dsimp only at hSw); go_simp; try with_reducible rfl
              try simp only [Act.put, List.setIfInBounds_toArray, List.set_cons_zero, List.set_cons_succ]
              refine wpAnyH_take (i := 8) (oi := ⟨_, _, _, _, _, _⟩) (v := ?_) rfl (by kernel_rfl) (by kernel_rfl) (by kernel_rfl) (fun _ _ _ h => h) (Or.inl ⟨by rfl, ?_⟩) hHR_0 ?_
              rotate_left
              · intro wS hSw; (try dsimp only at hSw); go_simp; try with_reducible rfl
              try simp only [Act.put, List.setIfInBounds_toArray, List.set_cons_zero, List.set_cons_succ]
              refine wpAnyH_take (i := 9) (oi := ⟨_, _, _, _, _, _⟩) (v := ?_) rfl (by kernel_rfl) (by kernel_rfl) (by kernel_rfl) (fun _ _ _ h => h) (Or.inl ⟨by rfl, ?_⟩) hHR_0 ?_
              rotate_left
              · intro wS hSw; (try dsimp only at hSw); go_simp; try with_reducible rfl
              try simp only [Act.put, List.setIfInBounds_toArray, List.set_cons_zero, List.set_cons_succ]
              refine wpAnyH_take (i := 10) (oi := ⟨_, _, _, _, _, _⟩) (v := ?_) rfl (by kernel_rfl) (by kernel_rfl) (by kernel_rfl) (fun _ _ _ h => h) (Or.inl ⟨by rfl, ?_⟩) hHR_0 ?_
              rotate_left
              · intro wS hSw; (try dsimp only at hSw); go_simp; try with_reducible rfl
              try simp only [Act.put, List.setIfInBounds_toArray, List.set_cons_zero, List.set_cons_succ]
              refine wpAnyH_take (i := 11) (oi := ⟨_, _, _, _, _, _⟩) (v := ?_) rfl (by kernel_rfl) (by kernel_rfl) (by kernel_rfl) (fun _ _ _ h => h) (Or.inl ⟨by rfl, ?_⟩) hHR_0 ?_
              rotate_left
              · intro wS hSw; (try dsimp only at hSw); go_simp; try with_reducible rfl
              try simp only [Act.put, List.setIfInBounds_toArray, List.set_cons_zero, List.set_cons_succ]
              refine wpAnyH_take (i := 12) (oi := ⟨_, _, _, _, _, _⟩) (v := ?_) rfl (by kernel_rfl) (by kernel_rfl) (by kernel_rfl) (fun _ _ _ h => h) (Or.inl ⟨by rfl, ?_⟩) hHR_0 ?_
              rotate_left
              · intro wS hSw; (try dsimp only at hSw); go_simp; try with_reducible rfl
              try simp only [Act.put, List.setIfInBounds_toArray, List.set_cons_zero, List.set_cons_succ]
              refine wpAnyH_ready (rs := [13]) (by kernel_rfl) (by simp) ?_
              refine AllReadyH.cons (o := ⟨_, _, _, _, _, _⟩) rfl (fun Kq hKq => ?_) AllReadyH.nil
              go_simp
              go_at_call 69
              refine (HUC.out _).mono ?_
              rintro e wT ⟨rfl, hb⟩
              (try go_wp2_with fail)
              refine stepY hKq (show Sy w _ [(bx, #[.int .i64 (J0 : Int), .int .i64 (K0 : Int), .int .i64 X2], 138)] [⟨.slice (some ⟨g1, 0, none⟩) P.length P.length, 3, 1, P.length, L1 (putL G J0 X2)⟩, ⟨.slice (some ⟨g2, 0, none⟩) N.length N.length, 3, 1, N.length, L1 (putL T K0 X2)⟩] [] from (hVR_0.out.call hb)) (fun _ hX => ⟨hX.cell 0 0 rfl rfl, hX.cell 0 1 rfl rfl, hX.cell 0 2 rfl rfl, (HPJ.out _ hX.be).1, (HPJ.out _ hX.be).2.1, (HPJ.out _ hX.be).2.2, (HNK.out _ hX.be).1, (HNK.out _ hX.be).2, trivial⟩) ?_
              intro VR_1 hc hHR_1
              have hVR_1 := Lib.hid hc
              clear hc hKq Kq hVR_0 hb hHR_0
              try simp only [Act.put, List.setIfInBounds_toArray, List.set_cons_zero, List.set_cons_succ]
              refine wpAnyH_take (i := 14) (oi := ⟨_, _, _, _, _, _⟩) (v := ?_) rfl (by kernel_rfl) (by kernel_rfl) (by kernel_rfl) (fun _ _ _ h => h) (Or.inl ⟨by rfl, ?_⟩) hHR_1 ?_
              rotate_left
              · intro wS hSw; (try dsimp only at hSw); go_simp; try with_reducible rfl
              try simp only [Act.put, List.setIfInBounds_toArray, List.set_cons_zero, List.set_cons_succ]
              refine wpAnyH_take (i := 15) (oi := ⟨_, _, _, _, _, _⟩) (v := ?_) rfl (by kernel_rfl) (by kernel_rfl) (by kernel_rfl) (fun _ _ _ h => h) (Or.inl ⟨by rfl, ?_⟩) hHR_1 ?_
              rotate_left
              · intro wS hSw; (try dsimp only at hSw); go_simp; try with_reducible rfl
              try simp only [Act.put, List.setIfInBounds_toArray, List.set_cons_zero, List.set_cons_succ]
              refine wpAnyH_ready (rs := [16]) (by kernel_rfl) (by simp) ?_
              refine AllReadyH.cons (o := ⟨_, _, _, _, _, _⟩) rfl (fun Kq hKq => ?_) AllReadyH.nil
              go_simp
              refine stepY hKq (show Sy w _ [(bx, #[.int .i64 (J0 : Int), .int .i64 (K0 : Int), .int .i64 X2], 138)] [⟨.slice (some ⟨g1, 0, none⟩) P.length P.length, 3, 1, P.length, L1 (putL G J0 X2)⟩, ⟨.slice (some ⟨g2, 0, none⟩) N.length N.length, 3, 1, N.length, L1 (putL T K0 X2)⟩] [] from hVR_1.out) (fun _ hX => ⟨hX.cell 0 0 rfl rfl, hX.cell 0 1 rfl rfl, hX.cell 0 2 rfl rfl, (HPJ.out _ hX.be).1, (HPJ.out _ hX.be).2.1, (HPJ.out _ hX.be).2.2, (HNK.out _ hX.be).1, (HNK.out _ hX.be).2, trivial⟩) ?_
              intro VR_2 hc hHR_2
              have hVR_2 := Lib.hid hc
              clear hc hKq Kq hVR_1 hHR_1
              try simp only [Act.put, List.setIfInBounds_toArray, List.set_cons_zero, List.set_cons_succ]
              refine wpAnyH_done (by kernel_rfl) ?_ _
              go_wp2
              go_roundw
              case rel =>
                refine ⟨k + 1, q + X2 * un, putL G J0 X2, putL T K0 X2, by omega, rfl, by go_num, by omega, Lib.hid (fun i hi => ?_), Lib.hid ⟨by rw [HCS.out, ← hD.out.1], by rw [HGS.out, ← hD.out.2.1], by rw [HTS.out, ← hD.out.2.2]⟩, Lib.hid ⟨hSM.out.1.put hJ r2, hSM.out.2.put hK r2⟩, Lib.hid (hVR_2.out.thin (List.nil_sublist _) (List.Sublist.refl _))⟩
                rcases Nat.lt_or_ge i k with h | h
                · exact hOK.out i h
                · rw [show i = k by omega]; exact HL1.out
              case measure => simp [intOf]; omega
      · have hkk : ¬ (k : Int) < (l.length : Int) := by omega
        have ht : l.take k = l := List.take_of_length_le (by omega)
        rw [ht] at hD
        have HLY := Lib.hid (lds_yes fun i hi => hOK.out i (by omega))
        clear ht hq hOK
        go_wp2
        go_loopw [13] (fun iv wr => ∃ i : Nat, i ≤ P.length ∧ iv = .int .i64 i ∧ Hid (∀ j, j < i → G.getD j 0 ≤ hA P j) ∧ Hid (Sy w wr [] [⟨.slice (some ⟨g1, 0, none⟩) P.length P.length, 3, 1, P.length, L1 G⟩, ⟨.slice (some ⟨g2, 0, none⟩) N.length N.length, 3, 1, N.length, L1 T⟩] [])) (fun iv _ => P.length - (intOf iv).toNat)
        case atStart => exact ⟨0, Nat.zero_le _, rfl, Lib.hid (fun j h => absurd h (Nat.not_lt_zero j)), hS⟩
        case round =>
          clear hS
          obtain ⟨i, hi, rfl, hGO, hS⟩ := hrel
          by_cases hil : i < P.length
          · have hii : (i : Int) < (P.length : Int) := by omega
            have i0 : (0 : Int) ≤ (i : Int) := by omega
            obtain ⟨gp, op, rfl⟩ := HSP.out.addr (by omega)
            have z0 := ((hS.out.sx HSP.out).at3 hil).2.1
            have y0 : wr.cell? ⟨g1, i, none⟩ = some (.int .i64 (G.getD i 0)) := small_cell hS.out 0 rfl hSM.out.1.1 hil
            have HAI := Lib.hid (hA_at hil)
            have HNOI := Lib.hid (fun h => given_no (G := G) hil h)
            have HGI := Lib.hid (show ∀ v, G.getD i 0 = v → v ≤ hA P i → ∀ j, j < i + 1 → G.getD j 0 ≤ hA P j from fun v e h j hj => by
              rcases Nat.lt_or_ge j i with h1 | h1
              · exact hGO.out j h1
              · rw [show j = i by omega, e]; exact h)
            obtain ⟨gv, hgv⟩ : ∃ v, G.getD i 0 = v := ⟨_, rfl⟩
            have HGV := Lib.hid (HGI.out gv hgv)
            rw [hgv] at HNOI y0
            rw [HAI.out] at HNOI HGV
            clear hgv HGI
            generalize P[i].2.1 = pv at *
            by_cases hgt : pv < gv
            · have HNO := Lib.hid (ans_no HANS.out (ok_no2 (show givenOk P (givenL P.length l) = false from by rw [← hD.out.2.1]; exact HNOI.out hgt)))
              have d0 : decide (gv > pv) = true := decide_eq_true hgt
              go_upto_region 17 with fail
              go_quiet (fail)
              go_wp2
              go_ret2
              exact ⟨by rw [HNO.out.1, HNO.out.2]; rfl, hS.out.be.trans (below_dN (Below.refl _ _) nq)⟩
            · have HGN := Lib.hid (HGV.out (by omega))
              have d0 : decide (gv > pv) = false := decide_eq_false hgt
              go_upto_region 17 with fail
              go_quiet (fail)
              have hS1 := Lib.hid (hS.out.call (below_dN (Below.refl _ _) nq))
              go_wp2
              go_roundw
              case rel => exact ⟨i + 1, by omega, by go_num, HGN, hS1⟩
              case measure => simp [intOf]; omega
          · have hii : ¬ (i : Int) < (P.length : Int) := by omega
            have HGY := Lib.hid (given_yes (P := P) (G := G) fun j hj => hGO.out j (by omega))
            clear hGO
            go_wp2
            go_loopw [14] (fun iv wr => ∃ i : Nat, i ≤ N.length ∧ iv = .int .i64 i ∧ Hid (∀ j, j < i → T.getD j 0 = hB N j) ∧ Hid (Sy w wr [] [⟨.slice (some ⟨g1, 0, none⟩) P.length P.length, 3, 1, P.length, L1 G⟩, ⟨.slice (some ⟨g2, 0, none⟩) N.length N.length, 3, 1, N.length, L1 T⟩] [])) (fun iv _ => N.length - (intOf iv).toNat)
            case atStart => exact ⟨0, Nat.zero_le _, rfl, Lib.hid (fun j h => absurd h (Nat.not_lt_zero j)), hS⟩
            case round =>
              clear hS
              obtain ⟨m, hm, rfl, hTO, hS⟩ := hrel
              by_cases hml : m < N.length
              · have hmm : (m : Int) < (N.length : Int) := by omega
                have m0 : (0 : Int) ≤ (m : Int) := by omega
                obtain ⟨gn, on, rfl⟩ := HSN.out.addr (by omega)
                have z0 := ((hS.out.sx HSN.out).at2 hml).2
                have y0 : wr.cell? ⟨g2, m, none⟩ = some (.int .i64 (T.getD m 0)) := small_cell hS.out 1 rfl hSM.out.2.1 hml
                have HAI := Lib.hid (hB_at hml)
                have HNOI := Lib.hid (fun h => got_no (T := T) hml h)
                have HGI := Lib.hid (show ∀ v, T.getD m 0 = v → v = hB N m → ∀ j, j < m + 1 → T.getD j 0 = hB N j from fun v e h j hj => by
                  rcases Nat.lt_or_ge j m with h1 | h1
                  · exact hTO.out j h1
                  · rw [show j = m by omega, e]; exact h)
                obtain ⟨gv, hgv⟩ : ∃ v, T.getD m 0 = v := ⟨_, rfl⟩
                have HGV := Lib.hid (HGI.out gv hgv)
                rw [hgv] at HNOI y0
                rw [HAI.out] at HNOI HGV
                clear hgv HGI
                generalize N[m].2 = pv at *
                by_cases hgt : gv = pv
                · have HGN := Lib.hid (HGV.out hgt)
                  have d0 : (gv != pv) = false := by simpa using hgt
                  clear hgt HGV HNOI
                  go_upto_region 22 with fail
                  go_quiet (fail)
                  have hS1 := Lib.hid (hS.out.call (below_dN (Below.refl _ _) nq))
                  go_wp2
                  go_roundw
                  case rel => exact ⟨m + 1, by omega, by go_num, HGN, hS1⟩
                  case measure => simp [intOf]; omega
                · have HNO := Lib.hid (ans_no HANS.out (ok_no3 (show gotOk N (gotL N.length l) = false from by rw [← hD.out.2.2]; exact HNOI.out hgt)))
                  have d0 : (gv != pv) = true := by simpa using hgt
                  clear hgt HGV HNOI
                  go_upto_region 22 with fail
                  go_quiet (fail)
                  go_wp2
                  go_ret2
                  exact ⟨by rw [HNO.out.1, HNO.out.2]; rfl, hS.out.be.trans (below_dN (Below.refl _ _) nq)⟩
              · have hmm : ¬ (m : Int) < (N.length : Int) := by omega
                have HTY := Lib.hid (got_yes (N := N) (T := T) fun j hj => hTO.out j (by omega))
                have HYS := Lib.hid (ans_yes HANS.out (ok_yes HLY.out (show givenOk P (givenL P.length l) = true from by rw [← hD.out.2.1]; exact HGY.out) (show gotOk N (gotL N.length l) = true from by rw [← hD.out.2.2]; exact HTY.out)))
                have HQ1 := Lib.hid hD.out.1
                clear hD
                go_wp2
                go_ret2
                exact ⟨by rw [HYS.out.1, HYS.out.2, ← HQ1.out]; rfl, hS.out.be⟩
end
end Go.Proofs.YteogibpmpppgmaaGreat

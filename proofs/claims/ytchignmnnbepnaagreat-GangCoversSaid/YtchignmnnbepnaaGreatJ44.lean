/- least: the yard when everything is brought -/
import Derived.Test.YtchignmnnbepnaaGreatJ43
import Derived.Test.YtchignmnnbepnaaGreatJ16
import Derived.Test.YtchignmnnbepnaaGreatJ9
import Derived.StillTailTactics
namespace Go.Proofs.YtchignmnnbepnaaGreat
open Go.RowKit Go.Shelf

def yC (v0 v1 v2 v3 : Value) (X : List Int) : Array Value := (v0 :: v1 :: v2 :: v3 :: L1 X).toArray
def XF (X : List Int) (i k : Nat) : Int := X.getD (i * 20 + k) 0
theorem yC_x {v0 v1 v2 v3 : Value} {X : List Int} {j : Nat} (h : j < X.length) : (yC v0 v1 v2 v3 X)[4 + j]? = some (.int .i64 (X.getD j 0)) := by
  unfold yC
  rw [List.getElem?_toArray, show 4 + j = j + 1 + 1 + 1 + 1 by omega]
  simp only [List.getElem?_cons_succ]
  rw [L1_get _ _ h, getD_at h]
theorem yC_set {v0 v1 v2 v3 : Value} {X : List Int} {j : Nat} (x : Int) : (yC v0 v1 v2 v3 X).setIfInBounds (4 + j) (.int .i64 x) = yC v0 v1 v2 v3 (X.set j x) := by
  unfold yC L1
  rw [List.setIfInBounds_toArray, show 4 + j = j + 1 + 1 + 1 + 1 by omega]
  simp only [List.set_cons_succ, List.map_set]
set_option maxRecDepth 100000 in
theorem built_yard (a0 a1 a2 a3 : Option Addr) (n0 n1 n2 n3 c0 c1 c2 c3 : Nat) : Tryz.prog.built 150 [(0, .slice a0 n0 c0), (1, .slice a1 n1 c1), (2, .slice a2 n2 c2), (3, .slice a3 n3 c3)] = some (yC (.slice a0 n0 c0) (.slice a1 n1 c1) (.slice a2 n2 c2) (.slice a3 n3 c3) (List.replicate 400 0)) := by
  kernel_rfl
theorem exec_build {P : Program} {o : Oper} {ρ : Operand → Value} {w : World} (t : TypeId) (parts : Array (Nat × Operand)) (ho : o.op = .build t parts) (cells : Array Value) (hc : P.built t (parts.map fun (i, x) => (i, ρ x)).toList = some cells) : (execOp ρ o).run P w = .ok (.value (.agg cells)) w := by
  unfold execOp
  simp only [ho, Sem.run_bind, run_build w t _ cells hc, Result.andThen_ok]
  rfl
theorem exec_yard {o : Oper} {ρ : Operand → Value} {w : World} {a0 a1 a2 a3 : Option Addr} {n0 n1 n2 n3 c0 c1 c2 c3 : Nat} (ho : o.op = .build 150 #[(0, .tmp 14), (1, .tmp 15), (2, .tmp 18), (3, .tmp 21)])
    (h0 : ρ (.tmp 14) = .slice a0 n0 c0) (h1 : ρ (.tmp 15) = .slice a1 n1 c1) (h2 : ρ (.tmp 18) = .slice a2 n2 c2) (h3 : ρ (.tmp 21) = .slice a3 n3 c3) : (execOp ρ o).run Tryz.prog w = .ok (.value (.agg (yC (.slice a0 n0 c0) (.slice a1 n1 c1) (.slice a2 n2 c2) (.slice a3 n3 c3) (List.replicate 400 0)))) w :=
  exec_build _ _ ho _ (by
    simp only [List.map_toArray, List.map_cons, List.map_nil, h0, h1, h2, h3]
    exact built_yard a0 a1 a2 a3 n0 n1 n2 n3 c0 c1 c2 c3)
theorem yard_of {w W : World} {bs : List (Nat × Array Value × TypeId)} {os : List Rw} {rs : List (World → Prop)} {y g2 g3 c0 c1 c2 c3 : Nat} {a0 a1 : Option Addr} {P : List I3} {N : List I2} {G T X : List Int} {t : TypeId} (h : Sy w W bs os rs) (i j k : Nat)
    (hi : bs[i]? = some (y, yC (.slice a0 P.length c0) (.slice a1 N.length c1) (.slice (some ⟨g2, 0, none⟩) P.length c2) (.slice (some ⟨g3, 0, none⟩) N.length c3) X, t)) (hj : os[j]? = some ⟨.slice (some ⟨g2, 0, none⟩) P.length c2, 3, 1, P.length, L1 G⟩) (hk : os[k]? = some ⟨.slice (some ⟨g3, 0, none⟩) N.length c3, 3, 1, N.length, L1 T⟩)
    (hX : X.length = 400) (hP : P.length ≤ 20) (hN : N.length ≤ 20) (hsp : Sx 3 w a0 P.length c0 (L3 P)) (hsn : Sx 2 w a1 N.length c1 (L2 N)) : Yard W y a0 a1 (some ⟨g2, 0, none⟩) (some ⟨g3, 0, none⟩) c0 c1 c2 c3 P N G T (XF X) :=
  ⟨h.cell i 0 hi rfl, h.cell i 1 hi rfl, h.cell i 2 hi rfl, h.cell i 3 hi rfl, fun a b ha hb => h.cell i (4 + (a * 20 + b)) hi (yC_x (by omega)), hsp.below h.be, hsn.below h.be, h.osx j hj, h.osx k hk, h.lt i hi⟩
theorem Sy.bswap {w W : World} {os : List Rw} {rs : List (World → Prop)} {x y z : Nat × Array Value × TypeId} (h : Sy w W [x, y, z] os rs) : Sy w W [x, z, y] os rs :=
  have hm : ∀ u : Nat × Array Value × TypeId, u ∈ [x, z, y] → u ∈ [x, y, z] := fun u hu => by
    simp only [List.mem_cons, List.not_mem_nil, or_false] at hu ⊢
    rcases hu with h | h | h
    · exact .inl h
    · exact .inr (.inr h)
    · exact .inr (.inl h)
  h.step rfl rfl rfl (Away.refl _ _) (fun b hb => .inl (by
    rcases mem_own.1 hb with ⟨u, hu, h1⟩ | h2
    · exact mem_own.2 (.inl ⟨u, hm u hu, h1⟩)
    · exact mem_own.2 (.inr h2))) (fun u hu => h.bx u (hm u hu)) h.ow (by
    have hi := h.inc
    unfold ownOf at hi ⊢
    exact ((List.Perm.append_right _ (((List.Perm.swap z y []).cons x).map _)).nodup_iff).1 hi)
/-- what is still lacking -/
def lackN (N : List I2) (T : List Int) : Nat := (rsum (fun k => hB N k - T.getD k 0) N.length).toNat
theorem lack_less {N : List I2} {T : List Int} {k : Nat} {m : Int} (hk : k < N.length) (hT : T.length = N.length) (h0 : ∀ j, j < N.length → T.getD j 0 ≤ hB N j) (h1 : 1 ≤ m) (h2 : m ≤ hB N k - T.getD k 0) : lackN N (T.set k (T.getD k 0 + m)) < lackN N T := by
  unfold lackN
  have e := rsum_one (f := fun j => hB N j - (T.set k (T.getD k 0 + m)).getD j 0) (g := fun j => hB N j - T.getD j 0) N.length hk fun j hj hne => by
    rw [getD_set' (by omega), if_neg (fun h => hne h.symm)]
  rw [getD_set' (by omega), if_pos rfl] at e
  have h3 := rsum_entry (f := fun j => hB N j - T.getD j 0) hk fun j hj => by have := h0 j hj; omega
  omega
def RetLeast (w : World) (a0 a1 : Option Addr) (c0 c1 : Nat) (P : List I3) (N : List I2) (e : Ending) (w' : World) : Prop := ∃ (y g2 g3 : Nat) (X G T : List Int), e = .returned (.pointer (some ⟨y, 0, none⟩)) ∧
  Yard w' y a0 a1 (some ⟨g2, 0, none⟩) (some ⟨g3, 0, none⟩) c0 c1 P.length N.length P N G T (XF X) ∧ YInv P.length N.length (hA P) (hB N) (costC P N) (XF X) (fun i => G.getD i 0) (fun k => T.getD k 0) ∧ (∀ k, k < N.length → T.getD k 0 = hB N k) ∧ Below w.heap.size w w'
theorem rep0 (n i : Nat) : (List.replicate n (0 : Int)).getD i 0 = 0 := by
  rw [List.getD_eq_getElem?_getD, List.getElem?_replicate]; split <;> rfl
theorem hcost {P : List I3} {N : List I2} (hG : YGood P N) : ∀ i k, i < P.length → k < N.length → 0 ≤ costC P N i k ∧ costC P N i k ≤ capN := fun i k hi hk => by
  have h1 := hG.2.2.1 _ (List.getElem_mem hi)
  have h2 := hG.2.2.2 _ (List.getElem_mem hk)
  unfold costC capN
  rw [List.getD_eq_getElem?_getD, List.getD_eq_getElem?_getD, List.getElem?_eq_getElem hi, List.getElem?_eq_getElem hk]
  dsimp only [Option.getD_some]
  unfold unitI
  omega
theorem hA_at {P : List I3} {i : Nat} (h : i < P.length) : hA P i = P[i].2.1 := by unfold hA; rw [List.getD_eq_getElem?_getD, List.getElem?_eq_getElem h]; rfl
theorem hB_at {N : List I2} {k : Nat} (h : k < N.length) : hB N k = N[k].2 := by unfold hB; rw [List.getD_eq_getElem?_getD, List.getElem?_eq_getElem h]; rfl
theorem LH_cells {l : List Hop} {k : Nat} (h : k < l.length) : (LH l)[k * 4]? = some (.int .i64 (l.getD k hop0).i) ∧ (LH l)[k * 4 + 1]? = some (.int .i64 (l.getD k hop0).k) ∧ (LH l)[k * 4 + 2]? = some (.bool (l.getD k hop0).b) ∧ (LH l)[k * 4 + 3]? = some (.int .i64 (l.getD k hop0).c) :=
  ⟨LH_at (j := 0) h (by omega), LH_at (j := 1) h (by omega), LH_at (j := 2) h (by omega), LH_at (j := 3) h (by omega)⟩
theorem getD_mem {l : List Hop} {k : Nat} (h : k < l.length) : l.getD k hop0 ∈ l := by rw [List.getD_eq_getElem?_getD, List.getElem?_eq_getElem h]; exact List.getElem_mem h
section
variable (w : World)
set_option maxHeartbeats 8000000 in
set_option maxRecDepth 100000 in
theorem least_any (a0 a1 : Option Addr) (c0 c1 : Nat) (P : List I3) (N : List I2) (hsp : Sx 3 w a0 P.length c0 (L3 P)) (hsn : Sx 2 w a1 N.length c1 (L2 N)) (hG : YGood P N) (hE : rsum (hB N) N.length ≤ rsum (hA P) P.length) :
    Calls Tryz.prog 49 #[.slice a0 P.length c0, .slice a1 N.length c1] w (RetLeast w a0 a1 c0 c1 P N) := by
  have HSP := Lib.hid hsp
  have HSN := Lib.hid hsn
  have HGD := Lib.hid hG
  have HE := Lib.hid hE
  have hP20 := hG.1
  have hN20 := hG.2.1
  clear hsp hsn hG hE
  have hC := Lib.hid (Sy.enter w)
  go_enter Tryz.func49, Tryz.ntmps49
  go_upto_region 1 with fail
  go_cut [5] (fun s5 wx => ∃ (bY g2 g3 : Nat), s5 = .pointer (some ⟨bY, 0, none⟩) ∧ Hid (Sy w wx [(bY, yC (.slice a0 P.length c0) (.slice a1 N.length c1) (.slice (some ⟨g2, 0, none⟩) P.length P.length) (.slice (some ⟨g3, 0, none⟩) N.length N.length) (List.replicate 400 0), 150)]
    [⟨.slice (some ⟨g2, 0, none⟩) P.length P.length, 3, 1, P.length, List.replicate P.length (.int .i64 0)⟩, ⟨.slice (some ⟨g3, 0, none⟩) N.length N.length, 3, 1, N.length, List.replicate N.length (.int .i64 0)⟩] []))
  case first =>
    refine wp_region_held_drew (S := (fun w' => True)) (by kernel_rfl) trivial (fun hH => ?_)
    refine wpAnyH_geny (show Sy w _ [] [] [] from hC.out.drew) hH ?_
    intro VL_0 hc hHL_0
    have hVL_0 := Lib.hid hc
    clear hc hH hC
    refine wpAnyH_take (i := 0) (oi := ⟨_, _, _, _, _, _⟩) (v := ?_) rfl (by kernel_rfl) (by kernel_rfl) (by kernel_rfl) (fun _ _ _ h => h) (Or.inl ⟨by rfl, ?_⟩) hHL_0 ?_
    rotate_left
    · intro wS hSw; (try dsimp only at hSw); go_simp; try with_reducible rfl
    try simp only [Act.put, List.setIfInBounds_toArray, List.set_cons_zero, List.set_cons_succ]
    refine wpAnyH_take (i := 1) (oi := ⟨_, _, _, _, _, _⟩) (v := ?_) rfl (by kernel_rfl) (by kernel_rfl) (by kernel_rfl) (fun _ _ _ h => h) (Or.inl ⟨by rfl, ?_⟩) hHL_0 ?_
    rotate_left
    · intro wS hSw; (try dsimp only at hSw); go_simp; try with_reducible rfl
    try simp only [Act.put, List.setIfInBounds_toArray, List.set_cons_zero, List.set_cons_succ]
    refine wpAnyH_take (i := 2) (oi := ⟨_, _, _, _, _, _⟩) (v := ?_) rfl (by kernel_rfl) (by kernel_rfl) (by kernel_rfl) (fun _ _ _ h => h) (Or.inl ⟨by rfl, ?_⟩) hHL_0 ?_
    rotate_left
    · intro wS hSw; (try dsimp only at hSw); go_simp; try with_reducible rfl
    try simp only [Act.put, List.setIfInBounds_toArray, List.set_cons_zero, List.set_cons_succ]
    refine wpAnyH_take (i := 3) (oi := ⟨_, _, _, _, _, _⟩) (v := ?_) rfl (by kernel_rfl) (by kernel_rfl) (by kernel_rfl) (fun _ _ _ h => h) (Or.inl ⟨by rfl, ?_⟩) hHL_0 ?_
    rotate_left
    · intro wS hSw; (try dsimp only at hSw); go_simp; try with_reducible rfl
    try simp only [Act.put, List.setIfInBounds_toArray, List.set_cons_zero, List.set_cons_succ]
    refine wpAnyH_take (i := 5) (oi := ⟨_, _, _, _, _, _⟩) (v := ?_) rfl (by kernel_rfl) (by kernel_rfl) (by kernel_rfl) (fun _ _ _ h => h) (Or.inl ⟨by rfl, ?_⟩) hHL_0 ?_
    rotate_left
    · intro wS hSw; (try dsimp only at hSw); go_simp; try with_reducible rfl
    try simp only [Act.put, List.setIfInBounds_toArray, List.set_cons_zero, List.set_cons_succ]
    refine wpAnyH_take (i := 6) (oi := ⟨_, _, _, _, _, _⟩) (v := ?_) rfl (by kernel_rfl) (by kernel_rfl) (by kernel_rfl) (fun _ _ _ h => h) (Or.inl ⟨by rfl, ?_⟩) hHL_0 ?_
    rotate_left
    · intro wS hSw; (try dsimp only at hSw); go_simp; try with_reducible rfl
    try simp only [Act.put, List.setIfInBounds_toArray, List.set_cons_zero, List.set_cons_succ]
    refine wpAnyH_ready (rs := [4, 7]) (by kernel_rfl) (by simp) ?_
    refine AllReadyH.cons (o := ⟨_, _, _, _, _, _⟩) rfl (fun Kq hKq => ?_) ?_
    · rw [if_pos (by rfl)]
      refine op_make_sy hVL_0.out _ 3 _ _ rfl (.int .i64 0) rfl 8 (P.length) rfl rfl und_int info_int (by omega) (by omega) (fun gML_1 _ hc => ?_)
      refine stepY hKq (show Sy w _ [] [⟨.slice (some ⟨gML_1, 0, none⟩) P.length P.length, 3, 1, P.length, List.replicate P.length (.int .i64 0)⟩] [] from hc) (fun _ hX => trivial) ?_
      intro VL_1 hc2 hHL_1
      have hVL_1 := Lib.hid hc2
      clear hc2 hKq Kq hVL_0 hc hHL_0
      try simp only [Act.put, List.setIfInBounds_toArray, List.set_cons_zero, List.set_cons_succ]
      refine wpAnyH_ready (rs := [7]) (by kernel_rfl) (by simp) ?_
      refine AllReadyH.cons (o := ⟨_, _, _, _, _, _⟩) rfl (fun Kq hKq => ?_) AllReadyH.nil
      rw [if_pos (by rfl)]
      refine op_make_sy hVL_1.out _ 3 _ _ rfl (.int .i64 0) rfl 8 (N.length) rfl rfl und_int info_int (by omega) (by omega) (fun gML_2 _ hc => ?_)
      refine stepY hKq (show Sy w _ [] [⟨.slice (some ⟨gML_1, 0, none⟩) P.length P.length, 3, 1, P.length, List.replicate P.length (.int .i64 0)⟩, ⟨.slice (some ⟨gML_2, 0, none⟩) N.length N.length, 3, 1, N.length, List.replicate N.length (.int .i64 0)⟩] [] from hc) (fun _ hX => trivial) ?_
      intro VL_2 hc2 hHL_2
      have hVL_2 := Lib.hid hc2
      clear hc2 hKq Kq hVL_1 hc hHL_1
      try simp only [Act.put, List.setIfInBounds_toArray, List.set_cons_zero, List.set_cons_succ]
      refine wpAnyH_take (i := 8) (oi := ⟨_, _, _, _, _, _⟩) (v := .agg (yC (.slice a0 P.length c0) (.slice a1 N.length c1) (.slice (some ⟨gML_1, 0, none⟩) P.length P.length) (.slice (some ⟨gML_2, 0, none⟩) N.length N.length) (List.replicate 400 0))) rfl (by kernel_rfl) (by kernel_rfl) (by kernel_rfl) (fun _ _ _ h => h) (Or.inl ⟨by rfl, ?_⟩) hHL_2 ?_
      · intro wS hSw; exact exec_yard rfl rfl rfl rfl rfl
      try simp only [Act.put, List.setIfInBounds_toArray, List.set_cons_zero, List.set_cons_succ]
      refine wpAnyH_ready (rs := [9]) (by kernel_rfl) (by simp) ?_
      refine AllReadyH.cons (o := ⟨_, _, _, _, _, _⟩) rfl (fun Kq hKq => ?_) AllReadyH.nil
      rw [if_pos (by rfl)]
      refine op_box_sy hVL_2.out _ _ rfl (yC (.slice a0 P.length c0) (.slice a1 N.length c1) (.slice (some ⟨gML_1, 0, none⟩) P.length P.length) (.slice (some ⟨gML_2, 0, none⟩) N.length N.length) (List.replicate 400 0)) (rfl) (fun bML_3 _ hc => ?_)
      refine stepY hKq (show Sy w _ [(bML_3, yC (.slice a0 P.length c0) (.slice a1 N.length c1) (.slice (some ⟨gML_1, 0, none⟩) P.length P.length) (.slice (some ⟨gML_2, 0, none⟩) N.length N.length) (List.replicate 400 0), 150)] [⟨.slice (some ⟨gML_1, 0, none⟩) P.length P.length, 3, 1, P.length, List.replicate P.length (.int .i64 0)⟩, ⟨.slice (some ⟨gML_2, 0, none⟩) N.length N.length, 3, 1, N.length, List.replicate N.length (.int .i64 0)⟩] [] from hc) (fun _ hX => trivial) ?_
      intro VL_3 hc2 hHL_3
      have hVL_3 := Lib.hid hc2
      clear hc2 hKq Kq hVL_2 hc hHL_2
      try simp only [Act.put, List.setIfInBounds_toArray, List.set_cons_zero, List.set_cons_succ]
      refine wpAnyH_ready (rs := [10]) (by kernel_rfl) (by simp) ?_
      refine AllReadyH.cons (o := ⟨_, _, _, _, _, _⟩) rfl (fun Kq hKq => ?_) AllReadyH.nil
      go_simp
      refine stepY hKq (show Sy w _ [(bML_3, yC (.slice a0 P.length c0) (.slice a1 N.length c1) (.slice (some ⟨gML_1, 0, none⟩) P.length P.length) (.slice (some ⟨gML_2, 0, none⟩) N.length N.length) (List.replicate 400 0), 150)] [⟨.slice (some ⟨gML_1, 0, none⟩) P.length P.length, 3, 1, P.length, List.replicate P.length (.int .i64 0)⟩, ⟨.slice (some ⟨gML_2, 0, none⟩) N.length N.length, 3, 1, N.length, List.replicate N.length (.int .i64 0)⟩] [] from hVL_3.out) (fun _ hX => trivial) ?_
      intro VL_4 hc hHL_4
      have hVL_4 := Lib.hid hc
      clear hc hKq Kq hVL_3 hHL_3
      try simp only [Act.put, List.setIfInBounds_toArray, List.set_cons_zero, List.set_cons_succ]
      refine wpAnyH_done (by kernel_rfl) ?_ _
      go_wp2_with fail
      go_meet
      exact ⟨_, gML_1, gML_2, rfl, hVL_4⟩
    refine AllReadyH.cons (o := ⟨_, _, _, _, _, _⟩) rfl (fun Kq hKq => ?_) ?_
    · rw [if_pos (by rfl)]
      refine op_make_sy hVL_0.out _ 3 _ _ rfl (.int .i64 0) rfl 8 (N.length) rfl rfl und_int info_int (by omega) (by omega) (fun gML_1 _ hc => ?_)
      refine stepY hKq (show Sy w _ [] [⟨.slice (some ⟨gML_1, 0, none⟩) N.length N.length, 3, 1, N.length, List.replicate N.length (.int .i64 0)⟩] [] from hc) (fun _ hX => trivial) ?_
      intro VL_1 hc2 hHL_1
      have hVL_1 := Lib.hid hc2
      clear hc2 hKq Kq hVL_0 hc hHL_0
      try simp only [Act.put, List.setIfInBounds_toArray, List.set_cons_zero, List.set_cons_succ]
      refine wpAnyH_ready (rs := [4]) (by kernel_rfl) (by simp) ?_
      refine AllReadyH.cons (o := ⟨_, _, _, _, _, _⟩) rfl (fun Kq hKq => ?_) AllReadyH.nil
      rw [if_pos (by rfl)]
      refine op_make_sy hVL_1.out _ 3 _ _ rfl (.int .i64 0) rfl 8 (P.length) rfl rfl und_int info_int (by omega) (by omega) (fun gML_2 _ hc => ?_)
      refine stepY hKq (show Sy w _ [] [⟨.slice (some ⟨gML_1, 0, none⟩) N.length N.length, 3, 1, N.length, List.replicate N.length (.int .i64 0)⟩, ⟨.slice (some ⟨gML_2, 0, none⟩) P.length P.length, 3, 1, P.length, List.replicate P.length (.int .i64 0)⟩] [] from hc) (fun _ hX => trivial) ?_
      intro VL_2 hc2 hHL_2
      have hVL_2 := Lib.hid hc2
      clear hc2 hKq Kq hVL_1 hc hHL_1
      try simp only [Act.put, List.setIfInBounds_toArray, List.set_cons_zero, List.set_cons_succ]
      refine wpAnyH_take (i := 8) (oi := ⟨_, _, _, _, _, _⟩) (v := .agg (yC (.slice a0 P.length c0) (.slice a1 N.length c1) (.slice (some ⟨gML_2, 0, none⟩) P.length P.length) (.slice (some ⟨gML_1, 0, none⟩) N.length N.length) (List.replicate 400 0))) rfl (by kernel_rfl) (by kernel_rfl) (by kernel_rfl) (fun _ _ _ h => h) (Or.inl ⟨by rfl, ?_⟩) hHL_2 ?_
      · intro wS hSw; exact exec_yard rfl rfl rfl rfl rfl
      try simp only [Act.put, List.setIfInBounds_toArray, List.set_cons_zero, List.set_cons_succ]
      refine wpAnyH_ready (rs := [9]) (by kernel_rfl) (by simp) ?_
      refine AllReadyH.cons (o := ⟨_, _, _, _, _, _⟩) rfl (fun Kq hKq => ?_) AllReadyH.nil
      rw [if_pos (by rfl)]
      refine op_box_sy hVL_2.out _ _ rfl (yC (.slice a0 P.length c0) (.slice a1 N.length c1) (.slice (some ⟨gML_2, 0, none⟩) P.length P.length) (.slice (some ⟨gML_1, 0, none⟩) N.length N.length) (List.replicate 400 0)) (rfl) (fun bML_3 _ hc => ?_)
      refine stepY hKq (show Sy w _ [(bML_3, yC (.slice a0 P.length c0) (.slice a1 N.length c1) (.slice (some ⟨gML_2, 0, none⟩) P.length P.length) (.slice (some ⟨gML_1, 0, none⟩) N.length N.length) (List.replicate 400 0), 150)] [⟨.slice (some ⟨gML_1, 0, none⟩) N.length N.length, 3, 1, N.length, List.replicate N.length (.int .i64 0)⟩, ⟨.slice (some ⟨gML_2, 0, none⟩) P.length P.length, 3, 1, P.length, List.replicate P.length (.int .i64 0)⟩] [] from hc) (fun _ hX => trivial) ?_
      intro VL_3 hc2 hHL_3
      have hVL_3 := Lib.hid hc2
      clear hc2 hKq Kq hVL_2 hc hHL_2
      try simp only [Act.put, List.setIfInBounds_toArray, List.set_cons_zero, List.set_cons_succ]
      refine wpAnyH_ready (rs := [10]) (by kernel_rfl) (by simp) ?_
      refine AllReadyH.cons (o := ⟨_, _, _, _, _, _⟩) rfl (fun Kq hKq => ?_) AllReadyH.nil
      go_simp
      refine stepY hKq (show Sy w _ [(bML_3, yC (.slice a0 P.length c0) (.slice a1 N.length c1) (.slice (some ⟨gML_2, 0, none⟩) P.length P.length) (.slice (some ⟨gML_1, 0, none⟩) N.length N.length) (List.replicate 400 0), 150)] [⟨.slice (some ⟨gML_1, 0, none⟩) N.length N.length, 3, 1, N.length, List.replicate N.length (.int .i64 0)⟩, ⟨.slice (some ⟨gML_2, 0, none⟩) P.length P.length, 3, 1, P.length, List.replicate P.length (.int .i64 0)⟩] [] from hVL_3.out) (fun _ hX => trivial) ?_
      intro VL_4 hc hHL_4
      have hVL_4 := Lib.hid hc
      clear hc hKq Kq hVL_3 hHL_3
      try simp only [Act.put, List.setIfInBounds_toArray, List.set_cons_zero, List.set_cons_succ]
      refine wpAnyH_done (by kernel_rfl) ?_ _
      go_wp2_with fail
      go_meet
      exact ⟨_, gML_2, gML_1, rfl, Lib.hid hVL_4.out.oswap⟩
    exact AllReadyH.nil
  case rest =>
    obtain ⟨bY, g2, g3, rfl, hE1⟩ := hcut
    have hS : Hid (Sy w wc [(bY, yC (.slice a0 P.length c0) (.slice a1 N.length c1) (.slice (some ⟨g2, 0, none⟩) P.length P.length) (.slice (some ⟨g3, 0, none⟩) N.length N.length) (List.replicate 400 0), 150)]
      [⟨.slice (some ⟨g2, 0, none⟩) P.length P.length, 3, 1, P.length, L1 (List.replicate P.length 0)⟩, ⟨.slice (some ⟨g3, 0, none⟩) N.length N.length, 3, 1, N.length, L1 (List.replicate N.length 0)⟩] []) := by
      unfold L1
      rw [List.map_replicate, List.map_replicate]
      exact hE1
    have HI0 := Lib.hid (show YInv P.length N.length (hA P) (hB N) (costC P N) (XF (List.replicate 400 0)) (fun i => (List.replicate P.length (0 : Int)).getD i 0) (fun k => (List.replicate N.length (0 : Int)).getD k 0) from
      (y_start hP20 hN20 (hcost HGD.out) (fun i hi => by rw [hA_at hi]; exact (HGD.out.2.2.1 _ (List.getElem_mem hi)).2.1.1) (fun k hk => by rw [hB_at hk]; exact (HGD.out.2.2.2 _ (List.getElem_mem hk)).2.1)).congr
        (fun i k _ _ => by unfold XF; rw [rep0]) (fun i _ => by rw [rep0]) (fun k _ => by rw [rep0]))
    clear hE1 hC
    go_wp2_with fail
    go_loopg [] (lackN N (List.replicate N.length 0)) (fun gn wr => ∃ X G T : List Int, gn = lackN N T ∧ X.length = 400 ∧ Hid (YInv P.length N.length (hA P) (hB N) (costC P N) (XF X) (fun i => G.getD i 0) (fun k => T.getD k 0)) ∧
      Hid (Sy w wr [(bY, yC (.slice a0 P.length c0) (.slice a1 N.length c1) (.slice (some ⟨g2, 0, none⟩) P.length P.length) (.slice (some ⟨g3, 0, none⟩) N.length N.length) X, 150)]
        [⟨.slice (some ⟨g2, 0, none⟩) P.length P.length, 3, 1, P.length, L1 G⟩, ⟨.slice (some ⟨g3, 0, none⟩) N.length N.length, 3, 1, N.length, L1 T⟩] []))
    case atStart => exact ⟨_, _, _, rfl, by simp, HI0, hS⟩
    case round =>
      clear hS HI0
      obtain ⟨X, G, T, hgn, hX4, hI, hS⟩ := hrel
      have hYd := yard_of hS.out 0 0 1 rfl rfl rfl hX4 hP20 hN20 HSP.out HSN.out
      have HC := Lib.hid (chain_any wr bY a0 a1 (some ⟨g2, 0, none⟩) (some ⟨g3, 0, none⟩) c0 c1 P.length N.length P N G T (XF X) hYd HGD.out HE.out hI.out)
      have HL := Lib.hid (And.intro hYd.sg.n1 hYd.st.n1)
      have HGN := Lib.hid hgn
      clear hYd hgn
      go_wp2_with fail
      refine HC.out.mono ?_
      rintro e V ⟨l, a, c, rfl, hrow, hch, hb⟩
      have hS2 := Lib.hid (hS.out.adopt hb hrow)
      have HCH := Lib.hid hch
      clear hrow hch hb hS HC
      by_cases hl0 : l = []
      · have HT := Lib.hid (show ∀ k, k < N.length → T.getD k 0 = hB N k from by
          rcases HCH.out with ⟨_, h⟩ | ⟨s, n, k, p0, p1, _, _, _, _, _, _, _, _, _, _, h⟩
          · exact h
          · rw [hl0] at h; cases h)
        subst hl0
        go_wp2
        go_ret
        exact ⟨bY, g2, g3, X, G, T, rfl, yard_of hS2.out 0 0 1 rfl rfl rfl hX4 hP20 hN20 HSP.out HSN.out, hI.out, HT.out, hS2.out.be⟩
      · obtain ⟨q1, q2, q3, k, r, q4, q5, q6, q7, q8, q9, q10⟩ := chain_facts hI.out HE.out HCH.out hl0
        obtain ⟨m, hm⟩ : ∃ m, l.length = m + 1 := ⟨l.length - 1, by omega⟩
        rw [hm, Nat.add_sub_cancel] at q5
        have hfx := LH_cells (l := l) (k := 0) (by omega)
        have hzx := LH_cells (l := l) (k := m) (by omega)
        have HZM := Lib.hid (And.intro (q3 _ (getD_mem (show 0 < l.length by omega))) (q3 _ (getD_mem (show m < l.length by omega))))
        have HQ := Lib.hid (And.intro q3 (And.intro q8 (And.intro q9 q10)))
        have hm39 : m + 1 ≤ 39 := by omega
        obtain ⟨gl, rfl, hcl⟩ := hS2.out.oaddr 2 rfl (by omega)
        have HLM := Lib.hid hm
        rw [hm] at hS2
        rw [hm]
        have HK := Lib.hid (And.intro q4 q5)
        have HKR := Lib.hid (And.intro q6 q7)
        clear q1 q2 q3 q4 q5 q8 q9 q10 HCH hl0 hm
        generalize l.getD 0 hop0 = f at *
        generalize l.getD m hop0 = z at *
        obtain ⟨fi, fk, fb, fc⟩ := f
        obtain ⟨zi, zk, zb, zc⟩ := z
        dsimp only at hfx hzx HK
        obtain ⟨rfl, rfl⟩ := HK.out
        have HFX := Lib.hid hfx
        have HZX := Lib.hid hzx
        have hS3 : Hid (Sy w V [(bY, yC (.slice a0 P.length c0) (.slice a1 N.length c1) (.slice (some ⟨g2, 0, none⟩) P.length P.length) (.slice (some ⟨g3, 0, none⟩) N.length N.length) X, 150)]
          [⟨.slice (some ⟨g2, 0, none⟩) P.length P.length, 3, 1, P.length, L1 G⟩, ⟨.slice (some ⟨g3, 0, none⟩) N.length N.length, 3, 1, N.length, L1 T⟩, ⟨.slice (some ⟨gl, 0, none⟩) (m + 1) c, 156, 4, m + 1, LH l⟩] []) := hS2
        clear hfx hzx hS2 HK
        have hwm : IntKind.i64.wrap ((m : Nat) : Int) = (m : Int) := by rw [IntKind.wrap_i64]; omega
        have hm0 : (0 : Int) ≤ (m : Int) := by omega
        have hm1 : (m : Int) < (m : Int) + 1 := by omega
        go_upto_region 5 with fail
        go_cut [7, 8] (fun s7 s8 wx => ∃ (bf bz : Nat), s7 = .pointer (some ⟨bf, 0, none⟩) ∧ s8 = .pointer (some ⟨bz, 0, none⟩) ∧ Hid (Sy w wx [(bY, yC (.slice a0 P.length c0) (.slice a1 N.length c1) (.slice (some ⟨g2, 0, none⟩) P.length P.length) (.slice (some ⟨g3, 0, none⟩) N.length N.length) X, 150), (bf, #[.int .i64 fi, .int .i64 fk, .bool fb, .int .i64 fc], 156), (bz, #[.int .i64 zi, .int .i64 zk, .bool zb, .int .i64 zc], 156)]
          [⟨.slice (some ⟨g2, 0, none⟩) P.length P.length, 3, 1, P.length, L1 G⟩, ⟨.slice (some ⟨g3, 0, none⟩) N.length N.length, 3, 1, N.length, L1 T⟩, ⟨.slice (some ⟨gl, 0, none⟩) (m + 1) c, 156, 4, m + 1, LH l⟩] []))
        case first =>
          refine wp_region_held_drew (S := (fun w' => w'.cell? ⟨gl, 0, none⟩ = some (.int .i64 fi) ∧ w'.cell? ⟨gl, 1, none⟩ = some (.int .i64 fk) ∧ w'.cell? ⟨gl, 2, none⟩ = some (.bool fb) ∧ w'.cell? ⟨gl, 3, none⟩ = some (.int .i64 fc) ∧ w'.cell? ⟨gl, m * 4, none⟩ = some (.int .i64 zi) ∧ w'.cell? ⟨gl, m * 4 + 1, none⟩ = some (.int .i64 zk) ∧ w'.cell? ⟨gl, m * 4 + 2, none⟩ = some (.bool zb) ∧ w'.cell? ⟨gl, m * 4 + 3, none⟩ = some (.int .i64 zc) ∧ True)) (by kernel_rfl) ⟨hS3.out.drew.rcell 2 rfl HFX.out.1, hS3.out.drew.rcell 2 rfl HFX.out.2.1, hS3.out.drew.rcell 2 rfl HFX.out.2.2.1, hS3.out.drew.rcell 2 rfl HFX.out.2.2.2, hS3.out.drew.rcell 2 rfl HZX.out.1, hS3.out.drew.rcell 2 rfl HZX.out.2.1, hS3.out.drew.rcell 2 rfl HZX.out.2.2.1, hS3.out.drew.rcell 2 rfl HZX.out.2.2.2, trivial⟩ (fun hH => ?_)
          refine wpAnyH_geny (show Sy w _ [(bY, yC (.slice a0 P.length c0) (.slice a1 N.length c1) (.slice (some ⟨g2, 0, none⟩) P.length P.length) (.slice (some ⟨g3, 0, none⟩) N.length N.length) X, 150)] [⟨.slice (some ⟨g2, 0, none⟩) P.length P.length, 3, 1, P.length, L1 G⟩, ⟨.slice (some ⟨g3, 0, none⟩) N.length N.length, 3, 1, N.length, L1 T⟩, ⟨.slice (some ⟨gl, 0, none⟩) (m + 1) c, 156, 4, m + 1, LH l⟩] [] from hS3.out.drew) hH ?_
          intro VM_0 hc hHM_0
          have hVM_0 := Lib.hid hc
          clear hc hH hS3
          refine wpAnyH_take (i := 0) (oi := ⟨_, _, _, _, _, _⟩) (v := ?_) rfl (by kernel_rfl) (by kernel_rfl) (by kernel_rfl) (fun _ _ _ h => h) (Or.inl ⟨by rfl, ?_⟩) hHM_0 ?_
          rotate_left
          · intro wS hSw; (try dsimp only at hSw); go_simp; try with_reducible rfl
          try simp only [Act.put, List.setIfInBounds_toArray, List.set_cons_zero, List.set_cons_succ]
          refine wpAnyH_take (i := 1) (oi := ⟨_, _, _, _, _, _⟩) (v := ?_) rfl (by kernel_rfl) (by kernel_rfl) (by kernel_rfl) (fun _ _ _ h => h) (Or.inl ⟨by rfl, ?_⟩) hHM_0 ?_
          rotate_left
          · intro wS hSw; (try dsimp only at hSw); go_simp; try with_reducible rfl
          try simp only [Act.put, List.setIfInBounds_toArray, List.set_cons_zero, List.set_cons_succ]
          refine wpAnyH_take (i := 2) (oi := ⟨_, _, _, _, _, _⟩) (v := ?_) rfl (by kernel_rfl) (by kernel_rfl) (by kernel_rfl) (fun _ _ _ h => h) (Or.inl ⟨by rfl, ?_⟩) hHM_0 ?_
          rotate_left
          · intro wS hSw; (try dsimp only at hSw); go_simp; try with_reducible rfl
          try simp only [Act.put, List.setIfInBounds_toArray, List.set_cons_zero, List.set_cons_succ]
          refine wpAnyH_take (i := 3) (oi := ⟨_, _, _, _, _, _⟩) (v := ?_) rfl (by kernel_rfl) (by kernel_rfl) (by kernel_rfl) (fun _ _ _ h => h) (Or.inl ⟨by rfl, ?_⟩) hHM_0 ?_
          rotate_left
          · intro wS hSw; (try dsimp only at hSw); go_simp; try with_reducible rfl
          try simp only [Act.put, List.setIfInBounds_toArray, List.set_cons_zero, List.set_cons_succ]
          refine wpAnyH_take (i := 4) (oi := ⟨_, _, _, _, _, _⟩) (v := ?_) rfl (by kernel_rfl) (by kernel_rfl) (by kernel_rfl) (fun _ _ _ h => h) (Or.inl ⟨by rfl, ?_⟩) hHM_0 ?_
          rotate_left
          · intro wS hSw; (try dsimp only at hSw); go_simp; try with_reducible rfl
          try simp only [Act.put, List.setIfInBounds_toArray, List.set_cons_zero, List.set_cons_succ]
          refine wpAnyH_take (i := 5) (oi := ⟨_, _, _, _, _, _⟩) (v := ?_) rfl (by kernel_rfl) (by kernel_rfl) (by kernel_rfl) (fun _ _ _ h => h) (Or.inl ⟨by rfl, ?_⟩) hHM_0 ?_
          rotate_left
          · intro wS hSw; (try dsimp only at hSw); go_simp; try with_reducible rfl
          try simp only [Act.put, List.setIfInBounds_toArray, List.set_cons_zero, List.set_cons_succ]
          refine wpAnyH_take (i := 6) (oi := ⟨_, _, _, _, _, _⟩) (v := ?_) rfl (by kernel_rfl) (by kernel_rfl) (by kernel_rfl) (fun _ _ _ h => h) (Or.inl ⟨by rfl, ?_⟩) hHM_0 ?_
          rotate_left
          · intro wS hSw; (try dsimp only at hSw); go_simp; try with_reducible rfl
          try simp only [Act.put, List.setIfInBounds_toArray, List.set_cons_zero, List.set_cons_succ]
          refine wpAnyH_take (i := 7) (oi := ⟨_, _, _, _, _, _⟩) (v := ?_) rfl (by kernel_rfl) (by kernel_rfl) (by kernel_rfl) (fun _ _ _ h => h) (Or.inl ⟨by rfl, ?_⟩) hHM_0 ?_
          rotate_left
          · intro wS hSw; (try dsimp only at hSw); go_simp; try with_reducible rfl
          try simp only [Act.put, List.setIfInBounds_toArray, List.set_cons_zero, List.set_cons_succ]
          refine wpAnyH_take (i := 8) (oi := ⟨_, _, _, _, _, _⟩) (v := ?_) rfl (by kernel_rfl) (by kernel_rfl) (by kernel_rfl) (fun _ _ _ h => h) (Or.inl ⟨by rfl, ?_⟩) hHM_0 ?_
          rotate_left
          · intro wS hSw; (try dsimp only at hSw); go_simp; try with_reducible rfl
          try simp only [Act.put, List.setIfInBounds_toArray, List.set_cons_zero, List.set_cons_succ]
          refine wpAnyH_ready (rs := [9, 10]) (by kernel_rfl) (by simp) ?_
          refine AllReadyH.cons (o := ⟨_, _, _, _, _, _⟩) rfl (fun Kq hKq => ?_) ?_
          · go_simp
            refine stepY hKq (show Sy w _ [(bY, yC (.slice a0 P.length c0) (.slice a1 N.length c1) (.slice (some ⟨g2, 0, none⟩) P.length P.length) (.slice (some ⟨g3, 0, none⟩) N.length N.length) X, 150), (VM_0.heap.size, #[.int .i64 0, .int .i64 0, .bool false, .int .i64 0], 156)] [⟨.slice (some ⟨g2, 0, none⟩) P.length P.length, 3, 1, P.length, L1 G⟩, ⟨.slice (some ⟨g3, 0, none⟩) N.length N.length, 3, 1, N.length, L1 T⟩, ⟨.slice (some ⟨gl, 0, none⟩) (m + 1) c, 156, 4, m + 1, LH l⟩] [] from (hVM_0.out.al VM_0.heap.size #[.int .i64 0, .int .i64 0, .bool false, .int .i64 0] 156 rfl)) (fun _ hX => ⟨hX.rcell 2 rfl HFX.out.1, hX.rcell 2 rfl HFX.out.2.1, hX.rcell 2 rfl HFX.out.2.2.1, hX.rcell 2 rfl HFX.out.2.2.2, hX.rcell 2 rfl HZX.out.1, hX.rcell 2 rfl HZX.out.2.1, hX.rcell 2 rfl HZX.out.2.2.1, hX.rcell 2 rfl HZX.out.2.2.2, trivial⟩) ?_
            intro VM_1 hc hHM_1
            have hVM_1 := Lib.hid hc
            clear hc hKq Kq hVM_0 hHM_0
            try simp only [Act.put, List.setIfInBounds_toArray, List.set_cons_zero, List.set_cons_succ]
            refine wpAnyH_ready (rs := [10]) (by kernel_rfl) (by simp) ?_
            refine AllReadyH.cons (o := ⟨_, _, _, _, _, _⟩) rfl (fun Kq hKq => ?_) AllReadyH.nil
            go_simp
            refine stepY hKq (show Sy w _ [(bY, yC (.slice a0 P.length c0) (.slice a1 N.length c1) (.slice (some ⟨g2, 0, none⟩) P.length P.length) (.slice (some ⟨g3, 0, none⟩) N.length N.length) X, 150), (VM_0.heap.size, #[.int .i64 0, .int .i64 0, .bool false, .int .i64 0], 156), (VM_1.heap.size, #[.int .i64 0, .int .i64 0, .bool false, .int .i64 0], 156)] [⟨.slice (some ⟨g2, 0, none⟩) P.length P.length, 3, 1, P.length, L1 G⟩, ⟨.slice (some ⟨g3, 0, none⟩) N.length N.length, 3, 1, N.length, L1 T⟩, ⟨.slice (some ⟨gl, 0, none⟩) (m + 1) c, 156, 4, m + 1, LH l⟩] [] from (hVM_1.out.al VM_1.heap.size #[.int .i64 0, .int .i64 0, .bool false, .int .i64 0] 156 rfl)) (fun _ hX => ⟨hX.rcell 2 rfl HFX.out.1, hX.rcell 2 rfl HFX.out.2.1, hX.rcell 2 rfl HFX.out.2.2.1, hX.rcell 2 rfl HFX.out.2.2.2, hX.rcell 2 rfl HZX.out.1, hX.rcell 2 rfl HZX.out.2.1, hX.rcell 2 rfl HZX.out.2.2.1, hX.rcell 2 rfl HZX.out.2.2.2, trivial⟩) ?_
            intro VM_2 hc hHM_2
            have hVM_2 := Lib.hid hc
            clear hc hKq Kq hVM_1 hHM_1
            try simp only [Act.put, List.setIfInBounds_toArray, List.set_cons_zero, List.set_cons_succ]
            refine wpAnyH_ready (rs := [11]) (by kernel_rfl) (by simp) ?_
            refine AllReadyH.cons (o := ⟨_, _, _, _, _, _⟩) rfl (fun Kq hKq => ?_) AllReadyH.nil
            have cQ0 := hVM_2.out.cell 1 0 rfl rfl
            have fQ0 := hVM_2.out.free 1 0 rfl
            have cQ1 := hVM_2.out.cell 1 1 rfl rfl
            have fQ1 := hVM_2.out.free 1 1 rfl
            have cQ2 := hVM_2.out.cell 1 2 rfl rfl
            have fQ2 := hVM_2.out.free 1 2 rfl
            have cQ3 := hVM_2.out.cell 1 3 rfl rfl
            have fQ3 := hVM_2.out.free 1 3 rfl
            go_simp
            refine stepY hKq (show Sy w _ [(bY, yC (.slice a0 P.length c0) (.slice a1 N.length c1) (.slice (some ⟨g2, 0, none⟩) P.length P.length) (.slice (some ⟨g3, 0, none⟩) N.length N.length) X, 150), (VM_0.heap.size, #[.int .i64 fi, .int .i64 fk, .bool fb, .int .i64 fc], 156), (VM_1.heap.size, #[.int .i64 0, .int .i64 0, .bool false, .int .i64 0], 156)] [⟨.slice (some ⟨g2, 0, none⟩) P.length P.length, 3, 1, P.length, L1 G⟩, ⟨.slice (some ⟨g3, 0, none⟩) N.length N.length, 3, 1, N.length, L1 T⟩, ⟨.slice (some ⟨gl, 0, none⟩) (m + 1) c, 156, 4, m + 1, LH l⟩] [] from (hVM_2.out |>.set (j := 0) (v := .int .i64 fi) 1 rfl |>.set (j := 1) (v := .int .i64 fk) 1 rfl |>.set (j := 2) (v := .bool fb) 1 rfl |>.set (j := 3) (v := .int .i64 fc) 1 rfl)) (fun _ hX => ⟨hX.rcell 2 rfl HFX.out.1, hX.rcell 2 rfl HFX.out.2.1, hX.rcell 2 rfl HFX.out.2.2.1, hX.rcell 2 rfl HFX.out.2.2.2, hX.rcell 2 rfl HZX.out.1, hX.rcell 2 rfl HZX.out.2.1, hX.rcell 2 rfl HZX.out.2.2.1, hX.rcell 2 rfl HZX.out.2.2.2, trivial⟩) ?_
            intro VM_3 hc hHM_3
            have hVM_3 := Lib.hid hc
            clear hc hKq Kq hVM_2 cQ0 fQ0 cQ1 fQ1 cQ2 fQ2 cQ3 fQ3 hHM_2
            try simp only [Act.put, List.setIfInBounds_toArray, List.set_cons_zero, List.set_cons_succ]
            refine wpAnyH_ready (rs := [12]) (by kernel_rfl) (by simp) ?_
            refine AllReadyH.cons (o := ⟨_, _, _, _, _, _⟩) rfl (fun Kq hKq => ?_) AllReadyH.nil
            have cQ0 := hVM_3.out.cell 2 0 rfl rfl
            have fQ0 := hVM_3.out.free 2 0 rfl
            have cQ1 := hVM_3.out.cell 2 1 rfl rfl
            have fQ1 := hVM_3.out.free 2 1 rfl
            have cQ2 := hVM_3.out.cell 2 2 rfl rfl
            have fQ2 := hVM_3.out.free 2 2 rfl
            have cQ3 := hVM_3.out.cell 2 3 rfl rfl
            have fQ3 := hVM_3.out.free 2 3 rfl
            go_simp
            refine stepY hKq (show Sy w _ [(bY, yC (.slice a0 P.length c0) (.slice a1 N.length c1) (.slice (some ⟨g2, 0, none⟩) P.length P.length) (.slice (some ⟨g3, 0, none⟩) N.length N.length) X, 150), (VM_0.heap.size, #[.int .i64 fi, .int .i64 fk, .bool fb, .int .i64 fc], 156), (VM_1.heap.size, #[.int .i64 zi, .int .i64 zk, .bool zb, .int .i64 zc], 156)] [⟨.slice (some ⟨g2, 0, none⟩) P.length P.length, 3, 1, P.length, L1 G⟩, ⟨.slice (some ⟨g3, 0, none⟩) N.length N.length, 3, 1, N.length, L1 T⟩, ⟨.slice (some ⟨gl, 0, none⟩) (m + 1) c, 156, 4, m + 1, LH l⟩] [] from (hVM_3.out |>.set (j := 0) (v := .int .i64 zi) 2 rfl |>.set (j := 1) (v := .int .i64 zk) 2 rfl |>.set (j := 2) (v := .bool zb) 2 rfl |>.set (j := 3) (v := .int .i64 zc) 2 rfl)) (fun _ hX => ⟨hX.rcell 2 rfl HFX.out.1, hX.rcell 2 rfl HFX.out.2.1, hX.rcell 2 rfl HFX.out.2.2.1, hX.rcell 2 rfl HFX.out.2.2.2, hX.rcell 2 rfl HZX.out.1, hX.rcell 2 rfl HZX.out.2.1, hX.rcell 2 rfl HZX.out.2.2.1, hX.rcell 2 rfl HZX.out.2.2.2, trivial⟩) ?_
            intro VM_4 hc hHM_4
            have hVM_4 := Lib.hid hc
            clear hc hKq Kq hVM_3 cQ0 fQ0 cQ1 fQ1 cQ2 fQ2 cQ3 fQ3 hHM_3
            try simp only [Act.put, List.setIfInBounds_toArray, List.set_cons_zero, List.set_cons_succ]
            refine wpAnyH_done (by kernel_rfl) ?_ _
            go_wp2_with fail
            go_meet
            exact ⟨_, _, rfl, rfl, hVM_4⟩
          refine AllReadyH.cons (o := ⟨_, _, _, _, _, _⟩) rfl (fun Kq hKq => ?_) ?_
          · go_simp
            refine stepY hKq (show Sy w _ [(bY, yC (.slice a0 P.length c0) (.slice a1 N.length c1) (.slice (some ⟨g2, 0, none⟩) P.length P.length) (.slice (some ⟨g3, 0, none⟩) N.length N.length) X, 150), (VM_0.heap.size, #[.int .i64 0, .int .i64 0, .bool false, .int .i64 0], 156)] [⟨.slice (some ⟨g2, 0, none⟩) P.length P.length, 3, 1, P.length, L1 G⟩, ⟨.slice (some ⟨g3, 0, none⟩) N.length N.length, 3, 1, N.length, L1 T⟩, ⟨.slice (some ⟨gl, 0, none⟩) (m + 1) c, 156, 4, m + 1, LH l⟩] [] from (hVM_0.out.al VM_0.heap.size #[.int .i64 0, .int .i64 0, .bool false, .int .i64 0] 156 rfl)) (fun _ hX => ⟨hX.rcell 2 rfl HFX.out.1, hX.rcell 2 rfl HFX.out.2.1, hX.rcell 2 rfl HFX.out.2.2.1, hX.rcell 2 rfl HFX.out.2.2.2, hX.rcell 2 rfl HZX.out.1, hX.rcell 2 rfl HZX.out.2.1, hX.rcell 2 rfl HZX.out.2.2.1, hX.rcell 2 rfl HZX.out.2.2.2, trivial⟩) ?_
            intro VM_1 hc hHM_1
            have hVM_1 := Lib.hid hc
            clear hc hKq Kq hVM_0 hHM_0
            try simp only [Act.put, List.setIfInBounds_toArray, List.set_cons_zero, List.set_cons_succ]
            refine wpAnyH_ready (rs := [9]) (by kernel_rfl) (by simp) ?_
            refine AllReadyH.cons (o := ⟨_, _, _, _, _, _⟩) rfl (fun Kq hKq => ?_) AllReadyH.nil
            go_simp
            refine stepY hKq (show Sy w _ [(bY, yC (.slice a0 P.length c0) (.slice a1 N.length c1) (.slice (some ⟨g2, 0, none⟩) P.length P.length) (.slice (some ⟨g3, 0, none⟩) N.length N.length) X, 150), (VM_0.heap.size, #[.int .i64 0, .int .i64 0, .bool false, .int .i64 0], 156), (VM_1.heap.size, #[.int .i64 0, .int .i64 0, .bool false, .int .i64 0], 156)] [⟨.slice (some ⟨g2, 0, none⟩) P.length P.length, 3, 1, P.length, L1 G⟩, ⟨.slice (some ⟨g3, 0, none⟩) N.length N.length, 3, 1, N.length, L1 T⟩, ⟨.slice (some ⟨gl, 0, none⟩) (m + 1) c, 156, 4, m + 1, LH l⟩] [] from (hVM_1.out.al VM_1.heap.size #[.int .i64 0, .int .i64 0, .bool false, .int .i64 0] 156 rfl)) (fun _ hX => ⟨hX.rcell 2 rfl HFX.out.1, hX.rcell 2 rfl HFX.out.2.1, hX.rcell 2 rfl HFX.out.2.2.1, hX.rcell 2 rfl HFX.out.2.2.2, hX.rcell 2 rfl HZX.out.1, hX.rcell 2 rfl HZX.out.2.1, hX.rcell 2 rfl HZX.out.2.2.1, hX.rcell 2 rfl HZX.out.2.2.2, trivial⟩) ?_
            intro VM_2 hc hHM_2
            have hVM_2 := Lib.hid hc
            clear hc hKq Kq hVM_1 hHM_1
            try simp only [Act.put, List.setIfInBounds_toArray, List.set_cons_zero, List.set_cons_succ]
            refine wpAnyH_ready (rs := [11]) (by kernel_rfl) (by simp) ?_
            refine AllReadyH.cons (o := ⟨_, _, _, _, _, _⟩) rfl (fun Kq hKq => ?_) AllReadyH.nil
            have cQ0 := hVM_2.out.cell 2 0 rfl rfl
            have fQ0 := hVM_2.out.free 2 0 rfl
            have cQ1 := hVM_2.out.cell 2 1 rfl rfl
            have fQ1 := hVM_2.out.free 2 1 rfl
            have cQ2 := hVM_2.out.cell 2 2 rfl rfl
            have fQ2 := hVM_2.out.free 2 2 rfl
            have cQ3 := hVM_2.out.cell 2 3 rfl rfl
            have fQ3 := hVM_2.out.free 2 3 rfl
            go_simp
            refine stepY hKq (show Sy w _ [(bY, yC (.slice a0 P.length c0) (.slice a1 N.length c1) (.slice (some ⟨g2, 0, none⟩) P.length P.length) (.slice (some ⟨g3, 0, none⟩) N.length N.length) X, 150), (VM_0.heap.size, #[.int .i64 0, .int .i64 0, .bool false, .int .i64 0], 156), (VM_1.heap.size, #[.int .i64 fi, .int .i64 fk, .bool fb, .int .i64 fc], 156)] [⟨.slice (some ⟨g2, 0, none⟩) P.length P.length, 3, 1, P.length, L1 G⟩, ⟨.slice (some ⟨g3, 0, none⟩) N.length N.length, 3, 1, N.length, L1 T⟩, ⟨.slice (some ⟨gl, 0, none⟩) (m + 1) c, 156, 4, m + 1, LH l⟩] [] from (hVM_2.out |>.set (j := 0) (v := .int .i64 fi) 2 rfl |>.set (j := 1) (v := .int .i64 fk) 2 rfl |>.set (j := 2) (v := .bool fb) 2 rfl |>.set (j := 3) (v := .int .i64 fc) 2 rfl)) (fun _ hX => ⟨hX.rcell 2 rfl HFX.out.1, hX.rcell 2 rfl HFX.out.2.1, hX.rcell 2 rfl HFX.out.2.2.1, hX.rcell 2 rfl HFX.out.2.2.2, hX.rcell 2 rfl HZX.out.1, hX.rcell 2 rfl HZX.out.2.1, hX.rcell 2 rfl HZX.out.2.2.1, hX.rcell 2 rfl HZX.out.2.2.2, trivial⟩) ?_
            intro VM_3 hc hHM_3
            have hVM_3 := Lib.hid hc
            clear hc hKq Kq hVM_2 cQ0 fQ0 cQ1 fQ1 cQ2 fQ2 cQ3 fQ3 hHM_2
            try simp only [Act.put, List.setIfInBounds_toArray, List.set_cons_zero, List.set_cons_succ]
            refine wpAnyH_ready (rs := [12]) (by kernel_rfl) (by simp) ?_
            refine AllReadyH.cons (o := ⟨_, _, _, _, _, _⟩) rfl (fun Kq hKq => ?_) AllReadyH.nil
            have cQ0 := hVM_3.out.cell 1 0 rfl rfl
            have fQ0 := hVM_3.out.free 1 0 rfl
            have cQ1 := hVM_3.out.cell 1 1 rfl rfl
            have fQ1 := hVM_3.out.free 1 1 rfl
            have cQ2 := hVM_3.out.cell 1 2 rfl rfl
            have fQ2 := hVM_3.out.free 1 2 rfl
            have cQ3 := hVM_3.out.cell 1 3 rfl rfl
            have fQ3 := hVM_3.out.free 1 3 rfl
            go_simp
            refine stepY hKq (show Sy w _ [(bY, yC (.slice a0 P.length c0) (.slice a1 N.length c1) (.slice (some ⟨g2, 0, none⟩) P.length P.length) (.slice (some ⟨g3, 0, none⟩) N.length N.length) X, 150), (VM_0.heap.size, #[.int .i64 zi, .int .i64 zk, .bool zb, .int .i64 zc], 156), (VM_1.heap.size, #[.int .i64 fi, .int .i64 fk, .bool fb, .int .i64 fc], 156)] [⟨.slice (some ⟨g2, 0, none⟩) P.length P.length, 3, 1, P.length, L1 G⟩, ⟨.slice (some ⟨g3, 0, none⟩) N.length N.length, 3, 1, N.length, L1 T⟩, ⟨.slice (some ⟨gl, 0, none⟩) (m + 1) c, 156, 4, m + 1, LH l⟩] [] from (hVM_3.out |>.set (j := 0) (v := .int .i64 zi) 1 rfl |>.set (j := 1) (v := .int .i64 zk) 1 rfl |>.set (j := 2) (v := .bool zb) 1 rfl |>.set (j := 3) (v := .int .i64 zc) 1 rfl)) (fun _ hX => ⟨hX.rcell 2 rfl HFX.out.1, hX.rcell 2 rfl HFX.out.2.1, hX.rcell 2 rfl HFX.out.2.2.1, hX.rcell 2 rfl HFX.out.2.2.2, hX.rcell 2 rfl HZX.out.1, hX.rcell 2 rfl HZX.out.2.1, hX.rcell 2 rfl HZX.out.2.2.1, hX.rcell 2 rfl HZX.out.2.2.2, trivial⟩) ?_
            intro VM_4 hc hHM_4
            have hVM_4 := Lib.hid hc
            clear hc hKq Kq hVM_3 cQ0 fQ0 cQ1 fQ1 cQ2 fQ2 cQ3 fQ3 hHM_3
            try simp only [Act.put, List.setIfInBounds_toArray, List.set_cons_zero, List.set_cons_succ]
            refine wpAnyH_done (by kernel_rfl) ?_ _
            go_wp2_with fail
            go_meet
            exact ⟨_, _, rfl, rfl, Lib.hid hVM_4.out.bswap⟩
          exact AllReadyH.nil
        case rest =>
          obtain ⟨bf, bz, rfl, rfl, hS⟩ := hcut
          clear hS3
          have hsp := hS.out.sx HSP.out
          have hsn := hS.out.sx HSN.out
          obtain ⟨g0, o0, rfl⟩ := hsp.addr (by omega)
          obtain ⟨g1, o1, rfl⟩ := hsn.addr (by omega)
          obtain ⟨_, u1, _⟩ := hsp.at3 q7
          obtain ⟨_, v1⟩ := hsn.at2 q6
          have hGl : zi < G.length := by rw [← HL.out.1]; exact q7
          have hTl : fk < T.length := by rw [← HL.out.2]; exact q6
          have u2 := (hS.out.osx 0 rfl).at1 hGl
          have v2 := (hS.out.osx 1 rfl).at1 hTl
          rw [Nat.zero_add] at u2 v2
          have f0 := hS.out.cell 1 0 rfl rfl
          have f1 := hS.out.cell 1 1 rfl rfl
          have z0 := hS.out.cell 2 0 rfl rfl
          have z1 := hS.out.cell 2 1 rfl rfl
          have y2 : wc.cell? ⟨bY, 2, none⟩ = some (.slice (some ⟨g2, 0, none⟩) P.length P.length) := hS.out.cell 0 2 rfl rfl
          have y3 : wc.cell? ⟨bY, 3, none⟩ = some (.slice (some ⟨g3, 0, none⟩) N.length N.length) := hS.out.cell 0 3 rfl rfl
          have HAz := Lib.hid (And.intro (hA_at q7) (show G.getD zi 0 = G[zi] from getD_at hGl))
          have HBf := Lib.hid (And.intro (hB_at q6) (show T.getD fk 0 = T[fk] from getD_at hTl))
          have hq8 := HQ.out.2.1
          have hq9 := HQ.out.2.2.1
          have HX0 := Lib.hid (And.intro hI.out.x0 (And.intro (fun i k hi hk => hI.out.xle (i := i) (k := k) hi hk) (And.intro hI.out.row hI.out.col)))
          have hG0 : 0 ≤ G.getD zi 0 := by
            have h1 := hI.out.row zi q7
            rw [show G.getD zi 0 = _ from h1]
            exact rsum_nonneg _ fun k hk => hI.out.x0 zi k q7 hk
          have hT0 : 0 ≤ T.getD fk 0 := by
            have h1 := hI.out.col fk q6
            rw [show T.getD fk 0 = _ from h1]
            exact rsum_nonneg _ fun i hi => hI.out.x0 i fk hi q6
          have hPz := (HGD.out.2.2.1 _ (List.getElem_mem q7)).2.1
          have hNf := (HGD.out.2.2.2 _ (List.getElem_mem q6)).2
          rw [HAz.out.1, HAz.out.2] at hq9
          rw [HBf.out.1, HBf.out.2] at hq8
          rw [HAz.out.2] at hG0
          rw [HBf.out.2] at hT0
          clear hsp hsn
          generalize P[zi] = pz at *
          obtain ⟨p0, p1, p2⟩ := pz
          generalize N[fk] = nf at *
          obtain ⟨n0, n1⟩ := nf
          dsimp only at u1 v1 hq8 hq9 hPz hNf HAz HBf
          generalize G[zi] = gz at *
          generalize T[fk] = tf at *
          clear hGl hTl
          have i1 : (zi : Int) < (P.length : Int) := by omega
          have i2 : (fk : Int) < (N.length : Int) := by omega
          have i3 : (0 : Int) ≤ (zi : Int) := by omega
          have i4 : (0 : Int) ≤ (fk : Int) := by omega
          have w1 : IntKind.i64.wrap (n1 - tf) = n1 - tf := by rw [IntKind.wrap_i64]; omega
          have w2 : IntKind.i64.wrap (p1 - gz) = p1 - gz := by rw [IntKind.wrap_i64]; omega
          go_upto_region 6 with fail
          go_quiet (fail)
          have hS3 := Lib.hid (hS.out.call (below_dN (Below.refl _ _) nq))
          generalize wc.drewN nq = W6 at *
          have HQM := Lib.hid (show 1 ≤ min (n1 - tf) (p1 - gz) ∧ min (n1 - tf) (p1 - gz) ≤ hB N fk - T.getD fk 0 ∧ min (n1 - tf) (p1 - gz) ≤ hA P zi - G.getD zi 0 ∧ min (n1 - tf) (p1 - gz) ≤ 1000000 from by
            rw [HAz.out.1, HAz.out.2, HBf.out.1, HBf.out.2]; omega)
          clear hS u1 v1 u2 v2 f0 f1 z0 z1 y2 y3 w1 w2 i1 i2 i3 i4 hq8 hq9 hPz hNf hwm hm0 hm1 hG0 hT0
          generalize min (n1 - tf) (p1 - gz) = q0 at *
          go_wp2_with fail
          go_loopw [9, 76] (fun nv jv wr => ∃ (j : Nat) (q : Int), j ≤ m + 1 ∧ nv = .int .i64 q ∧ jv = .int .i64 j ∧ Hid (1 ≤ q ∧ q ≤ q0 ∧ ∀ x ∈ l.take j, x.b = true → q ≤ XF X x.i x.k) ∧ Hid (Sy w wr [(bY, yC (.slice (some ⟨g0, o0, none⟩) P.length c0) (.slice (some ⟨g1, o1, none⟩) N.length c1) (.slice (some ⟨g2, 0, none⟩) P.length P.length) (.slice (some ⟨g3, 0, none⟩) N.length N.length) X, 150), (bf, #[.int .i64 fi, .int .i64 fk, .bool fb, .int .i64 fc], 156), (bz, #[.int .i64 zi, .int .i64 zk, .bool zb, .int .i64 zc], 156)] [⟨.slice (some ⟨g2, 0, none⟩) P.length P.length, 3, 1, P.length, L1 G⟩, ⟨.slice (some ⟨g3, 0, none⟩) N.length N.length, 3, 1, N.length, L1 T⟩, ⟨.slice (some ⟨gl, 0, none⟩) (m + 1) c, 156, 4, m + 1, LH l⟩] [])) (fun _ jv _ => m + 1 - (intOf jv).toNat)
          case atStart => exact ⟨0, q0, Nat.zero_le _, rfl, rfl, Lib.hid ⟨HQM.out.1, Int.le_refl _, fun x hx => by simp at hx⟩, hS3⟩
          case round =>
            clear hS3
            obtain ⟨j, q, hj, rfl, rfl, hqj, hS⟩ := hrel
            by_cases hlt : j < m + 1
            · have hjl : j < l.length := by rw [HLM.out]; exact hlt
              obtain ⟨x0, x1, x2, x3⟩ := LH_cells hjl
              have HMX := Lib.hid (getD_mem hjl)
              have HXH := Lib.hid (HQ.out.1 _ (getD_mem hjl))
              have HTK := Lib.hid (show l.take (j + 1) = l.take j ++ [l.getD j hop0] from by rw [List.take_succ_eq_append_getElem hjl, List.getD_eq_getElem?_getD, List.getElem?_eq_getElem hjl]; rfl)
              clear hjl
              generalize l.getD j hop0 = x at *
              obtain ⟨xi, xk, xb, xc⟩ := x
              dsimp only at x0 x1 x2 x3
              replace x0 := hS.out.rcell 2 rfl x0
              replace x1 := hS.out.rcell 2 rfl x1
              replace x2 := hS.out.rcell 2 rfl x2
              replace x3 := hS.out.rcell 2 rfl x3
              have hi1 : xi < P.length := HXH.out.1
              have hi2 : xk < N.length := HXH.out.2.1
              have hi3 : (xi : Int) < 20 := by omega
              have hi4 : (xk : Int) < 20 := by omega
              have hi5 : (0 : Int) ≤ (xi : Int) := by omega
              have hi6 : (0 : Int) ≤ (xk : Int) := by omega
              have hj0 : (0 : Int) ≤ (j : Int) := by omega
              have hj1 : (j : Int) < (m : Int) + 1 := by omega
              have lB := hS.out.lt 0 rfl
              have hS2 := Lib.hid (hS.out.al wr.heap.size #[.int .i64 xi, .int .i64 xk, .bool xb, .int .i64 xc] 156 rfl)
              clear hS
              go_upto_region 10 with fail
              refine wp_geny hS2.out ?_
              intro W2 hc
              have hS : Hid (Sy w W2 [(bY, yC (.slice (some ⟨g0, o0, none⟩) P.length c0) (.slice (some ⟨g1, o1, none⟩) N.length c1) (.slice (some ⟨g2, 0, none⟩) P.length P.length) (.slice (some ⟨g3, 0, none⟩) N.length N.length) X, 150), (bf, #[.int .i64 fi, .int .i64 fk, .bool fb, .int .i64 fc], 156), (bz, #[.int .i64 zi, .int .i64 zk, .bool zb, .int .i64 zc], 156), (wr.heap.size, #[.int .i64 xi, .int .i64 xk, .bool xb, .int .i64 xc], 156)] [⟨.slice (some ⟨g2, 0, none⟩) P.length P.length, 3, 1, P.length, L1 G⟩, ⟨.slice (some ⟨g3, 0, none⟩) N.length N.length, 3, 1, N.length, L1 T⟩, ⟨.slice (some ⟨gl, 0, none⟩) (m + 1) c, 156, 4, m + 1, LH l⟩] []) := Lib.hid hc
              clear hc hS2 x0 x1 x2 x3 lB
              generalize wr.heap.size = bx at *
              have x0 := hS.out.cell 3 0 rfl rfl
              have x1 := hS.out.cell 3 1 rfl rfl
              have x2 := hS.out.cell 3 2 rfl rfl
              cases xb
              · go_wp2
                go_roundw
                case rel =>
                  refine ⟨j + 1, q, by omega, rfl, by go_num, Lib.hid ⟨hqj.out.1, hqj.out.2.1, fun x hx => ?_⟩, Lib.hid (hS.out.thin (List.Sublist.cons_cons _ (List.Sublist.cons_cons _ (List.Sublist.cons_cons _ (List.nil_sublist _)))) (List.Sublist.refl _))⟩
                  rw [HTK.out, List.mem_append, List.mem_singleton] at hx
                  rcases hx with hx | rfl
                  · exact hqj.out.2.2 x hx
                  · intro h; cases h
                case measure => simp [intOf]; omega
              · have d1 : W2.cell? ⟨bY, 4 + (xi * 20 + xk), none⟩ = some (.int .i64 (XF X xi xk)) := hS.out.cell 0 (4 + (xi * 20 + xk)) rfl (yC_x (by omega))
                rw [← Nat.add_assoc] at d1
                have HXP := Lib.hid (show 0 < XF X xi xk from by
                  rcases HXH.out.2.2 with ⟨h, _⟩ | ⟨_, _, h⟩
                  · cases h
                  · exact h)
                have HXE : ∃ v, XF X xi xk = v := ⟨_, rfl⟩
                obtain ⟨v, hv⟩ := HXE
                rw [hv] at d1 HXP
                have HV := Lib.hid hv
                clear hv
                go_upto_region 11 with fail
                go_quiet (fail)
                go_wp2
                go_roundw
                case rel =>
                  refine ⟨j + 1, min q v, by omega, rfl, by go_num, Lib.hid ⟨by have := hqj.out.1; have := HXP.out; omega, by have := hqj.out.2.1; omega, fun x hx hb => ?_⟩, Lib.hid ((hS.out.thin (List.Sublist.cons_cons _ (List.Sublist.cons_cons _ (List.Sublist.cons_cons _ (List.nil_sublist _)))) (List.Sublist.refl _)).call (below_dN (Below.refl _ _) _))⟩
                  rw [HTK.out, List.mem_append, List.mem_singleton] at hx
                  rcases hx with hx | rfl
                  · have := hqj.out.2.2 x hx hb; omega
                  · dsimp only; rw [HV.out]; omega
                case measure => simp [intOf]; omega
            · have hjn : ¬ (j : Int) < (m : Int) + 1 := by omega
              have HQJ := Lib.hid (show 1 ≤ q ∧ q ≤ q0 ∧ ∀ x ∈ l, x.b = true → q ≤ XF X x.i x.k from by
                have h := hqj.out
                rw [List.take_of_length_le (by rw [HLM.out]; omega)] at h
                exact h)
              have hq1 : 1 ≤ q := hqj.out.1
              have hq2 : q ≤ 1000000 := Int.le_trans hqj.out.2.1 HQM.out.2.2.2
              clear hqj
              go_wp2
              go_loopw [99] (fun jv wr => ∃ (j : Nat) (X2 : List Int), j ≤ m + 1 ∧ jv = .int .i64 j ∧ X2.length = 400 ∧ Hid (∀ i k, i < 20 → k < 20 → XF X2 i k = XF X i k + q * chainD (l.take j) i k) ∧ Hid (Sy w wr [(bY, yC (.slice (some ⟨g0, o0, none⟩) P.length c0) (.slice (some ⟨g1, o1, none⟩) N.length c1) (.slice (some ⟨g2, 0, none⟩) P.length P.length) (.slice (some ⟨g3, 0, none⟩) N.length N.length) X2, 150), (bf, #[.int .i64 fi, .int .i64 fk, .bool fb, .int .i64 fc], 156), (bz, #[.int .i64 zi, .int .i64 zk, .bool zb, .int .i64 zc], 156)] [⟨.slice (some ⟨g2, 0, none⟩) P.length P.length, 3, 1, P.length, L1 G⟩, ⟨.slice (some ⟨g3, 0, none⟩) N.length N.length, 3, 1, N.length, L1 T⟩, ⟨.slice (some ⟨gl, 0, none⟩) (m + 1) c, 156, 4, m + 1, LH l⟩] [])) (fun jv _ => m + 1 - (intOf jv).toNat)
              case atStart => exact ⟨0, X, Nat.zero_le _, rfl, hX4, Lib.hid (fun i k _ _ => by simp [chainD]), hS⟩
              case round =>
                clear hS
                obtain ⟨j, X2, hj, rfl, hX2, hXF, hS⟩ := hrel
                by_cases hlt : j < m + 1
                · have hjl : j < l.length := by rw [HLM.out]; exact hlt
                  obtain ⟨x0, x1, x2, x3⟩ := LH_cells hjl
                  have HMX := Lib.hid (getD_mem hjl)
                  have HXH := Lib.hid (HQ.out.1 _ (getD_mem hjl))
                  have HTK := Lib.hid (show l.take (j + 1) = l.take j ++ [l.getD j hop0] from by rw [List.take_succ_eq_append_getElem hjl, List.getD_eq_getElem?_getD, List.getElem?_eq_getElem hjl]; rfl)
                  clear hjl
                  generalize l.getD j hop0 = x at *
                  obtain ⟨xi, xk, xb, xc⟩ := x
                  dsimp only at x0 x1 x2 x3
                  replace x0 := hS.out.rcell 2 rfl x0
                  replace x1 := hS.out.rcell 2 rfl x1
                  replace x2 := hS.out.rcell 2 rfl x2
                  replace x3 := hS.out.rcell 2 rfl x3
                  have hi1 : xi < P.length := HXH.out.1
                  have hi2 : xk < N.length := HXH.out.2.1
                  have hi3 : (xi : Int) < 20 := by omega
                  have hi4 : (xk : Int) < 20 := by omega
                  have hi5 : (0 : Int) ≤ (xi : Int) := by omega
                  have hi6 : (0 : Int) ≤ (xk : Int) := by omega
                  have hj0 : (0 : Int) ≤ (j : Int) := by omega
                  have hj1 : (j : Int) < (m : Int) + 1 := by omega
                  have lB := hS.out.lt 0 rfl
                  have hS2 := Lib.hid (hS.out.al wr.heap.size #[.int .i64 xi, .int .i64 xk, .bool xb, .int .i64 xc] 156 rfl)
                  clear hS
                  go_upto_region 16 with fail
                  refine wp_geny hS2.out ?_
                  intro W2 hc
                  have hS : Hid (Sy w W2 [(bY, yC (.slice (some ⟨g0, o0, none⟩) P.length c0) (.slice (some ⟨g1, o1, none⟩) N.length c1) (.slice (some ⟨g2, 0, none⟩) P.length P.length) (.slice (some ⟨g3, 0, none⟩) N.length N.length) X2, 150), (bf, #[.int .i64 fi, .int .i64 fk, .bool fb, .int .i64 fc], 156), (bz, #[.int .i64 zi, .int .i64 zk, .bool zb, .int .i64 zc], 156), (wr.heap.size, #[.int .i64 xi, .int .i64 xk, .bool xb, .int .i64 xc], 156)] [⟨.slice (some ⟨g2, 0, none⟩) P.length P.length, 3, 1, P.length, L1 G⟩, ⟨.slice (some ⟨g3, 0, none⟩) N.length N.length, 3, 1, N.length, L1 T⟩, ⟨.slice (some ⟨gl, 0, none⟩) (m + 1) c, 156, 4, m + 1, LH l⟩] []) := Lib.hid hc
                  clear hc hS2 x0 x1 x2 x3 lB
                  generalize wr.heap.size = bx at *
                  have x0 := hS.out.cell 3 0 rfl rfl
                  have x1 := hS.out.cell 3 1 rfl rfl
                  have x2 := hS.out.cell 3 2 rfl rfl
                  have d1 : W2.cell? ⟨bY, 4 + (xi * 20 + xk), none⟩ = some (.int .i64 (XF X2 xi xk)) := hS.out.cell 0 (4 + (xi * 20 + xk)) rfl (yC_x (by omega))
                  have d2 : W2.frozen? ⟨bY, 4 + (xi * 20 + xk), none⟩ = false := hS.out.free 0 (4 + (xi * 20 + xk)) rfl
                  have hvb : -1000000000 ≤ XF X2 xi xk ∧ XF X2 xi xk ≤ 1000000000 := by
                    have h1 := chainD_bd (l.take j) xi xk
                    have h2 : (l.take j).length ≤ 39 := by rw [List.length_take]; omega
                    have h3 := HX0.out.1 xi xk hi1 hi2
                    have h4 := HX0.out.2.1 xi xk hi1 hi2
                    have h5 := (HGD.out.2.2.1 _ (List.getElem_mem hi1)).2.1
                    rw [hA_at hi1] at h4
                    rw [hXF.out xi xk (by omega) (by omega)]
                    have h6 : q * chainD (l.take j) xi xk ≤ 1000000 * 39 := by
                      rcases Int.le_total 0 (chainD (l.take j) xi xk) with h | h
                      · exact Int.mul_le_mul hq2 (by omega) h (by decide)
                      · have : q * chainD (l.take j) xi xk ≤ 0 := Int.mul_nonpos_of_nonneg_of_nonpos (by omega) h
                        omega
                    have h7 : -(1000000 * 39) ≤ q * chainD (l.take j) xi xk := by
                      rcases Int.le_total 0 (chainD (l.take j) xi xk) with h | h
                      · have : 0 ≤ q * chainD (l.take j) xi xk := Int.mul_nonneg (by omega) h
                        omega
                      · have : q * -chainD (l.take j) xi xk ≤ 1000000 * 39 := Int.mul_le_mul hq2 (by omega) (by omega) (by decide)
                        rw [Int.mul_neg] at this
                        omega
                    omega
                  rw [← Nat.add_assoc] at d1 d2
                  have HXN := Lib.hid (show ∀ u, (∀ i k, i < 20 → k < 20 → (if xi = i ∧ xk = k then u else 0) = q * hopD ⟨xi, xk, xb, xc⟩ i k) → ∀ i k, i < 20 → k < 20 → XF (X2.set (xi * 20 + xk) (XF X2 xi xk + u)) i k = XF X i k + q * chainD (l.take (j + 1)) i k from fun u hu i k hi hk => by
                    rw [HTK.out, chainD_snoc, Int.mul_add, ← Int.add_assoc, ← hXF.out i k hi hk, ← hu i k hi hk]
                    unfold XF
                    rw [getD_set' (by omega)]
                    by_cases e : xi = i ∧ xk = k
                    · rw [if_pos e, if_pos (by rw [e.1, e.2]), e.1, e.2]
                    · rw [if_neg e, if_neg (fun h => e (by omega)), Int.add_zero])
                  have hSn := Lib.hid (fun v => (hS.out.set 0 (j := 4 + (xi * 20 + xk)) (v := .int .i64 v) rfl))
                  obtain ⟨v, hv⟩ : ∃ v, XF X2 xi xk = v := ⟨_, rfl⟩
                  rw [hv] at d1 hvb HXN
                  clear hv
                  have wsub : IntKind.i64.wrap (v - q) = v - q := by rw [IntKind.wrap_i64]; omega
                  have wadd : IntKind.i64.wrap (v + q) = v + q := by rw [IntKind.wrap_i64]; omega
                  cases xb
                  · go_upto_region 18 with fail
                    go_still_tail 18, (by kernel_rfl)
                    change wpList _ _ _ _ _ _
                    have e1 : W2.drew.cell? ⟨bY, 4 + xi * 20 + xk, none⟩ = some (.int .i64 v) := d1
                    have e2 : W2.drew.frozen? ⟨bY, 4 + xi * 20 + xk, none⟩ = false := d2
                    go_wp2
                    go_roundw
                    case rel =>
                      refine ⟨j + 1, X2.set (xi * 20 + xk) (v + q), by omega, by go_num, by rw [List.length_set]; exact hX2, Lib.hid (HXN.out q (fun i k _ _ => by unfold hopD; dsimp only; split <;> simp [sg])), ?_⟩
                      have h := (hSn.out (v + q)).drew.thin (List.Sublist.cons_cons _ (List.Sublist.cons_cons _ (List.Sublist.cons_cons _ (List.nil_sublist _)))) (List.Sublist.refl _)
                      rw [yC_set, ← Nat.add_assoc] at h
                      exact Lib.hid h
                    case measure => simp [intOf]; omega
                  · go_upto_region 17 with fail
                    go_still_tail 18, (by kernel_rfl)
                    change wpList _ _ _ _ _ _
                    have e1 : W2.drew.cell? ⟨bY, 4 + xi * 20 + xk, none⟩ = some (.int .i64 v) := d1
                    have e2 : W2.drew.frozen? ⟨bY, 4 + xi * 20 + xk, none⟩ = false := d2
                    go_wp2
                    go_roundw
                    case rel =>
                      refine ⟨j + 1, X2.set (xi * 20 + xk) (v - q), by omega, by go_num, by rw [List.length_set]; exact hX2, Lib.hid (HXN.out (-q) (fun i k _ _ => by unfold hopD; dsimp only; split <;> simp [sg])), ?_⟩
                      have h := (hSn.out (v - q)).drew.thin (List.Sublist.cons_cons _ (List.Sublist.cons_cons _ (List.Sublist.cons_cons _ (List.nil_sublist _)))) (List.Sublist.refl _)
                      rw [yC_set, ← Nat.add_assoc] at h
                      exact Lib.hid h
                    case measure => simp [intOf]; omega
                · have hjn2 : ¬ (j : Int) < (m : Int) + 1 := by omega
                  have hTA : l.take j = l := List.take_of_length_le (by rw [HLM.out]; omega)
                  rw [hTA] at hXF
                  have HY2 := Lib.hid (HQ.out.2.2.2 q (by omega) (Int.le_trans HQJ.out.2.1 HQM.out.2.1) (Int.le_trans HQJ.out.2.1 HQM.out.2.2.1) HQJ.out.2.2)
                  have hGl : zi < G.length := by rw [← HL.out.1]; exact q7
                  have hTl : fk < T.length := by rw [← HL.out.2]; exact q6
                  have u2 := (hS.out.osx 0 rfl).at1 hGl
                  have v2 := (hS.out.osx 1 rfl).at1 hTl
                  rw [Nat.zero_add, ← getD_at hGl] at u2
                  rw [Nat.zero_add, ← getD_at hTl] at v2
                  rw [show G.getD zi 0 = gz from HAz.out.2] at u2
                  rw [show T.getD fk 0 = tf from HBf.out.2] at v2
                  have f1 := hS.out.cell 1 1 rfl rfl
                  have z0 := hS.out.cell 2 0 rfl rfl
                  have y2 : wr.cell? ⟨bY, 2, none⟩ = some (.slice (some ⟨g2, 0, none⟩) P.length P.length) := hS.out.cell 0 2 rfl rfl
                  have y3 : wr.cell? ⟨bY, 3, none⟩ = some (.slice (some ⟨g3, 0, none⟩) N.length N.length) := hS.out.cell 0 3 rfl rfl
                  have r0 := hS.out.rfree 0 rfl zi
                  have r1 := hS.out.rfree 1 rfl fk
                  have i1 : (zi : Int) < (P.length : Int) := by omega
                  have i2 : (fk : Int) < (N.length : Int) := by omega
                  have i3 : (0 : Int) ≤ (zi : Int) := by omega
                  have i4 : (0 : Int) ≤ (fk : Int) := by omega
                  have htb : 0 ≤ tf ∧ tf ≤ 1000000 ∧ 0 ≤ gz ∧ gz ≤ 1000000 := by
                    have h1 := HX0.out.2.2.1 zi q7
                    have h2 := HX0.out.2.2.2 fk q6
                    have h3 := rsum_nonneg (f := fun k => XF X zi k) N.length fun k hk => HX0.out.1 zi k q7 hk
                    have h4 := rsum_nonneg (f := fun i => XF X i fk) P.length fun i hi => HX0.out.1 i fk hi q6
                    have h5 := (HGD.out.2.2.1 _ (List.getElem_mem q7)).2.1
                    have h6 := (HGD.out.2.2.2 _ (List.getElem_mem q6)).2
                    rw [← hA_at q7] at h5
                    rw [← hB_at q6] at h6
                    have h7 := HQM.out.2.1
                    have h8 := HQM.out.2.2.1
                    have h9 := HAz.out
                    have h10 := HBf.out
                    have h11 := HQM.out.1
                    omega
                  have wt : IntKind.i64.wrap (tf + q) = tf + q := by rw [IntKind.wrap_i64]; omega
                  have wg : IntKind.i64.wrap (gz + q) = gz + q := by rw [IntKind.wrap_i64]; omega
                  have HTL := Lib.hid (And.intro hGl hTl)
                  clear hGl hTl hTA
                  go_upto_region 20 with fail
                  go_still_tail 12, (by kernel_rfl)
                  change wpList _ _ _ _ _ _
                  have e2 : wr.drew.cell? ⟨g3, fk, none⟩ = some (.int .i64 tf) := v2
                  have e3 : wr.drew.frozen? ⟨g3, fk, none⟩ = false := r1
                  have hS4 := Lib.hid ((hS.out.ostore 1 rfl fk (.int .i64 (tf + q))).drew)
                  go_upto_region 21 with fail
                  refine wp_geny hS4.out ?_
                  intro W7 hc
                  have hLT : (L1 T).set fk (.int .i64 (tf + q)) = L1 (T.set fk (tf + q)) := by unfold L1; rw [List.map_set]
                  rw [hLT] at hc
                  have hS5 : Hid (Sy w W7 [(bY, yC (.slice (some ⟨g0, o0, none⟩) P.length c0) (.slice (some ⟨g1, o1, none⟩) N.length c1) (.slice (some ⟨g2, 0, none⟩) P.length P.length) (.slice (some ⟨g3, 0, none⟩) N.length N.length) X2, 150), (bf, #[.int .i64 fi, .int .i64 fk, .bool fb, .int .i64 fc], 156), (bz, #[.int .i64 zi, .int .i64 zk, .bool zb, .int .i64 zc], 156)] [⟨.slice (some ⟨g2, 0, none⟩) P.length P.length, 3, 1, P.length, L1 G⟩, ⟨.slice (some ⟨g3, 0, none⟩) N.length N.length, 3, 1, N.length, L1 (T.set fk (tf + q))⟩, ⟨.slice (some ⟨gl, 0, none⟩) (m + 1) c, 156, 4, m + 1, LH l⟩] []) := Lib.hid hc
                  clear hc hS4 hLT e2 e3 u2 v2 f1 z0 y2 y3 r0 r1 hS
                  have u2 := (hS5.out.osx 0 rfl).at1 HTL.out.1
                  rw [Nat.zero_add, ← getD_at HTL.out.1, show G.getD zi 0 = gz from HAz.out.2] at u2
                  have r0 := hS5.out.rfree 0 rfl zi
                  have z0 := hS5.out.cell 2 0 rfl rfl
                  have y2 : W7.cell? ⟨bY, 2, none⟩ = some (.slice (some ⟨g2, 0, none⟩) P.length P.length) := hS5.out.cell 0 2 rfl rfl
                  go_still_tail 12, (by kernel_rfl)
                  change wpList _ _ _ _ _ _
                  have e2 : W7.drew.cell? ⟨g2, zi, none⟩ = some (.int .i64 gz) := u2
                  have e3 : W7.drew.frozen? ⟨g2, zi, none⟩ = false := r0
                  go_wp2
                  go_roundg (lackN N (T.set fk (tf + q)))
                  case measure =>
                    rw [HGN.out, ← HBf.out.2]
                    exact lack_less q6 HL.out.2.symm (fun j hj => hI.out.tb j hj) hq1 (Int.le_trans HQJ.out.2.1 HQM.out.2.1)
                  case rel =>
                    refine ⟨X2, G.set zi (gz + q), T.set fk (tf + q), rfl, hX2, Lib.hid (HY2.out.congr (fun i k hi hk => hXF.out i k (by omega) (by omega)) (fun i hi => ?_) (fun k hk => ?_)), ?_⟩
                    · rw [getD_set' HTL.out.1]
                      by_cases e : zi = i
                      · rw [if_pos e, if_pos e, ← e, show G.getD zi 0 = gz from HAz.out.2]
                      · rw [if_neg e, if_neg e, Int.add_zero]
                    · rw [getD_set' HTL.out.2]
                      by_cases e : fk = k
                      · rw [if_pos e, if_pos e, ← e, show T.getD fk 0 = tf from HBf.out.2]
                      · rw [if_neg e, if_neg e, Int.add_zero]
                    · have h := ((hS5.out.ostore 0 rfl zi (.int .i64 (gz + q))).drew).thin (bs' := [(bY, yC (.slice (some ⟨g0, o0, none⟩) P.length c0) (.slice (some ⟨g1, o1, none⟩) N.length c1) (.slice (some ⟨g2, 0, none⟩) P.length P.length) (.slice (some ⟨g3, 0, none⟩) N.length N.length) X2, 150)]) (os' := [⟨.slice (some ⟨g2, 0, none⟩) P.length P.length, 3, 1, P.length, L1 (G.set zi (gz + q))⟩, ⟨.slice (some ⟨g3, 0, none⟩) N.length N.length, 3, 1, N.length, L1 (T.set fk (tf + q))⟩]) (List.Sublist.cons_cons _ (List.nil_sublist _)) (by
                        rw [show (L1 G).set zi (.int .i64 (gz + q)) = L1 (G.set zi (gz + q)) from by unfold L1; rw [List.map_set]]
                        exact List.Sublist.cons_cons _ (List.Sublist.cons_cons _ (List.nil_sublist _)))
                      exact Lib.hid h
end
end Go.Proofs.YtchignmnnbepnaaGreat

/- reach: the cheapest chains -/
import Derived.Test.YtchignmnnbepnaaGreatJ38
import Derived.Sort.CutIn
import Derived.Test.YtchignmnnbepnaaGreatJ41
import Derived.Test.YtchignmnnbepnaaGreatJ11
namespace Go.Proofs.YtchignmnnbepnaaGreat
open Go.RowKit Go.Shelf
attribute [local go_sem] Oper.semAt_some

def cH (h : Hop) : List Value := [.int .i64 h.i, .int .i64 h.k, .bool h.b, .int .i64 h.c]
def LH (l : List Hop) : List Value := l.flatMap cH
def distC (s : RS) : Array Value := (L1 s.d0 ++ L1 s.d1).toArray
def byC (s : RS) : Array Value := (LH s.b0 ++ LH s.b1).toArray
theorem wpIn_geny {F : Fence} {n : Nat} {P : Program} {c : Code} {Q : Exit → Act → World → Prop} {a : Act} {w W : World} {bs : List (Nat × Array Value × TypeId)} {os : List Rw} {rs : List (World → Prop)} (h : Sy w W bs os rs) (k : ∀ V, Sy w V bs os rs → c.wpIn F n P Q a V) : c.wpIn F n P Q a W := k W h
theorem in_gen {F : Fence} {n : Nat} {P : Program} {c : Code} {Q : Exit → Act → World → Prop} {a : Act} {W : World} {S : World → Prop} (h : S W) (k : ∀ V, S V → c.wpIn F n P Q a V) : c.wpIn F n P Q a W := k W h
/-- a loop whose state is named, of which the measure is taken -/
theorem wpIn_loop_ghost {σ : Type} {F : Fence} {n : Nat} {P : Program} {c : Code} {Q : Exit → Act → World → Prop} (I : σ → Act → World → Prop) (μ : σ → Nat) (h : ∀ s a w, I s a w → c.wpIn F n P (Exit.then (fun a' w' => ∃ s', I s' a' w' ∧ μ s' < μ s) Q) a w) (s : σ) {a : Act} {w : World} (h0 : I s a w) : (Code.loop c).wpIn F n P Q a w := by
  refine wpIn_loop_rounds (μ s + 1) ?_
  have key : ∀ m s a w, μ s ≤ m → I s a w → Code.roundsIn F n P c Q (m + 1) a w := by
    intro m
    induction m with
    | zero =>
      intro s a w hm hI
      rw [roundsIn_succ]
      refine wpIn_mono (h s a w hI) fun e a' w' hq => ?_
      cases e with
      | normal => obtain ⟨s', _, hlt⟩ := hq; omega
      | _ => exact hq
    | succ m ih =>
      intro s a w hm hI
      rw [roundsIn_succ]
      refine wpIn_mono (h s a w hI) fun e a' w' hq => ?_
      cases e with
      | normal => obtain ⟨s', hI', hlt⟩ := hq; exact ih s' a' w' (by omega) hI'
      | _ => exact hq
  exact key _ s a w (Nat.le_refl _) h0
theorem sy_grown {w X Y : World} {bs : List (Nat × Array Value × TypeId)} {row : Option Nat} (h : Sy w X bs [] []) (hg : X.grownBy Y row) (hr : ∀ r, row = some r → w.heap.size ≤ r ∧ ∃ o : Obj, X.heap[r]? = some o ∧ o.isCells = false) : Sy w Y bs [] [] where
  be := h.be.grown hg h.be.size (fun k e => (hr k e).1)
  bx x hx := ⟨(h.bx x hx).1, (hg.block x.1 (Array.getElem?_eq_some_iff.1 (h.bx x hx).2).1 (fun e => by
    obtain ⟨o, ho, hc⟩ := (hr x.1 e.symm).2
    rw [(h.bx x hx).2] at ho; cases ho; cases hc)).trans (h.bx x hx).2⟩
  ow o ho := by cases ho
  inc := h.inc
  rd r hr := by cases hr
structure LoopI (w W : World) (t1 t2 t3 : TypeId) (bC : Nat) (ds : List Nat) (s : RS) (ch : Bool) (np nn : Nat) (C X : Nat → Nat → Int) (F : Nat → Bool) (q0 q1 : Nat → Int) : Prop where
  sy : Sy w W [(w.heap.size, distC s, t1), (w.heap.size + 1, byC s, t2), (bC, #[.bool ch], t3)] [] []
  inv : RInv np nn C X F q0 q1 s
  fx : ch = false → Fixed np nn C X s
  nd : ds.Nodup
  mks : ∀ D ∈ ds, w.heap.size ≤ D ∧ W.heap[D]? = some (.deferred (some []))
/-- the distances while they are laid: those of piles up to i, those of needs up to k -/
def dstart (F : Nat → Bool) (i k : Nat) : RS := ⟨(List.range 20).map fun j => if j < i then (if F j then 0 else farN) else 0, (List.range 20).map fun j => if j < k then farN else 0, List.replicate 20 hop0, List.replicate 20 hop0⟩
theorem distC_at0 {s : RS} {i : Nat} (h : i < s.d0.length) : (distC s)[i]? = some (.int .i64 (s.d0.getD i 0)) := by
  unfold distC L1
  rw [List.getElem?_toArray, List.getElem?_append_left (by simpa using h), List.getElem?_map, List.getElem?_eq_getElem h, getD_at h]; rfl
theorem distC_at1 {s : RS} {k : Nat} (h0 : s.d0.length = 20) (h : k < s.d1.length) : (distC s)[20 + k]? = some (.int .i64 (s.d1.getD k 0)) := by
  unfold distC L1
  rw [List.getElem?_toArray, List.getElem?_append_right (by simp [h0]), List.getElem?_map, List.length_map, h0, Nat.add_sub_cancel_left, List.getElem?_eq_getElem h, getD_at h]; rfl
theorem distC_set0 {s : RS} {i : Nat} (v : Int) (h : i < s.d0.length) : (distC s).setIfInBounds i (.int .i64 v) = distC ⟨s.d0.set i v, s.d1, s.b0, s.b1⟩ := by
  unfold distC L1
  rw [List.setIfInBounds_toArray, List.set_append_left _ _ (by simpa using h), List.map_set]
theorem distC_set1 {s : RS} {k : Nat} (v : Int) (h0 : s.d0.length = 20) : (distC s).setIfInBounds (20 + k) (.int .i64 v) = distC ⟨s.d0, s.d1.set k v, s.b0, s.b1⟩ := by
  unfold distC L1
  rw [List.setIfInBounds_toArray, List.set_append_right _ _ (by simp [h0]), List.length_map, h0, Nat.add_sub_cancel_left, List.map_set]
theorem LH_set : ∀ (l : List Hop) (k : Nat) (h : Hop), k < l.length → ((((LH l).set (k * 4) (.int .i64 h.i)).set (k * 4 + 1) (.int .i64 h.k)).set (k * 4 + 2) (.bool h.b)).set (k * 4 + 3) (.int .i64 h.c) = LH (l.set k h) := by
  intro l
  induction l with
  | nil => intro k h hk; simp at hk
  | cons x l ih =>
    intro k h hk
    cases k with
    | zero => simp [LH, cH]
    | succ k =>
      have := ih k h (by simpa using hk)
      rw [show (k + 1) * 4 = k * 4 + 1 + 1 + 1 + 1 by omega]
      simp only [LH, List.flatMap_cons, cH, List.cons_append, List.nil_append, List.set_cons_succ] at this ⊢
      rw [this]
theorem LH_len (l : List Hop) : (LH l).length = l.length * 4 := flat_len (f := cH) (k := 4) (fun _ => rfl) l
theorem LH_at {l : List Hop} {k j : Nat} (h : k < l.length) (hj : j < 4) : (LH l)[k * 4 + j]? = (cH (l.getD k hop0))[j]? := by
  rw [List.getD_eq_getElem?_getD, List.getElem?_eq_getElem h]
  exact flat_get (f := cH) (k := 4) (fun _ => rfl) l k j h hj
theorem byC_set0 {s : RS} {i : Nat} (h : Hop) (hi : i < s.b0.length) : ((((byC s).setIfInBounds (i * 4) (.int .i64 h.i)).setIfInBounds (i * 4 + 1) (.int .i64 h.k)).setIfInBounds (i * 4 + 2) (.bool h.b)).setIfInBounds (i * 4 + 3) (.int .i64 h.c) = byC ⟨s.d0, s.d1, s.b0.set i h, s.b1⟩ := by
  unfold byC
  have hl := LH_len s.b0
  simp only [List.setIfInBounds_toArray]
  rw [List.set_append_left _ _ (by omega), List.set_append_left _ _ (by rw [List.length_set]; omega), List.set_append_left _ _ (by simp only [List.length_set]; omega), List.set_append_left _ _ (by simp only [List.length_set]; omega), LH_set _ _ _ hi]
theorem byC_set1 {s : RS} {k : Nat} (h : Hop) (h0 : s.b0.length = 20) (hk : k < s.b1.length) : ((((byC s).setIfInBounds (80 + k * 4) (.int .i64 h.i)).setIfInBounds (80 + k * 4 + 1) (.int .i64 h.k)).setIfInBounds (80 + k * 4 + 2) (.bool h.b)).setIfInBounds (80 + k * 4 + 3) (.int .i64 h.c) = byC ⟨s.d0, s.d1, s.b0, s.b1.set k h⟩ := by
  unfold byC
  have hl : (LH s.b0).length = 80 := by rw [LH_len, h0]
  simp only [List.setIfInBounds_toArray]
  rw [List.set_append_right _ _ (by omega), List.set_append_right _ _ (by omega), List.set_append_right _ _ (by omega), List.set_append_right _ _ (by omega), hl]
  rw [show 80 + k * 4 - 80 = k * 4 by omega, show 80 + k * 4 + 1 - 80 = k * 4 + 1 by omega, show 80 + k * 4 + 2 - 80 = k * 4 + 2 by omega, show 80 + k * 4 + 3 - 80 = k * 4 + 3 by omega, LH_set _ _ _ hk]
theorem byC_at0 {s : RS} {i j : Nat} (hi : i < s.b0.length) (hj : j < 4) : (byC s)[i * 4 + j]? = (cH (s.b0.getD i hop0))[j]? := by
  unfold byC
  rw [List.getElem?_toArray, List.getElem?_append_left (by rw [LH_len]; omega), LH_at hi hj]
theorem byC_at1 {s : RS} {k j : Nat} (h0 : s.b0.length = 20) (hk : k < s.b1.length) (hj : j < 4) : (byC s)[80 + k * 4 + j]? = (cH (s.b1.getD k hop0))[j]? := by
  unfold byC
  rw [List.getElem?_toArray, List.getElem?_append_right (by rw [LH_len]; omega), LH_len, h0, show 80 + k * 4 + j - 20 * 4 = k * 4 + j by omega, LH_at hk hj]
theorem dstart_i {F : Nat → Bool} {i k : Nat} : (dstart F (i + 1) k).d0 = (dstart F i k).d0.set i (if F i then 0 else farN) := by
  unfold dstart
  refine List.ext_getElem (by simp) fun j h1 h2 => ?_
  simp only [List.getElem_map, List.getElem_range, List.getElem_set]
  simp only [List.length_map, List.length_range] at h1
  by_cases e : i = j
  · subst e; rw [if_pos (by omega), if_pos rfl]
  · rw [if_neg e]
    by_cases h3 : j < i
    · rw [if_pos h3, if_pos (by omega)]
    · rw [if_neg h3, if_neg (by omega)]
theorem dstart_k {F : Nat → Bool} {i k : Nat} : (dstart F i (k + 1)).d1 = (dstart F i k).d1.set k farN := by
  unfold dstart
  refine List.ext_getElem (by simp) fun j h1 h2 => ?_
  simp only [List.getElem_map, List.getElem_range, List.getElem_set]
  by_cases e : k = j
  · subst e; rw [if_pos (by omega), if_pos rfl]
  · rw [if_neg e]
    by_cases h3 : j < k
    · rw [if_pos h3, if_pos (by omega)]
    · rw [if_neg h3, if_neg (by omega)]
theorem zero_by : Tryz.zeroCells198 = byC (dstart (fun _ => false) 0 0) := by kernel_rfl
theorem distC_size {np nn : Nat} {C X : Nat → Nat → Int} {F : Nat → Bool} {q0 q1 : Nat → Int} {s : RS} (I : RInv np nn C X F q0 q1 s) : (distC s).size = 40 := by
  unfold distC; rw [List.size_toArray, List.length_append, L1_len, L1_len, I.l0, I.l1]
theorem byC_size {np nn : Nat} {C X : Nat → Nat → Int} {F : Nat → Bool} {q0 q1 : Nat → Int} {s : RS} (I : RInv np nn C X F q0 q1 s) : (byC s).size = 160 := by
  unfold byC; rw [List.size_toArray, List.length_append, LH_len, LH_len, I.l2, I.l3]
theorem distC_one (s : RS) : (distC s).all (·.oneCell') = true := by
  rw [Array.all_eq_true_iff_forall_mem]
  intro v hv
  unfold distC L1 at hv
  rw [List.mem_toArray, List.mem_append, List.mem_map, List.mem_map] at hv
  rcases hv with ⟨x, _, rfl⟩ | ⟨x, _, rfl⟩ <;> rfl
theorem LH_one {l : List Hop} {v : Value} (h : v ∈ LH l) : v.oneCell' = true := by
  unfold LH cH at h
  obtain ⟨x, _, hx⟩ := List.mem_flatMap.1 h
  simp only [List.mem_cons, List.not_mem_nil, or_false] at hx
  rcases hx with rfl | rfl | rfl | rfl <;> rfl
theorem byC_one (s : RS) : (byC s).all (·.oneCell') = true := by
  rw [Array.all_eq_true_iff_forall_mem]
  intro v hv
  unfold byC at hv
  rw [List.mem_toArray, List.mem_append] at hv
  rcases hv with h | h <;> exact LH_one h
section
variable (w : World)
def RetReach (w : World) (np nn : Nat) (C X : Nat → Nat → Int) (F : Nat → Bool) (q0 q1 : Nat → Int) (e : Ending) (w' : World) : Prop := ∃ s, e = .returned (.tuple #[.agg (distC s), .agg (byC s)]) ∧ RInv np nn C X F q0 q1 s ∧ Fixed np nn C X s ∧ Below w.heap.size w w'
set_option maxHeartbeats 1000000 in
theorem hops_any (y : Nat) : Calls Tryz.prog 137 #[.pointer (some ⟨y, 0, none⟩)] w fun e w' => e = .returned (.func (.func 142) #[] #[.pointer (some ⟨w.heap.size, 0, none⟩)]) ∧ w' = w.alloc (.cells #[.pointer (some ⟨y, 0, none⟩)] 115) := by
  go_enter Tryz.func137, Tryz.ntmps137
  go_wp2
  go_ret
  exact ⟨rfl, rfl⟩
/-- a hop of this yard -/
abbrev HopV (P : List I3) (N : List I2) (X : Nat → Nat → Int) := { h : Hop // isHop P.length N.length (costC P N) X h }
/-- hops$1 hands every hop to its loop -/
theorem hops_stops (V : World) (bY y : Nat) (a0 a1 : Option Addr) (c0 c1 : Nat) (P : List I3) (N : List I2) (X : Nat → Nat → Int) (own : List Nat)
    (hP : ∀ p ∈ P, (-1000000 ≤ p.1 ∧ p.1 ≤ 1000000) ∧ 0 ≤ p.2.2 ∧ p.2.2 ≤ 1000000) (hN : ∀ q ∈ N, -1000000 ≤ q.1 ∧ q.1 ≤ 1000000) (hPl : P.length ≤ 20) (hNl : N.length ≤ 20)
    (hbY : bY ∉ own) (hy : y ∉ own) (h0 : 0 < P.length → ∀ g o, a0 = some ⟨g, o, none⟩ → g ∉ own) (h1 : 0 < N.length → ∀ g o, a1 = some ⟨g, o, none⟩ → g ∉ own) (hb : ∀ k ∈ own, k < V.heap.size) (hR : YRd V bY y a0 a1 c0 c1 P N X) :
    SeqStopsK Fence.wide 4 Tryz.prog 142 #[.pointer (some ⟨bY, 0, none⟩)] (fun h : HopV P N X => #[encH h.1]) (KeepsC own) (fun ys => ys.map (·.1) = hopsOf P.length N.length (costC P N) X) (fun _ => True) (hopsOf P.length N.length (costC P N) X).length V := fun l J Jx W hW hJ hJx hY hI =>
  (hops1_in 4 (by omega) l bY y a0 a1 c0 c1 P N X (fun pre V => ∃ ps : List (HopV P N X), ps.map (·.1) = pre ∧ J ps V) (fun pre V => ∃ ps : List (HopV P N X), ps.map (·.1) = pre ∧ Jx ps V) own hP hN hPl hNl hbY hy h0 h1
    (fun pre x W ⟨ps, hps, hj⟩ hlen hx => (hY ps ⟨x, isHop_hops.1 hx⟩ W hj (by rw [← hps, List.length_map] at hlen; exact hlen)).mono (fun e W' h => by
      rcases h with ⟨h1, h2, h3⟩ | ⟨h1, h2⟩
      · exact .inl ⟨h1, ⟨ps ++ [⟨x, isHop_hops.1 hx⟩], by rw [List.map_append, hps]; rfl, h2⟩, h3⟩
      · exact .inr ⟨h1, ⟨ps ++ [⟨x, isHop_hops.1 hx⟩], by rw [List.map_append, hps]; rfl, h2⟩⟩))
    W (fun k hk => Nat.lt_of_lt_of_le (hb k hk) hW.size) (hR.keeps (keepsC_below hW) hbY hy h0 h1) (fun s A B ⟨ps, hps, hs⟩ hg => ⟨ps, hps, hJ ps A B none hs hg (fun r e => by cases e)⟩) ⟨[], rfl, hI⟩).mono (fun e W' h => by
      obtain ⟨h1, h2⟩ := h
      refine ⟨h1, ?_⟩
      rcases h2 with ⟨ys, hys, ps, hps, hj⟩ | ⟨pre, _, ps, hps, hj⟩
      · exact .inl ⟨ps, hps.trans hys, hj⟩
      · exact .inr ⟨ps, trivial, hj⟩)
/-- between two rounds over the hops -/
structure HopI (w W : World) (t1 t2 t3 t4 : TypeId) (bC bY : Nat) (v : Value) (ds : List Nat) (s : RS) (pre : List Hop) (s' : RS) (ch : Bool) (np nn : Nat) (C X : Nat → Nat → Int) (F : Nat → Bool) (q0 q1 : Nat → Int) : Prop where
  sy : Sy w W [(w.heap.size, distC s', t1), (w.heap.size + 1, byC s', t2), (bC, #[.bool ch], t3), (bY, #[v], t4)] [] []
  inv : RInv np nn C X F q0 q1 s'
  no : ch = false → s' = s ∧ ∀ h ∈ pre, fires s h = false
  yes : ch = true → height np nn q0 q1 s' < height np nn q0 q1 s
  mks : ∀ D ∈ ds, w.heap.size ≤ D ∧ W.heap[D]? = some (.deferred (some []))
def HopEx {α : Type} (w W : World) (t1 t2 t3 t4 : TypeId) (bC bY : Nat) (v : Value) (ds : List Nat) (s : RS) (f : α → Hop) (pre : List α) (np nn : Nat) (C X : Nat → Nat → Int) (F : Nat → Bool) (q0 q1 : Nat → Int) : Prop := ∃ s' ch', Hid (HopI w W t1 t2 t3 t4 bC bY v ds s (pre.map f) s' ch' np nn C X F q0 q1)
theorem in_gapp {G : Act → World → Prop} {a : Act} {W : World} {S : World → Prop} (h : S W) (k : ∀ V, S V → G a V) : G a W := k W h
theorem HopI.heap {w X Y : World} {t1 t2 t3 t4 : TypeId} {bC bY : Nat} {v : Value} {ds : List Nat} {s : RS} {pre : List Hop} {s' : RS} {ch : Bool} {np nn : Nat} {C K : Nat → Nat → Int} {F : Nat → Bool} {q0 q1 : Nat → Int}
    (h : HopI w X t1 t2 t3 t4 bC bY v ds s pre s' ch np nn C K F q0 q1) (e : Y.heap = X.heap ∧ Y.os = X.os ∧ Y.tape = X.tape ∧ Y.output = X.output) : HopI w Y t1 t2 t3 t4 bC bY v ds s pre s' ch np nn C K F q0 q1 :=
  ⟨h.sy.call ⟨e.2.1, e.2.2.1, e.2.2.2, by rw [e.1]; exact Nat.le_refl _, fun k _ => by rw [e.1]⟩, h.inv, h.no, h.yes, fun D hd => ⟨(h.mks D hd).1, by rw [e.1]; exact (h.mks D hd).2⟩⟩
theorem rest_no {α : Type} {w V V3 : World} {t1 t2 t3 t4 : TypeId} {bC bY B : Nat} {v : Value} {ds own : List Nat} {s : RS} {pre : List α} {f : α → Hop} {x : α} {s' : RS} {ch : Bool} {np nn : Nat} {C K : Nat → Nat → Int} {F : Nat → Bool} {q0 q1 : Nat → Int}
    (h : Hid (HopI w V t1 t2 t3 t4 bC bY v ds s (pre.map f) s' ch np nn C K F q0 q1)) (e : Hid (V3.heap = V.heap ∧ V3.os = V.os ∧ V3.tape = V.tape ∧ V3.output = V.output)) (hn : Hid (fires s' (f x) = false)) :
    KeepsFrom B V V3 ∧ KeepsC own V V3 ∧ HopEx w V3 t1 t2 t3 t4 bC bY v ds s f (pre ++ [x]) np nn C K F q0 q1 :=
  ⟨⟨by rw [e.out.1]; exact Nat.le_refl _, fun k o _ hk _ => by rw [e.out.1]; exact hk⟩, ⟨by rw [e.out.1]; exact Nat.le_refl _, fun k o hk _ _ => by rw [e.out.1]; exact hk⟩,
    s', ch, Lib.hid (by
      have h1 := h.out.heap e.out
      refine ⟨h1.sy, h1.inv, fun hc => ⟨(h1.no hc).1, fun y hy => ?_⟩, h1.yes, h1.mks⟩
      rw [List.map_append] at hy
      rcases List.mem_append.1 hy with hy | hy
      · exact (h1.no hc).2 y hy
      · rw [List.mem_singleton.1 hy, ← (h1.no hc).1]; exact hn.out)⟩
theorem HopI.grown {w X Y : World} {t1 t2 t3 t4 : TypeId} {bC bY : Nat} {v : Value} {ds : List Nat} {s : RS} {pre : List Hop} {s' : RS} {ch : Bool} {np nn : Nat} {C K : Nat → Nat → Int} {F : Nat → Bool} {q0 q1 : Nat → Int} {row : Option Nat} {B : Nat}
    (h : HopI w X t1 t2 t3 t4 bC bY v ds s pre s' ch np nn C K F q0 q1) (hg : X.grownBy Y row) (hr : ∀ r, row = some r → B ≤ r ∧ ∃ o : Obj, X.heap[r]? = some o ∧ o.isCells = false) (hB : w.heap.size ≤ B) (hD : ∀ D ∈ ds, D < B) : HopI w Y t1 t2 t3 t4 bC bY v ds s pre s' ch np nn C K F q0 q1 :=
  ⟨sy_grown h.sy hg (fun r e => ⟨Nat.le_trans hB (hr r e).1, (hr r e).2⟩), h.inv, h.no, h.yes, fun D hd => ⟨(h.mks D hd).1, (hg.block D (Array.getElem?_eq_some_iff.1 (h.mks D hd).2).1 (fun e => by
    have := (hr D e.symm).1; have := hD D hd; omega)).trans (h.mks D hd).2⟩⟩
theorem Sy.addB {w W : World} {bs : List (Nat × Array Value × TypeId)} (h : Sy w W bs [] []) {b : Nat} {cs : Array Value} {t : TypeId} (hr : W.heap[b]? = some (.cells cs t (0, 0))) (hge : w.heap.size ≤ b) (hn : b ∉ ownOf bs []) : Sy w W (bs ++ [(b, cs, t)]) [] [] where
  be := h.be
  bx x hx := by
    rcases List.mem_append.1 hx with hx | hx
    · exact h.bx x hx
    · rw [List.mem_singleton.1 hx]; exact ⟨hge, hr⟩
  ow := h.ow
  inc := by
    have h1 := h.inc
    unfold ownOf at h1 hn ⊢
    simp only [List.filterMap_nil, List.append_nil, List.map_append, List.map_cons, List.map_nil] at h1 hn ⊢
    exact List.nodup_append.2 ⟨h1, by simp, fun x hx y hy e => hn (by rw [List.mem_singleton.1 hy] at e; rw [← e]; exact hx)⟩
  rd r hr := by cases hr
theorem rest_yes {α : Type} {w V V3 W' : World} {t1 t2 t3 t4 : TypeId} {bC bY B : Nat} {v : Value} {ds : List Nat} {s : RS} {pre : List α} {f : α → Hop} {x : α} {s' : RS} {ch : Bool} {np nn : Nat} {C K : Nat → Nat → Int} {F : Nat → Bool} {q0 q1 : Nat → Int}
    (h : Hid (HopI w V t1 t2 t3 t4 bC bY v ds s (pre.map f) s' ch np nn C K F q0 q1)) (e : Hid (V3.heap = V.heap ∧ V3.os = V.os ∧ V3.tape = V.tape ∧ V3.output = V.output)) (hq : Feas np nn C K q0 q1) (hx : isHop np nn C K (f x)) (hf : Hid (fires s' (f x) = true))
    (hR : Hid (Sy w W' [(w.heap.size, distC (relax s' (f x)), t1), (w.heap.size + 1, byC (relax s' (f x)), t2), (bC, #[.bool true], t3)] [] [Away [w.heap.size, w.heap.size + 1, bC] V3])) :
    KeepsFrom B V W' ∧ KeepsC [w.heap.size, w.heap.size + 1, bC] V W' ∧ HopEx w W' t1 t2 t3 t4 bC bY v ds s f (pre ++ [x]) np nn C K F q0 q1 := by
  have hA := hR.out.r 0 rfl
  have hA' : V.heap.size ≤ W'.heap.size ∧ ∀ k o, V.heap[k]? = some o → k ∉ [w.heap.size, w.heap.size + 1, bC] → W'.heap[k]? = some o := by
    have h1 := hA.1
    rw [e.out.1] at h1
    refine ⟨h1, fun k o hk hn => ?_⟩
    have hk3 : V3.heap[k]? = some o := by rw [e.out.1]; exact hk
    exact (hA.2 k (Array.getElem?_eq_some_iff.1 hk3).1 hn).trans hk3
  have hnc : ∀ k o, V.heap[k]? = some o → o.isCells = false → k ∉ [w.heap.size, w.heap.size + 1, bC] := fun k o hk ho hm => by
    simp only [List.mem_cons, List.not_mem_nil, or_false] at hm
    rcases hm with rfl | rfl | rfl
    · rw [(h.out.sy.at_ 0 rfl).2] at hk; cases hk; cases ho
    · rw [(h.out.sy.at_ 1 rfl).2] at hk; cases hk; cases ho
    · rw [(h.out.sy.at_ 2 rfl).2] at hk; cases hk; cases ho
  have hinc : [w.heap.size, w.heap.size + 1, bC, bY].Nodup := h.out.sy.inc
  have hbY : bY ∉ [w.heap.size, w.heap.size + 1, bC] := fun hm => by
    simp only [List.nodup_cons, List.mem_cons, List.not_mem_nil, or_false, not_or] at hinc hm
    rcases hm with rfl | rfl | rfl
    · exact hinc.1.2.2 rfl
    · exact hinc.2.1.2 rfl
    · exact hinc.2.2.1 rfl
  refine ⟨⟨hA'.1, fun k o _ hk ho => hA'.2 k o hk (hnc k o hk ho)⟩, ⟨hA'.1, fun k o hk _ hn => hA'.2 k o hk hn⟩, relax s' (f x), true, Lib.hid ⟨?_, relax_inv h.out.inv hq hx, (fun hc => by cases hc), fun _ => ?_, fun D hd => ⟨(h.out.mks D hd).1, hA'.2 D _ (h.out.mks D hd).2 (hnc D _ (h.out.mks D hd).2 rfl)⟩⟩⟩
  · exact (hR.out.pick [] rfl).addB (hA'.2 bY _ (h.out.sy.at_ 3 rfl).2 hbY) (h.out.sy.at_ 3 rfl).1 hbY
  · have h1 := relax_less h.out.inv hq hx hf.out
    cases hc : ch
    · have e2 := (h.out.no hc).1
      rw [e2] at h1 ⊢
      exact h1
    · have := h.out.yes hc; omega
set_option maxHeartbeats 4000000 in
set_option maxRecDepth 100000 in
theorem reach_anyG (y g : Nat) (fb fc : Array Value) (Fr : Nat → Bool) (a0 a1 : Option Addr) (c0 c1 : Nat) (P : List I3) (N : List I2) (X : Nat → Nat → Int) (q0 q1 : Nat → Int) (eg : EG g) (hf : ∀ W, Below w.heap.size w W → ∀ i : Nat, i < P.length → Calls Tryz.prog g (fb.push (.int .i64 i) ++ fc) W (Gives (.bool (Fr i)) W)) (hPl : P.length ≤ 20) (hNl : N.length ≤ 20)
    (hP : ∀ p ∈ P, (-1000000 ≤ p.1 ∧ p.1 ≤ 1000000) ∧ 0 ≤ p.2.2 ∧ p.2.2 ≤ 1000000) (hN : ∀ q ∈ N, -1000000 ≤ q.1 ∧ q.1 ≤ 1000000)
    (hq : Feas P.length N.length (costC P N) X q0 q1) (hq0 : ∀ i, i < P.length → -capN ≤ q0 i ∧ q0 i ≤ capN) (hq1 : ∀ k, k < N.length → -capN ≤ q1 k ∧ q1 k ≤ capN) (hqF : ∀ i, i < P.length → Fr i = true → q0 i ≤ 0) (hcc : ∀ i k, i < P.length → k < N.length → 0 ≤ costC P N i k ∧ costC P N i k ≤ capN)
    (hy0 : w.cell? ⟨y, 0, none⟩ = some (.slice a0 P.length c0)) (hy1 : w.cell? ⟨y, 1, none⟩ = some (.slice a1 N.length c1)) (hyx : ∀ i k, i < P.length → k < N.length → w.cell? ⟨y, 4 + (i * 20 + k), none⟩ = some (.int .i64 (X i k)))
    (hsp : Sx 3 w a0 P.length c0 (L3 P)) (hsn : Sx 2 w a1 N.length c1 (L2 N)) (ly : y < w.heap.size) :
    Calls Tryz.prog 121 #[.pointer (some ⟨y, 0, none⟩), .func (.func g) fb fc] w (RetReach w P.length N.length (costC P N) X Fr q0 q1) := by
  refine callsIn_wide (n := 5).1 ?_
  refine callsIn_of_wp_marks Tryz.func121 rfl trivial ?_ rfl
  simp only [Tryz.ntmps121, List.size_toArray, List.length_cons, List.length_nil, Nat.reduceAdd, Nat.reduceSub, Array.replicate_succ, Array.replicate_zero, List.push_toArray, List.append_toArray, List.nil_append, List.cons_append]
  have hC := Lib.hid (((Sy.enter w).al w.heap.size (distC (dstart Fr 0 0)) 196 rfl).al (w.heap.size + 1) (byC (dstart Fr 0 0)) 198 (by simp))
  have HF := Lib.hid hf
  have HYR := Lib.hid (fun V bY (hV : Below w.heap.size w V) (hc : V.cell? ⟨bY, 0, none⟩ = some (.pointer (some ⟨y, 0, none⟩))) => (show YRd V bY y a0 a1 c0 c1 P N X from
    ⟨hc, (World.cell?_of_block (a := ⟨y, 0, none⟩) (hV.block y ly)).trans hy0, (World.cell?_of_block (a := ⟨y, 1, none⟩) (hV.block y ly)).trans hy1, fun i k hi hk => (World.cell?_of_block (a := ⟨y, 4 + (i * 20 + k), none⟩) (hV.block y ly)).trans (hyx i k hi hk), hsp.below hV, hsn.below hV⟩))
  have HG := Lib.hid (And.intro hq (And.intro hcc (And.intro hP hN)))
  have HI0 := Lib.hid (dist0_inv (F := Fr) hq (fun i hi => ⟨Int.le_trans (hq0 i hi).2 (Int.le_of_lt cap_far), hqF i hi⟩) (fun k hk => Int.le_trans (hq1 k hk).2 (Int.le_of_lt cap_far)))
  have HNN := Lib.hid (fun s (I : RInv P.length N.length (costC P N) X Fr q0 q1 s) => show (∀ i, i < P.length → -1200000 ≤ s.d0.getD i 0) ∧ ∀ k, k < N.length → -1200000 ≤ s.d1.getD k 0 from ⟨fun i hi => Int.le_trans (hq0 i hi).1 (I.lo0 i hi), fun k hk => Int.le_trans (hq1 k hk).1 (I.lo1 k hk)⟩)
  have HSP := Lib.hid (And.intro (fun h g o (e : a0 = some ⟨g, o, none⟩) => (show g < w.heap.size from by
      obtain ⟨g', o', e', hg, _⟩ := hsp.2.2.2 h
      rw [e] at e'; cases e'; exact hg)) (fun h g o (e : a1 = some ⟨g, o, none⟩) => (show g < w.heap.size from by
      obtain ⟨g', o', e', hg, _⟩ := hsn.2.2.2 h
      rw [e] at e'; cases e'; exact hg)))
  clear hf hq hq0 hq1 hqF hcc hP hN hyx hsp hsn
  gi_upto_region 1 with fail
  rw [zero_by]
  refine wpIn_geny hC.out ?_
  intro W1 hc
  have hD : Hid (Sy w W1 [(w.heap.size, distC (dstart Fr 0 0), 196), (w.heap.size + 1, byC (dstart Fr 0 0), 198)] [] []) := Lib.hid hc
  clear hc hC
  have HY := Lib.hid (And.intro hy0 hy1)
  have z0 : W1.cell? ⟨y, 0, none⟩ = some (.slice a0 P.length c0) := (World.cell?_of_block (a := ⟨y, 0, none⟩) (hD.out.be.block y ly)).trans hy0
  have lw := hD.out.be.size
  clear hy0 hy1
  gi_wp2
  gi_loopw [6, 18] (fun _ iv wr => ∃ i : Nat, i ≤ P.length ∧ iv = .int .i64 i ∧ Hid (Sy w wr [(w.heap.size, distC (dstart Fr i 0), 196), (w.heap.size + 1, byC (dstart Fr 0 0), 198)] [] [])) (fun _ iv _ => P.length - (intOf iv).toNat)
  case atStart => exact ⟨0, Nat.zero_le _, rfl, hD⟩
  case round =>
    clear hD z0 lw
    obtain ⟨i, hi, rfl, hD⟩ := hrel
    by_cases hlt : i < P.length
    · have d0 := hD.out.cell 0 i rfl (distC_at0 (by simp [dstart]; omega))
      have d1 := hD.out.free 0 i rfl
      have lw := hD.out.be.size
      have lW := hD.out.lt 0 rfl
      have HST := Lib.hid (show distC (dstart Fr (i + 1) 0) = (distC (dstart Fr i 0)).setIfInBounds i (.int .i64 (if Fr i then 0 else farN)) from by rw [distC_set0 _ (by simp [dstart]; omega)]; unfold distC; rw [dstart_i]; rfl)
      have hE := Lib.hid (hD.out.set 0 (j := i) (v := .int .i64 1125899906842624) rfl)
      have HS := Lib.hid (show i < (distC (dstart Fr i 0)).size from by unfold distC L1; simp [dstart]; omega)
      generalize (dstart Fr i 0).d0.getD i 0 = v at *
      have HC := Lib.hid (HF.out _ hE.out.be i hlt)
      gi_wp2_with fail
      refine ⟨trivial, (callsIn_wide.2 HC.out).mono ?_⟩
      rintro e V ⟨rfl, hb⟩
      have hG := Lib.hid (hE.out.call hb)
      clear hb HC hE hD d0 d1 lw lW
      have d0 := hG.out.cell 0 i rfl (v := .int .i64 1125899906842624) (by have := HS.out; simp [this])
      have d1 := hG.out.free 0 i rfl
      cases hF : Fr i
      · have HFi := Lib.hid hF
        gi_wp2
        go_roundw
        case rel =>
          refine ⟨i + 1, by omega, by go_num, ?_⟩
          rw [HST.out, HFi.out]
          exact hG
        case measure => simp [intOf]; omega
      · have HFi := Lib.hid hF
        have hH := Lib.hid (hG.out.set 0 (j := i) (v := .int .i64 0) rfl)
        gi_wp2
        go_roundw
        case rel =>
          refine ⟨i + 1, by omega, by go_num, ?_⟩
          rw [HST.out, HFi.out]
          have h := hH.out
          rw [Array.setIfInBounds_setIfInBounds] at h
          exact Lib.hid h
        case measure => simp [intOf]; omega
    · obtain rfl : i = P.length := by omega
      have z1 : wr.cell? ⟨y, 1, none⟩ = some (.slice a1 N.length c1) := (World.cell?_of_block (a := ⟨y, 1, none⟩) (hD.out.be.block y ly)).trans HY.out.2
      have lw := hD.out.be.size
      gi_wp2
      gi_loopw [7, 36] (fun _ iv wr => ∃ k : Nat, k ≤ N.length ∧ iv = .int .i64 k ∧ Hid (Sy w wr [(w.heap.size, distC (dstart Fr P.length k), 196), (w.heap.size + 1, byC (dstart Fr 0 0), 198)] [] [])) (fun _ iv _ => N.length - (intOf iv).toNat)
      case atStart => exact ⟨0, Nat.zero_le _, rfl, hD⟩
      case round =>
        clear hD z1 lw
        obtain ⟨k, hk, rfl, hD⟩ := hrel
        by_cases hlt : k < N.length
        · have d0 := hD.out.cell 0 (20 + k) rfl (distC_at1 (by simp [dstart]) (by simp [dstart]; omega))
          have d1 := hD.out.free 0 (20 + k) rfl
          have lw := hD.out.be.size
          have lW := hD.out.lt 0 rfl
          have HST := Lib.hid (show distC (dstart Fr P.length (k + 1)) = (distC (dstart Fr P.length k)).setIfInBounds (20 + k) (.int .i64 farN) from by rw [distC_set1 _ (by simp [dstart])]; unfold distC; rw [dstart_k]; rfl)
          have hE := Lib.hid (hD.out.set 0 (j := 20 + k) (v := .int .i64 1125899906842624) rfl)
          generalize (dstart Fr P.length k).d1.getD k 0 = v at *
          gi_wp2
          go_roundw
          case rel =>
            refine ⟨k + 1, by omega, by go_num, ?_⟩
            rw [HST.out]
            exact hE
          case measure => simp [intOf]; omega
        · obtain rfl : k = N.length := by omega
          have hE := Lib.hid (hD.out.al wr.heap.size #[.bool true] 4 rfl)
          gi_wp2_with fail
          refine in_gen (S := fun V => Hid (Sy w V [(w.heap.size, distC (dist0 P.length N.length Fr), 196), (w.heap.size + 1, byC (dist0 P.length N.length Fr), 198), (wr.heap.size, #[.bool true], 4)] [] [])) hE ?_
          intro V hE0
          clear hE hD
          refine wpIn_loop_ghost (σ := RS × Bool) (fun σ a W => ∃ (bC : Nat) (u43 u44 u45 u98 : Value) (ds : List Nat), a = { tmps := #[.pointer (some ⟨y, 0, none⟩), .func (.func g) fb fc, undef, undef, .pointer (some ⟨w.heap.size, 0, none⟩), .pointer (some ⟨w.heap.size + 1, 0, none⟩), u6, u7, .pointer (some ⟨bC, 0, none⟩), undef, undef, undef, undef, .pointer (some ⟨y, 0, none⟩), .pointer (some ⟨y, 0, none⟩), .pointer (some ⟨y, 0, none⟩), .slice a0 P.length c0, .int .i64 (P.length : Int), .int .i64 (P.length : Int), .bool false, u20, u21, u22, u23, u24, u25, u26, u27, u28, u29, u30, .pointer (some ⟨y, 0, none⟩), .pointer (some ⟨y, 0, none⟩), .pointer (some ⟨y, 1, none⟩), .slice a1 N.length c1, .int .i64 (N.length : Int), .int .i64 (N.length : Int), .bool false, u38, u39, u40, u41, u42, u43, u44, u45, undef, undef, undef, undef, undef, undef, undef, undef, undef, undef, undef, undef, undef, undef, undef, undef, undef, undef, undef, undef, undef, undef, undef, undef, undef, undef, undef, undef, undef, undef, undef, undef, undef, undef, undef, undef, undef, undef, undef, undef, undef, undef, undef, undef, undef, undef, undef, undef, undef, undef, undef, undef, u98, undef, undef], defers := marksOf ds } ∧ Hid (LoopI w W 196 198 4 bC ds σ.1 σ.2 P.length N.length (costC P N) X Fr q0 q1)) (fun σ => if σ.2 then 1 + height P.length N.length q0 q1 σ.1 else 0) ?round (dist0 P.length N.length Fr, true) ⟨wr.heap.size, undef, undef, undef, undef, [], rfl, Lib.hid ⟨hE0.out, HI0.out, (fun h => by cases h), List.nodup_nil, (fun D hD => by cases hD)⟩⟩
          rintro ⟨s, ch⟩ a W ⟨bC, u43, u44, u45, u98, ds, rfl, hL⟩
          dsimp only at hL
          have z0 := hL.out.sy.cell 2 0 rfl rfl
          have z1 := hL.out.sy.free 2 0 rfl
          have lC := hL.out.sy.lt 2 rfl
          cases ch
          · gi_upto_region 26 with fail
            refine wpIn_region_lit ?_
            have hz0 := (hL.out.sy.at_ 0 rfl).2
            have hz1 := (hL.out.sy.at_ 1 rfl).2
            have hsz0 := distC_size hL.out.inv
            have hsz1 := byC_size hL.out.inv
            have hne01 : w.heap.size + 1 ≠ w.heap.size := by omega
            refine wpListIn_plain rfl (fun K1 hK1 => ?_)
            refine wpIn_load_row 196 _ rfl w.heap.size rfl 196 (distC s) (0, 0) _ hz0 Tryz.underlying196 rfl (by rw [hsz0]; kernel_rfl) (hK1 _ _ ?_)
            refine wpListIn_plain rfl (fun K2 hK2 => ?_)
            refine wpIn_load_row 198 _ rfl (w.heap.size + 1) rfl 198 (byC s) (0, 0) _ hz1 Tryz.underlying198 rfl (by rw [hsz1]; kernel_rfl) (hK2 _ _ ?_)
            refine wpListIn_plain rfl (fun K3 hK3 => ?_)
            refine wpIn_store_row 196 _ _ rfl w.heap.size (distC s) rfl rfl 196 (distC s) hz0 (by rw [hsz0]; kernel_rfl) rfl (distC_one s) (hK3 _ _ ?_)
            refine wpListIn_plain rfl (fun K4 hK4 => ?_)
            refine wpIn_store_row 198 _ _ rfl (w.heap.size + 1) (byC s) rfl rfl 198 (byC s) ((setRow_ne hne01).trans hz1) (by rw [hsz1]; kernel_rfl) rfl (byC_one s) (hK4 _ _ ?_)
            refine wpListIn_nil ?_
            have hall : ∀ k, ((W.setRow w.heap.size (distC s)).setRow (w.heap.size + 1) (byC s)).heap[k]? = W.heap[k]? := fun k => (setRow_same ((setRow_ne hne01).trans hz1) k).trans (setRow_same hz0 k)
            have hsz : ((W.setRow w.heap.size (distC s)).setRow (w.heap.size + 1) (byC s)).heap.size = W.heap.size := by rw [setRow_size, setRow_size]
            have ho1 : ((W.setRow w.heap.size (distC s)).setRow (w.heap.size + 1) (byC s)).os = W.os := rfl
            have ho2 : ((W.setRow w.heap.size (distC s)).setRow (w.heap.size + 1) (byC s)).tape = W.tape := rfl
            have ho3 : ((W.setRow w.heap.size (distC s)).setRow (w.heap.size + 1) (byC s)).output = W.output := rfl
            clear z0 z1 lC
            generalize (W.setRow w.heap.size (distC s)).setRow (w.heap.size + 1) (byC s) = W2 at *
            have HA := Lib.hid (And.intro hall (And.intro hsz (And.intro ho1 (And.intro ho2 ho3))))
            have HZ := Lib.hid (And.intro hz0 (And.intro hz1 (And.intro hsz0 hsz1)))
            clear hall hsz ho1 ho2 ho3 hz0 hz1 hsz0 hsz1
            simp only [Act.put]
            gi_wp2_with fail
            refine leaves_marks ds W2 hL.out.nd (fun D hD => (HA.out.1 D).trans (hL.out.mks D hD).2) (fun w' hs => ?_)
            have hn0 : w.heap.size ∉ ds := fun hm => by have h1 := (hL.out.mks _ hm).2; rw [HZ.out.1] at h1; cases h1
            have hn1 : w.heap.size + 1 ∉ ds := fun hm => by have h1 := (hL.out.mks _ hm).2; rw [HZ.out.2.1] at h1; cases h1
            refine ⟨_, results_cell2_row Tryz.results121 _ w' w.heap.size (w.heap.size + 1) 196 198 (distC s) (byC s) (0, 0) (0, 0) _ _ rfl (((hs.at_ _ hn0).trans (HA.out.1 _)).trans HZ.out.1) rfl (((hs.at_ _ hn1).trans (HA.out.1 _)).trans HZ.out.2.1)
              Tryz.underlying196 rfl (by rw [HZ.out.2.2.1]; kernel_rfl) Tryz.underlying198 rfl (by rw [HZ.out.2.2.2]; kernel_rfl), s, rfl, hL.out.inv, hL.out.fx rfl, ?_⟩
            have hbe := hL.out.sy.be
            exact ⟨(hs.os.trans HA.out.2.2.1).trans hbe.os, (hs.tape.trans HA.out.2.2.2.1).trans hbe.tape, (hs.output.trans HA.out.2.2.2.2).trans hbe.output, by rw [hs.size, HA.out.2.1]; exact hbe.size,
              fun k hk => ((hs.at_ k (fun hm => by have := (hL.out.mks _ hm).1; omega)).trans (HA.out.1 k)).trans (hbe.block k hk)⟩
          · have hne : ∀ D ∈ ds, D ≠ bC := fun D hD e => by
              have h1 := (hL.out.mks D hD).2
              rw [e, (hL.out.sy.at_ 2 rfl).2] at h1
              cases h1
            have hE := Lib.hid (show HopI w ((W.setCell ⟨bC, 0, none⟩ (.bool false)).alloc (.cells #[.pointer (some ⟨y, 0, none⟩)] 115)) 196 198 4 115 bC W.heap.size (.pointer (some ⟨y, 0, none⟩)) ds s [] s false P.length N.length (costC P N) X Fr q0 q1 from
              ⟨(hL.out.sy.set 2 (j := 0) (v := .bool false) rfl).al W.heap.size _ _ (by simp [World.setCell]), hL.out.inv, (fun _ => ⟨rfl, fun h hm => by cases hm⟩), (fun h => by cases h), fun D hD => ⟨(hL.out.mks D hD).1, (below1 _ _).block D (by rw [setCell_size]; exact (Array.getElem?_eq_some_iff.1 (hL.out.mks D hD).2).1) |>.trans ((Below.heap_setCell _ _ _ _ (hne D hD)).trans (hL.out.mks D hD).2)⟩⟩)
            have HL := Lib.hid (And.intro hL.out.nd (fun D (hD : D ∈ ds) => (Array.getElem?_eq_some_iff.1 (hL.out.mks D hD).2).1))
            have HOW := Lib.hid (show ∀ k ∈ [w.heap.size, w.heap.size + 1, bC], w.heap.size ≤ k ∧ k < W.heap.size from fun k hk => by
              simp only [List.mem_cons, List.not_mem_nil, or_false] at hk
              rcases hk with rfl | rfl | rfl
              · exact ⟨Nat.le_refl _, hL.out.sy.lt 0 rfl⟩
              · exact ⟨Nat.le_succ _, hL.out.sy.lt 1 rfl⟩
              · exact ⟨(hL.out.sy.at_ 2 rfl).1, lC⟩)
            clear hne hL
            gi_wp2_with (refine ⟨trivial, (callsIn_wide.2 (hops_any _ y)).mono ?_⟩; rintro e w' ⟨rfl, rfl⟩)
            refine in_gen (S := fun V => Hid (HopI w V 196 198 4 115 bC W.heap.size (.pointer (some ⟨y, 0, none⟩)) ds s [] s false P.length N.length (costC P N) X Fr q0 q1)) hE ?_
            clear hE
            intro V0 hE
            have hVs := hE.out.sy.lt 3 rfl
            have hown : ∀ k ∈ [w.heap.size, w.heap.size + 1, bC], k < V0.heap.size := fun k hk => by have := (HOW.out k hk).2; omega
            have hDs : ∀ D ∈ ds, D < V0.heap.size := fun D hD => by have := HL.out.2 D hD; omega
            have HW0 := Lib.hid (And.intro hown hDs)
            generalize W.heap.size = bY at *
            have hyd := HYR.out V0 bY hE.out.sy.be (hE.out.sy.cell 3 0 rfl rfl)
            have hbe := hE.out.sy.be.size
            refine wpIn_rangeFunc_ownH rfl (by omega) (gf := 142) (lb := #[.pointer (some ⟨bY, 0, none⟩)]) rfl trivial (enters_of Tryz.func142 (by kernel_rfl) rfl)
              (hops_stops V0 bY y a0 a1 c0 c1 P N X [w.heap.size, w.heap.size + 1, bC] HG.out.2.2.1 HG.out.2.2.2 hPl hNl (fun hm => by have := (HOW.out _ hm).2; omega) (fun hm => by have := (HOW.out _ hm).1; omega) (fun h g o e hm => by have := (HOW.out _ hm).1; have := HSP.out.1 h g o e; omega) (fun h g o e hm => by have := (HOW.out _ hm).1; have := HSP.out.2 h g o e; omega) hown hyd)
              keepsC_t keepsC_b (Below.refl _ _) (fun _ => rfl)
              (fun (pre : List (HopV P N X)) V => HopEx w V 196 198 4 115 bC bY (.pointer (some ⟨y, 0, none⟩)) ds s Subtype.val pre P.length N.length (costC P N) X Fr q0 q1)
              (fun _ _ _ => False)
              (fun pre A B row ⟨s', ch', h⟩ hg hr => ⟨s', ch', Lib.hid (h.out.grown hg hr hbe hDs)⟩) (fun _ _ _ _ _ hs _ _ => hs) ⟨s, false, hE⟩
              (fun x a' V => ∃ bh, a' = { tmps := #[.pointer (some ⟨y, 0, none⟩), .func (.func g) fb fc, undef, undef, .pointer (some ⟨w.heap.size, 0, none⟩), .pointer (some ⟨w.heap.size + 1, 0, none⟩), u6, u7, .pointer (some ⟨bC, 0, none⟩), .pointer (some ⟨bh, 0, none⟩), undef, undef, undef, .pointer (some ⟨y, 0, none⟩), .pointer (some ⟨y, 0, none⟩), .pointer (some ⟨y, 0, none⟩), .slice a0 P.length c0, .int .i64 (P.length : Int), .int .i64 (P.length : Int), .bool false, u20, u21, u22, u23, u24, u25, u26, u27, u28, u29, u30, .pointer (some ⟨y, 0, none⟩), .pointer (some ⟨y, 0, none⟩), .pointer (some ⟨y, 1, none⟩), .slice a1 N.length c1, .int .i64 (N.length : Int), .int .i64 (N.length : Int), .bool false, u38, u39, u40, u41, u42, .bool true, .pointer (some ⟨y, 0, none⟩), .func (.func 142) #[] #[.pointer (some ⟨bY, 0, none⟩)], (.agg #[.int .i64 x.1.i, .int .i64 x.1.k, .bool x.1.b, .int .i64 x.1.c]), undef, undef, undef, undef, undef, undef, undef, undef, undef, undef, undef, undef, undef, undef, undef, undef, undef, undef, undef, undef, undef, undef, undef, undef, undef, undef, undef, undef, undef, undef, undef, undef, undef, undef, undef, undef, undef, undef, undef, undef, undef, undef, undef, undef, undef, undef, undef, undef, undef, undef, undef, u98, undef, undef], defers := [] } ∧ bh ∉ [w.heap.size, w.heap.size + 1, bC] ∧ Hid (V.heap[bh]? = some (.cells (cH x.1).toArray 156 (0, 0))))
              (fun x a' u A B row ⟨bh, h1, h2, h3⟩ hg hr => ⟨bh, h1, h2, Lib.hid ((hg.block bh (Array.getElem?_eq_some_iff.1 h3.out).1 (fun e => by
                obtain ⟨o, ho, hc⟩ := (hr bh e.symm).2
                rw [h3.out] at ho; cases ho; cases hc)).trans h3.out)⟩) ?assign ?body ?done ?stop
            case assign =>
              rintro l pre ⟨⟨hi1, hk1, hb1, hc1⟩, hx⟩ V K ⟨s', ch', hI⟩ hK
              have HK := Lib.hid hK
              have HX := Lib.hid hx
              clear hK
              have hoV : V.heap.size ∉ [w.heap.size, w.heap.size + 1, bC] := fun hm => by
                have h0 := hI.out.sy.lt 0 rfl
                have h1 := hI.out.sy.lt 1 rfl
                have h2 := hI.out.sy.lt 2 rfl
                simp only [List.mem_cons, List.not_mem_nil, or_false] at hm
                omega
              simp only [encH]
              gi_wp2
              refine HK.out _ _ ?_ ?_ ?_ ?_
              · exact (KeepsOthers.alloc V _).from _
              · exact keepsC_below (below1 _ _)
              · exact ⟨s', ch', Lib.hid (hI.out.grown (World.grownBy_alloc V _ none) (fun r e => by cases e) hbe hDs)⟩
              · exact ⟨V.heap.size, rfl, hoV, Lib.hid (World.alloc_heap_new _ _)⟩
            case body =>
              rintro l pre ⟨⟨hi1, hk1, hb1, hc1⟩, hx⟩ a' V hl hrec ⟨s', ch', hI⟩ ⟨bh, rfl, hbh, hB⟩ hN
              have HX := Lib.hid hx
              have hxl : hi1 < P.length ∧ hk1 < N.length := ⟨hx.1, hx.2.1⟩
              have hi2 : hi1 < 20 := by omega
              have hk2 : hk1 < 20 := by omega
              have hb0 : V.cell? ⟨bh, 0, none⟩ = some (.int .i64 hi1) := by unfold World.cell?; rw [hB.out]; rfl
              have hb1' : V.cell? ⟨bh, 1, none⟩ = some (.int .i64 hk1) := by unfold World.cell?; rw [hB.out]; rfl
              have hb2 : V.cell? ⟨bh, 2, none⟩ = some (.bool hb1) := by unfold World.cell?; rw [hB.out]; rfl
              have hb3 : V.cell? ⟨bh, 3, none⟩ = some (.int .i64 hc1) := by unfold World.cell?; rw [hB.out]; rfl
              cases hb1
              · dsimp only
                obtain ⟨hxc0, hxc1⟩ : -3000000 ≤ hc1 ∧ hc1 ≤ 3000000 := by
                  have h := HX.out.2.2
                  have h2 := HG.out.2.1 hi1 hk1 hxl.1 hxl.2
                  unfold capN at h2
                  dsimp only at h
                  rcases h with ⟨_, h3⟩ | ⟨_, h3, _⟩ <;> omega
                gi_upto_region 18 with fail
                refine wpIn_region_quietR (by kernel_rfl) (by kernel_rfl) (by kernel_rfl) ?_
                repeat (gi_big_quiet_step (fail))
                refine wpQuietIn_nil ?_
                intro _ hw'
                obtain ⟨nq, hw''⟩ := hw'
                subst hw''
                have hV1 := Lib.hid (True.intro)
                refine in_gapp (S := fun V2 => Hid (V2.heap = V.heap ∧ V2.os = V.os ∧ V2.tape = V.tape ∧ V2.output = V.output)) (Lib.hid ⟨rfl, rfl, rfl, rfl⟩) ?_
                intro V2 hV2
                clear hb0 hb1' hb2
                have e0 : V2.cell? ⟨bh, 0, none⟩ = some (.int .i64 hi1) := by unfold World.cell?; rw [hV2.out.1, hB.out]; rfl
                have e1 : V2.cell? ⟨bh, 1, none⟩ = some (.int .i64 hk1) := by unfold World.cell?; rw [hV2.out.1, hB.out]; rfl
                have e2 : V2.cell? ⟨bh, 2, none⟩ = some (.bool false) := by unfold World.cell?; rw [hV2.out.1, hB.out]; rfl
                have e3 : V2.cell? ⟨bh, 3, none⟩ = some (.int .i64 hc1) := by unfold World.cell?; rw [hV2.out.1, hB.out]; rfl
                have hI2 := Lib.hid (hI.out.heap hV2.out)
                have f0 := hI2.out.sy.cell 0 (hi1) rfl (distC_at0 (by have := hI.out.inv.l0; omega))
                have f1 := hI2.out.sy.cell 0 (20 + hk1) rfl (distC_at1 hI.out.inv.l0 (by have := hI.out.inv.l1; omega))
                have hFR := Lib.hid (show fires s' ⟨hi1, hk1, false, hc1⟩ = (decide (s'.d0.getD hi1 0 < farN) && decide (s'.d0.getD hi1 0 + hc1 < s'.d1.getD hk1 0)) from rfl)
                obtain ⟨hd0, hd1⟩ : -1200000 ≤ s'.d0.getD hi1 0 ∧ s'.d0.getD hi1 0 ≤ 1125899906842624 := ⟨(HNN.out s' hI.out.inv).1 hi1 hxl.1, hI.out.inv.up0 hi1 hxl.1⟩
                have HDF := Lib.hid (rfl : s'.d0.getD hi1 0 = s'.d0.getD hi1 0)
                generalize hdf : s'.d0.getD hi1 0 = df at *
                generalize hdt : s'.d1.getD hk1 0 = dt at *
                have HD2 := Lib.hid (And.intro hdf hdt)
                clear hdf hdt HDF
                gi_upto_region 22 with fail
                cases h1 : decide (df < 1125899906842624)
                · have HNF := Lib.hid (show fires s' ⟨hi1, hk1, false, hc1⟩ = false by rw [hFR.out]; unfold farN; rw [h1]; rfl)
                  refine wpIn_region_quietR (by kernel_rfl) (by kernel_rfl) (by kernel_rfl) ?_
                  repeat (gi_big_quiet_step (fail))
                  refine wpQuietIn_nil ?_
                  intro _ hw'
                  obtain ⟨nq, hw''⟩ := hw'
                  subst hw''
                  refine in_gapp (S := fun V3 => Hid (V3.heap = V.heap ∧ V3.os = V.os ∧ V3.tape = V.tape ∧ V3.output = V.output)) (Lib.hid hV2.out) ?_
                  intro V3 hV3
                  gi_wp2
                  exact rest_no (x := ⟨⟨hi1, hk1, false, hc1⟩, HX.out⟩) hI hV3 HNF
                · have HH1 := Lib.hid h1
                  cases h2 : decide (df + hc1 < dt)
                  · have HNF := Lib.hid (show fires s' ⟨hi1, hk1, false, hc1⟩ = false by rw [hFR.out]; unfold farN; rw [h1, h2]; rfl)
                    refine wpIn_region_quietR (by kernel_rfl) (by kernel_rfl) (by kernel_rfl) ?_
                    repeat (gi_big_quiet_step (fail))
                    refine wpQuietIn_nil ?_
                    intro _ hw'
                    obtain ⟨nq, hw''⟩ := hw'
                    subst hw''
                    refine in_gapp (S := fun V3 => Hid (V3.heap = V.heap ∧ V3.os = V.os ∧ V3.tape = V.tape ∧ V3.output = V.output)) (Lib.hid hV2.out) ?_
                    intro V3 hV3
                    gi_wp2
                    exact rest_no (x := ⟨⟨hi1, hk1, false, hc1⟩, HX.out⟩) hI hV3 HNF
                  · have HNF := Lib.hid (show fires s' ⟨hi1, hk1, false, hc1⟩ = true by rw [hFR.out]; unfold farN; rw [h1, h2]; rfl)
                    refine wpIn_region_quietR (by kernel_rfl) (by kernel_rfl) (by kernel_rfl) ?_
                    repeat (gi_big_quiet_step (fail))
                    refine wpQuietIn_nil ?_
                    intro _ hw'
                    obtain ⟨nq, hw''⟩ := hw'
                    subst hw''
                    refine in_gapp (S := fun V3 => Hid (V3.heap = V.heap ∧ V3.os = V.os ∧ V3.tape = V.tape ∧ V3.output = V.output)) (Lib.hid hV2.out) ?_
                    intro V3 hV3
                    have g0 : V3.cell? ⟨bh, 0, none⟩ = some (.int .i64 hi1) := by unfold World.cell?; rw [hV3.out.1, hB.out]; rfl
                    have g1 : V3.cell? ⟨bh, 1, none⟩ = some (.int .i64 hk1) := by unfold World.cell?; rw [hV3.out.1, hB.out]; rfl
                    have g2 : V3.cell? ⟨bh, 2, none⟩ = some (.bool false) := by unfold World.cell?; rw [hV3.out.1, hB.out]; rfl
                    have g3 : V3.cell? ⟨bh, 3, none⟩ = some (.int .i64 hc1) := by unfold World.cell?; rw [hV3.out.1, hB.out]; rfl
                    have hI3 := Lib.hid (hI.out.heap hV3.out)
                    have k0 := hI3.out.sy.cell 0 (hi1) rfl (distC_at0 (by have := hI.out.inv.l0; omega))
                    have k1 := hI3.out.sy.cell 0 (20 + hk1) rfl (distC_at1 hI.out.inv.l0 (by have := hI.out.inv.l1; omega))
                    rw [HD2.out.1] at k0
                    rw [HD2.out.2] at k1
                    have k2 := hI3.out.sy.free 0 (20 + hk1) rfl
                    have m0 := hI3.out.sy.cell 1 (80 + hk1 * 4) rfl (byC_at1 (j := 0) hI.out.inv.l2 (by have := hI.out.inv.l3; omega) (by omega))
                    have m1 := hI3.out.sy.cell 1 (80 + hk1 * 4 + 1) rfl (byC_at1 (j := 1) hI.out.inv.l2 (by have := hI.out.inv.l3; omega) (by omega))
                    have m2 := hI3.out.sy.cell 1 (80 + hk1 * 4 + 2) rfl (byC_at1 (j := 2) hI.out.inv.l2 (by have := hI.out.inv.l3; omega) (by omega))
                    have m3 := hI3.out.sy.cell 1 (80 + hk1 * 4 + 3) rfl (byC_at1 (j := 3) hI.out.inv.l2 (by have := hI.out.inv.l3; omega) (by omega))
                    have n0 := hI3.out.sy.free 1 (80 + hk1 * 4) rfl
                    have n1 := hI3.out.sy.free 1 (80 + hk1 * 4 + 1) rfl
                    have n2 := hI3.out.sy.free 1 (80 + hk1 * 4 + 2) rfl
                    have n3 := hI3.out.sy.free 1 (80 + hk1 * 4 + 3) rfl
                    have o0 := hI3.out.sy.cell 2 0 rfl rfl
                    have o1 := hI3.out.sy.free 2 0 rfl
                    clear e0 e1 e2 e3 f0 f1
                    gi_upto_region 23 with fail
                    have hwr : IntKind.i64.wrap (df + hc1) = df + hc1 := by rw [IntKind.wrap_i64]; omega
                    have HBL := Lib.hid (World.block_lt_of_cell? _ _ g0)
                    have HB0 := Lib.hid g0
                    have HB1 := Lib.hid g1
                    have HB2 := Lib.hid g2
                    have HB3 := Lib.hid g3
                    have HQ0 := Lib.hid (show (distC s')[hi1]? = some (.int .i64 df) from by rw [← HD2.out.1]; exact distC_at0 (by have := hI.out.inv.l0; omega))
                    have HQ1 := Lib.hid (show ((distC s').setIfInBounds (20 + hk1) (.int .i64 (df + hc1)))[hi1]? = some (.int .i64 df) from by rw [Array.getElem?_setIfInBounds_ne (by omega)]; exact HQ0.out)
                    have hR := Lib.hid (show Sy w V3 [(w.heap.size, distC s', 196), (w.heap.size + 1, byC s', 198), (bC, #[.bool ch'], 4)] [] [Away [w.heap.size, w.heap.size + 1, bC] V3] from (hI3.out.sy.thin (List.Sublist.cons_cons _ (List.Sublist.cons_cons _ (List.Sublist.cons_cons _ (List.nil_sublist _)))) (List.Sublist.refl _)).push (fun U hU => hU))
                    clear g0 g1 g2 g3 k0 k1 k2 m0 m1 m2 m3 n0 n1 n2 n3 o0 o1
                    refine wpIn_mono (Q := fun e a' W' => e = .normal ∧ Hid (Sy w W' [(w.heap.size, (distC s').setIfInBounds (20 + hk1) (.int .i64 (df + hc1)), 196), (w.heap.size + 1, ((((byC s').setIfInBounds (80 + hk1 * 4) (.int .i64 hi1)).setIfInBounds (80 + hk1 * 4 + 1) (.int .i64 hk1)).setIfInBounds (80 + hk1 * 4 + 2) (.bool false)).setIfInBounds (80 + hk1 * 4 + 3) (.int .i64 hc1), 198), (bC, #[.bool true], 4)] [] [Away [w.heap.size, w.heap.size + 1, bC] V3])) ?regfalse ?restfalse
                    case regfalse =>
                      refine wpIn_region_round (R := fun _ W' => Hid (Sy w W' [(w.heap.size, (distC s').setIfInBounds (20 + hk1) (.int .i64 (df + hc1)), 196), (w.heap.size + 1, ((((byC s').setIfInBounds (80 + hk1 * 4) (.int .i64 hi1)).setIfInBounds (80 + hk1 * 4 + 1) (.int .i64 hk1)).setIfInBounds (80 + hk1 * 4 + 2) (.bool false)).setIfInBounds (80 + hk1 * 4 + 3) (.int .i64 hc1), 198), (bC, #[.bool true], 4)] [] [Away [w.heap.size, w.heap.size + 1, bC] V3])) (S := (fun w' => w'.cell? ⟨bh, 0, none⟩ = some (.int .i64 hi1) ∧ w'.cell? ⟨bh, 1, none⟩ = some (.int .i64 hk1) ∧ w'.cell? ⟨bh, 2, none⟩ = some (.bool false) ∧ w'.cell? ⟨bh, 3, none⟩ = some (.int .i64 hc1) ∧ w'.cell? ⟨w.heap.size, hi1, none⟩ = some (.int .i64 df) ∧ True)) (by kernel_rfl) (by kernel_rfl) ⟨(away_cell (hR.out.drew.r 0 rfl) HBL.out hbh).trans HB0.out, (away_cell (hR.out.drew.r 0 rfl) HBL.out hbh).trans HB1.out, (away_cell (hR.out.drew.r 0 rfl) HBL.out hbh).trans HB2.out, (away_cell (hR.out.drew.r 0 rfl) HBL.out hbh).trans HB3.out, hR.out.drew.cell 0 (hi1) rfl HQ0.out, trivial⟩ (fun hH => ?_)
                      refine wpAnyH_geny (show Sy w _ [(w.heap.size, distC s', 196), (w.heap.size + 1, byC s', 198), (bC, #[.bool ch'], 4)] [] [Away [w.heap.size, w.heap.size + 1, bC] V3] from hR.out.drew) hH ?_
                      intro VR0 hc hH0
                      have hR0 := Lib.hid hc
                      clear hc hH hR
                      try simp only [Act.put, List.setIfInBounds_toArray, List.set_cons_zero, List.set_cons_succ]
                      refine wpAnyH_take (i := 0) (oi := ⟨_, _, _, _, _, _⟩) (v := ?_) rfl (by kernel_rfl) (by kernel_rfl) (by kernel_rfl) (fun _ _ _ h => h) (Or.inl ⟨by rfl, ?_⟩) hH0 ?_
                      rotate_left
                      · intro wS hSw; (try dsimp only at hSw); go_simp; try with_reducible rfl
                      try simp only [Act.put, List.setIfInBounds_toArray, List.set_cons_zero, List.set_cons_succ]
                      refine wpAnyH_take (i := 1) (oi := ⟨_, _, _, _, _, _⟩) (v := ?_) rfl (by kernel_rfl) (by kernel_rfl) (by kernel_rfl) (fun _ _ _ h => h) (Or.inl ⟨by rfl, ?_⟩) hH0 ?_
                      rotate_left
                      · intro wS hSw; (try dsimp only at hSw); go_simp; try with_reducible rfl
                      try simp only [Act.put, List.setIfInBounds_toArray, List.set_cons_zero, List.set_cons_succ]
                      refine wpAnyH_take (i := 2) (oi := ⟨_, _, _, _, _, _⟩) (v := ?_) rfl (by kernel_rfl) (by kernel_rfl) (by kernel_rfl) (fun _ _ _ h => h) (Or.inl ⟨by rfl, ?_⟩) hH0 ?_
                      rotate_left
                      · intro wS hSw; (try dsimp only at hSw); go_simp; try with_reducible rfl
                      try simp only [Act.put, List.setIfInBounds_toArray, List.set_cons_zero, List.set_cons_succ]
                      refine wpAnyH_take (i := 3) (oi := ⟨_, _, _, _, _, _⟩) (v := ?_) rfl (by kernel_rfl) (by kernel_rfl) (by kernel_rfl) (fun _ _ _ h => h) (Or.inl ⟨by rfl, ?_⟩) hH0 ?_
                      rotate_left
                      · intro wS hSw; (try dsimp only at hSw); go_simp; try with_reducible rfl
                      try simp only [Act.put, List.setIfInBounds_toArray, List.set_cons_zero, List.set_cons_succ]
                      refine wpAnyH_take (i := 4) (oi := ⟨_, _, _, _, _, _⟩) (v := ?_) rfl (by kernel_rfl) (by kernel_rfl) (by kernel_rfl) (fun _ _ _ h => h) (Or.inl ⟨by rfl, ?_⟩) hH0 ?_
                      rotate_left
                      · intro wS hSw; (try dsimp only at hSw); go_simp; try with_reducible rfl
                      try simp only [Act.put, List.setIfInBounds_toArray, List.set_cons_zero, List.set_cons_succ]
                      refine wpAnyH_take (i := 5) (oi := ⟨_, _, _, _, _, _⟩) (v := ?_) rfl (by kernel_rfl) (by kernel_rfl) (by kernel_rfl) (fun _ _ _ h => h) (Or.inl ⟨by rfl, ?_⟩) hH0 ?_
                      rotate_left
                      · intro wS hSw; (try dsimp only at hSw); go_simp; try with_reducible rfl
                      try simp only [Act.put, List.setIfInBounds_toArray, List.set_cons_zero, List.set_cons_succ]
                      refine wpAnyH_take (i := 6) (oi := ⟨_, _, _, _, _, _⟩) (v := ?_) rfl (by kernel_rfl) (by kernel_rfl) (by kernel_rfl) (fun _ _ _ h => h) (Or.inl ⟨by rfl, ?_⟩) hH0 ?_
                      rotate_left
                      · intro wS hSw; (try dsimp only at hSw); go_simp; try with_reducible rfl
                      try simp only [Act.put, List.setIfInBounds_toArray, List.set_cons_zero, List.set_cons_succ]
                      refine wpAnyH_take (i := 7) (oi := ⟨_, _, _, _, _, _⟩) (v := ?_) rfl (by kernel_rfl) (by kernel_rfl) (by kernel_rfl) (fun _ _ _ h => h) (Or.inl ⟨by rfl, ?_⟩) hH0 ?_
                      rotate_left
                      · intro wS hSw; (try dsimp only at hSw); go_simp; try with_reducible rfl
                      try simp only [Act.put, List.setIfInBounds_toArray, List.set_cons_zero, List.set_cons_succ]
                      try simp only [hwr]
                      refine wpAnyH_take (i := 8) (oi := ⟨_, _, _, _, _, _⟩) (v := ?_) rfl (by kernel_rfl) (by kernel_rfl) (by kernel_rfl) (fun _ _ _ h => h) (Or.inl ⟨by rfl, ?_⟩) hH0 ?_
                      rotate_left
                      · intro wS hSw; (try dsimp only at hSw); go_simp; try with_reducible rfl
                      try simp only [Act.put, List.setIfInBounds_toArray, List.set_cons_zero, List.set_cons_succ]
                      refine wpAnyH_take (i := 9) (oi := ⟨_, _, _, _, _, _⟩) (v := ?_) rfl (by kernel_rfl) (by kernel_rfl) (by kernel_rfl) (fun _ _ _ h => h) (Or.inl ⟨by rfl, ?_⟩) hH0 ?_
                      rotate_left
                      · intro wS hSw; (try dsimp only at hSw); go_simp; try with_reducible rfl
                      try simp only [Act.put, List.setIfInBounds_toArray, List.set_cons_zero, List.set_cons_succ]
                      refine wpAnyH_ready (rs := [10]) (by kernel_rfl) (by simp) ?_
                      refine AllReadyH.cons (o := ⟨_, _, _, _, _, _⟩) rfl (fun Kq hKq => ?_) AllReadyH.nil
                      have cQ := hR0.out.cell 0 (20 + hk1) rfl (distC_at1 hI.out.inv.l0 (by have := hI.out.inv.l1; omega))
                      have fQ := hR0.out.free 0 (20 + hk1) rfl
                      go_simp
                      refine stepY hKq (show Sy w _ [(w.heap.size, (distC s').setIfInBounds (20 + hk1) (.int .i64 (df + hc1)), 196), (w.heap.size + 1, byC s', 198), (bC, #[.bool ch'], 4)] [] [Away [w.heap.size, w.heap.size + 1, bC] V3] from hR0.out.set 0 (j := 20 + hk1) (v := .int .i64 (df + hc1)) rfl) (fun _ hX => ⟨(away_cell (hX.r 0 rfl) HBL.out hbh).trans HB0.out, (away_cell (hX.r 0 rfl) HBL.out hbh).trans HB1.out, (away_cell (hX.r 0 rfl) HBL.out hbh).trans HB2.out, (away_cell (hX.r 0 rfl) HBL.out hbh).trans HB3.out, hX.cell 0 (hi1) rfl HQ1.out, trivial⟩) ?_
                      intro VR1 hc hH1
                      have hR1 := Lib.hid hc
                      clear hc hKq Kq
                      try simp only [Act.put, List.setIfInBounds_toArray, List.set_cons_zero, List.set_cons_succ]
                      clear cQ fQ
                      refine wpAnyH_take (i := 11) (oi := ⟨_, _, _, _, _, _⟩) (v := ?_) rfl (by kernel_rfl) (by kernel_rfl) (by kernel_rfl) (fun _ _ _ h => h) (Or.inl ⟨by rfl, ?_⟩) hH1 ?_
                      rotate_left
                      · intro wS hSw; (try dsimp only at hSw); go_simp; try with_reducible rfl
                      try simp only [Act.put, List.setIfInBounds_toArray, List.set_cons_zero, List.set_cons_succ]
                      refine wpAnyH_ready (rs := [12]) (by kernel_rfl) (by simp) ?_
                      refine AllReadyH.cons (o := ⟨_, _, _, _, _, _⟩) rfl (fun Kq hKq => ?_) AllReadyH.nil
                      have cQ0 := hR1.out.cell 1 (80 + hk1 * 4) rfl (byC_at1 (j := 0) hI.out.inv.l2 (by have := hI.out.inv.l3; omega) (by omega))
                      have cQ1 := hR1.out.cell 1 (80 + hk1 * 4 + 1) rfl (byC_at1 (j := 1) hI.out.inv.l2 (by have := hI.out.inv.l3; omega) (by omega))
                      have cQ2 := hR1.out.cell 1 (80 + hk1 * 4 + 2) rfl (byC_at1 (j := 2) hI.out.inv.l2 (by have := hI.out.inv.l3; omega) (by omega))
                      have cQ3 := hR1.out.cell 1 (80 + hk1 * 4 + 3) rfl (byC_at1 (j := 3) hI.out.inv.l2 (by have := hI.out.inv.l3; omega) (by omega))
                      have fQ0 := hR1.out.free 1 (80 + hk1 * 4) rfl
                      have fQ1 := hR1.out.free 1 (80 + hk1 * 4 + 1) rfl
                      have fQ2 := hR1.out.free 1 (80 + hk1 * 4 + 2) rfl
                      have fQ3 := hR1.out.free 1 (80 + hk1 * 4 + 3) rfl
                      go_simp
                      refine stepY hKq (show Sy w _ [(w.heap.size, (distC s').setIfInBounds (20 + hk1) (.int .i64 (df + hc1)), 196), (w.heap.size + 1, ((((byC s').setIfInBounds (80 + hk1 * 4) (.int .i64 hi1)).setIfInBounds (80 + hk1 * 4 + 1) (.int .i64 hk1)).setIfInBounds (80 + hk1 * 4 + 2) (.bool false)).setIfInBounds (80 + hk1 * 4 + 3) (.int .i64 hc1), 198), (bC, #[.bool ch'], 4)] [] [Away [w.heap.size, w.heap.size + 1, bC] V3] from ((((hR1.out.set 1 (j := 80 + hk1 * 4) (v := .int .i64 hi1) rfl).set 1 (j := 80 + hk1 * 4 + 1) (v := .int .i64 hk1) rfl).set 1 (j := 80 + hk1 * 4 + 2) (v := .bool false) rfl).set 1 (j := 80 + hk1 * 4 + 3) (v := .int .i64 hc1) rfl)) (fun _ hX => ⟨(away_cell (hX.r 0 rfl) HBL.out hbh).trans HB0.out, (away_cell (hX.r 0 rfl) HBL.out hbh).trans HB1.out, (away_cell (hX.r 0 rfl) HBL.out hbh).trans HB2.out, (away_cell (hX.r 0 rfl) HBL.out hbh).trans HB3.out, hX.cell 0 (hi1) rfl HQ1.out, trivial⟩) ?_
                      intro VR2 hc hH2
                      have hR2 := Lib.hid hc
                      clear hc hKq Kq
                      try simp only [Act.put, List.setIfInBounds_toArray, List.set_cons_zero, List.set_cons_succ]
                      clear cQ0 fQ0 cQ1 fQ1 cQ2 fQ2 cQ3 fQ3
                      refine wpAnyH_ready (rs := [13]) (by kernel_rfl) (by simp) ?_
                      refine AllReadyH.cons (o := ⟨_, _, _, _, _, _⟩) rfl (fun Kq hKq => ?_) AllReadyH.nil
                      have cQ := hR2.out.cell 2 0 rfl rfl
                      have fQ := hR2.out.free 2 0 rfl
                      go_simp
                      refine stepY hKq (show Sy w _ [(w.heap.size, (distC s').setIfInBounds (20 + hk1) (.int .i64 (df + hc1)), 196), (w.heap.size + 1, ((((byC s').setIfInBounds (80 + hk1 * 4) (.int .i64 hi1)).setIfInBounds (80 + hk1 * 4 + 1) (.int .i64 hk1)).setIfInBounds (80 + hk1 * 4 + 2) (.bool false)).setIfInBounds (80 + hk1 * 4 + 3) (.int .i64 hc1), 198), (bC, #[.bool true], 4)] [] [Away [w.heap.size, w.heap.size + 1, bC] V3] from hR2.out.set 2 (j := 0) (v := .bool true) rfl) (fun _ hX => ⟨(away_cell (hX.r 0 rfl) HBL.out hbh).trans HB0.out, (away_cell (hX.r 0 rfl) HBL.out hbh).trans HB1.out, (away_cell (hX.r 0 rfl) HBL.out hbh).trans HB2.out, (away_cell (hX.r 0 rfl) HBL.out hbh).trans HB3.out, hX.cell 0 (hi1) rfl HQ1.out, trivial⟩) ?_
                      intro VR3 hc hH3
                      have hR3 := Lib.hid hc
                      clear hc hKq Kq
                      try simp only [Act.put, List.setIfInBounds_toArray, List.set_cons_zero, List.set_cons_succ]
                      clear cQ fQ
                      refine wpAnyH_done (by kernel_rfl) ?_ _
                      exact ⟨rfl, hR3⟩
                    case restfalse =>
                      rintro e a' W' ⟨rfl, hR⟩
                      gi_wp2
                      have hrl := (relax_fwd (s := s') (h := ⟨hi1, hk1, false, hc1⟩) rfl HNF.out).1
                      refine rest_yes (x := ⟨⟨hi1, hk1, false, hc1⟩, HX.out⟩) hI hV3 HG.out.1 HX.out HNF (Lib.hid ?_)
                      have h := hR.out
                      rw [distC_set1 _ hI.out.inv.l0] at h
                      rw [byC_set1 ⟨hi1, hk1, false, hc1⟩ hI.out.inv.l2 (by have := hI.out.inv.l3; omega)] at h
                      rw [← HD2.out.1] at h
                      rw [hrl]
                      exact h
              · dsimp only
                obtain ⟨hxc0, hxc1⟩ : -3000000 ≤ hc1 ∧ hc1 ≤ 3000000 := by
                  have h := HX.out.2.2
                  have h2 := HG.out.2.1 hi1 hk1 hxl.1 hxl.2
                  unfold capN at h2
                  dsimp only at h
                  rcases h with ⟨_, h3⟩ | ⟨_, h3, _⟩ <;> omega
                gi_upto_region 18 with fail
                refine wpIn_region_quietR (by kernel_rfl) (by kernel_rfl) (by kernel_rfl) ?_
                repeat (gi_big_quiet_step (fail))
                refine wpQuietIn_nil ?_
                intro _ hw'
                obtain ⟨nq, hw''⟩ := hw'
                subst hw''
                refine in_gapp (S := fun V1 => Hid (V1.heap = V.heap ∧ V1.os = V.os ∧ V1.tape = V.tape ∧ V1.output = V.output)) (Lib.hid ⟨rfl, rfl, rfl, rfl⟩) ?_
                intro V1 hV1
                have ha0 : V1.cell? ⟨bh, 0, none⟩ = some (.int .i64 hi1) := by unfold World.cell?; rw [hV1.out.1, hB.out]; rfl
                have ha1 : V1.cell? ⟨bh, 1, none⟩ = some (.int .i64 hk1) := by unfold World.cell?; rw [hV1.out.1, hB.out]; rfl
                have ha2 : V1.cell? ⟨bh, 2, none⟩ = some (.bool true) := by unfold World.cell?; rw [hV1.out.1, hB.out]; rfl
                clear hb0 hb1' hb2 hb3
                gi_upto_region 21 with fail
                refine wpIn_region_quietR (by kernel_rfl) (by kernel_rfl) (by kernel_rfl) ?_
                repeat (gi_big_quiet_step (fail))
                refine wpQuietIn_nil ?_
                intro _ hw'
                obtain ⟨nq, hw''⟩ := hw'
                subst hw''
                have hb0 := ha0
                have hb1' := ha1
                have hb2 := ha2
                refine in_gapp (S := fun V2 => Hid (V2.heap = V.heap ∧ V2.os = V.os ∧ V2.tape = V.tape ∧ V2.output = V.output)) (Lib.hid hV1.out) ?_
                intro V2 hV2
                clear hb0 hb1' hb2
                have e0 : V2.cell? ⟨bh, 0, none⟩ = some (.int .i64 hi1) := by unfold World.cell?; rw [hV2.out.1, hB.out]; rfl
                have e1 : V2.cell? ⟨bh, 1, none⟩ = some (.int .i64 hk1) := by unfold World.cell?; rw [hV2.out.1, hB.out]; rfl
                have e2 : V2.cell? ⟨bh, 2, none⟩ = some (.bool true) := by unfold World.cell?; rw [hV2.out.1, hB.out]; rfl
                have e3 : V2.cell? ⟨bh, 3, none⟩ = some (.int .i64 hc1) := by unfold World.cell?; rw [hV2.out.1, hB.out]; rfl
                have hI2 := Lib.hid (hI.out.heap hV2.out)
                have f0 := hI2.out.sy.cell 0 (20 + hk1) rfl (distC_at1 hI.out.inv.l0 (by have := hI.out.inv.l1; omega))
                have f1 := hI2.out.sy.cell 0 (hi1) rfl (distC_at0 (by have := hI.out.inv.l0; omega))
                have hFR := Lib.hid (show fires s' ⟨hi1, hk1, true, hc1⟩ = (decide (s'.d1.getD hk1 0 < farN) && decide (s'.d1.getD hk1 0 + hc1 < s'.d0.getD hi1 0)) from rfl)
                obtain ⟨hd0, hd1⟩ : -1200000 ≤ s'.d1.getD hk1 0 ∧ s'.d1.getD hk1 0 ≤ 1125899906842624 := ⟨(HNN.out s' hI.out.inv).2 hk1 hxl.2, hI.out.inv.up1 hk1 hxl.2⟩
                have HDF := Lib.hid (rfl : s'.d1.getD hk1 0 = s'.d1.getD hk1 0)
                generalize hdf : s'.d1.getD hk1 0 = df at *
                generalize hdt : s'.d0.getD hi1 0 = dt at *
                have HD2 := Lib.hid (And.intro hdf hdt)
                clear hdf hdt HDF
                gi_upto_region 22 with fail
                cases h1 : decide (df < 1125899906842624)
                · have HNF := Lib.hid (show fires s' ⟨hi1, hk1, true, hc1⟩ = false by rw [hFR.out]; unfold farN; rw [h1]; rfl)
                  refine wpIn_region_quietR (by kernel_rfl) (by kernel_rfl) (by kernel_rfl) ?_
                  repeat (gi_big_quiet_step (fail))
                  refine wpQuietIn_nil ?_
                  intro _ hw'
                  obtain ⟨nq, hw''⟩ := hw'
                  subst hw''
                  refine in_gapp (S := fun V3 => Hid (V3.heap = V.heap ∧ V3.os = V.os ∧ V3.tape = V.tape ∧ V3.output = V.output)) (Lib.hid hV2.out) ?_
                  intro V3 hV3
                  gi_wp2
                  exact rest_no (x := ⟨⟨hi1, hk1, true, hc1⟩, HX.out⟩) hI hV3 HNF
                · have HH1 := Lib.hid h1
                  cases h2 : decide (df + hc1 < dt)
                  · have HNF := Lib.hid (show fires s' ⟨hi1, hk1, true, hc1⟩ = false by rw [hFR.out]; unfold farN; rw [h1, h2]; rfl)
                    refine wpIn_region_quietR (by kernel_rfl) (by kernel_rfl) (by kernel_rfl) ?_
                    repeat (gi_big_quiet_step (fail))
                    refine wpQuietIn_nil ?_
                    intro _ hw'
                    obtain ⟨nq, hw''⟩ := hw'
                    subst hw''
                    refine in_gapp (S := fun V3 => Hid (V3.heap = V.heap ∧ V3.os = V.os ∧ V3.tape = V.tape ∧ V3.output = V.output)) (Lib.hid hV2.out) ?_
                    intro V3 hV3
                    gi_wp2
                    exact rest_no (x := ⟨⟨hi1, hk1, true, hc1⟩, HX.out⟩) hI hV3 HNF
                  · have HNF := Lib.hid (show fires s' ⟨hi1, hk1, true, hc1⟩ = true by rw [hFR.out]; unfold farN; rw [h1, h2]; rfl)
                    refine wpIn_region_quietR (by kernel_rfl) (by kernel_rfl) (by kernel_rfl) ?_
                    repeat (gi_big_quiet_step (fail))
                    refine wpQuietIn_nil ?_
                    intro _ hw'
                    obtain ⟨nq, hw''⟩ := hw'
                    subst hw''
                    refine in_gapp (S := fun V3 => Hid (V3.heap = V.heap ∧ V3.os = V.os ∧ V3.tape = V.tape ∧ V3.output = V.output)) (Lib.hid hV2.out) ?_
                    intro V3 hV3
                    have g0 : V3.cell? ⟨bh, 0, none⟩ = some (.int .i64 hi1) := by unfold World.cell?; rw [hV3.out.1, hB.out]; rfl
                    have g1 : V3.cell? ⟨bh, 1, none⟩ = some (.int .i64 hk1) := by unfold World.cell?; rw [hV3.out.1, hB.out]; rfl
                    have g2 : V3.cell? ⟨bh, 2, none⟩ = some (.bool true) := by unfold World.cell?; rw [hV3.out.1, hB.out]; rfl
                    have g3 : V3.cell? ⟨bh, 3, none⟩ = some (.int .i64 hc1) := by unfold World.cell?; rw [hV3.out.1, hB.out]; rfl
                    have hI3 := Lib.hid (hI.out.heap hV3.out)
                    have k0 := hI3.out.sy.cell 0 (20 + hk1) rfl (distC_at1 hI.out.inv.l0 (by have := hI.out.inv.l1; omega))
                    have k1 := hI3.out.sy.cell 0 (hi1) rfl (distC_at0 (by have := hI.out.inv.l0; omega))
                    rw [HD2.out.1] at k0
                    rw [HD2.out.2] at k1
                    have k2 := hI3.out.sy.free 0 (hi1) rfl
                    have m0 := hI3.out.sy.cell 1 (hi1 * 4) rfl (byC_at0 (j := 0) (by have := hI.out.inv.l2; omega) (by omega))
                    have m1 := hI3.out.sy.cell 1 (hi1 * 4 + 1) rfl (byC_at0 (j := 1) (by have := hI.out.inv.l2; omega) (by omega))
                    have m2 := hI3.out.sy.cell 1 (hi1 * 4 + 2) rfl (byC_at0 (j := 2) (by have := hI.out.inv.l2; omega) (by omega))
                    have m3 := hI3.out.sy.cell 1 (hi1 * 4 + 3) rfl (byC_at0 (j := 3) (by have := hI.out.inv.l2; omega) (by omega))
                    have n0 := hI3.out.sy.free 1 (hi1 * 4) rfl
                    have n1 := hI3.out.sy.free 1 (hi1 * 4 + 1) rfl
                    have n2 := hI3.out.sy.free 1 (hi1 * 4 + 2) rfl
                    have n3 := hI3.out.sy.free 1 (hi1 * 4 + 3) rfl
                    have o0 := hI3.out.sy.cell 2 0 rfl rfl
                    have o1 := hI3.out.sy.free 2 0 rfl
                    clear e0 e1 e2 e3 f0 f1
                    gi_upto_region 23 with fail
                    have hwr : IntKind.i64.wrap (df + hc1) = df + hc1 := by rw [IntKind.wrap_i64]; omega
                    have HBL := Lib.hid (World.block_lt_of_cell? _ _ g0)
                    have HB0 := Lib.hid g0
                    have HB1 := Lib.hid g1
                    have HB2 := Lib.hid g2
                    have HB3 := Lib.hid g3
                    have HQ0 := Lib.hid (show (distC s')[20 + hk1]? = some (.int .i64 df) from by rw [← HD2.out.1]; exact distC_at1 hI.out.inv.l0 (by have := hI.out.inv.l1; omega))
                    have HQ1 := Lib.hid (show ((distC s').setIfInBounds (hi1) (.int .i64 (df + hc1)))[20 + hk1]? = some (.int .i64 df) from by rw [Array.getElem?_setIfInBounds_ne (by omega)]; exact HQ0.out)
                    have hR := Lib.hid (show Sy w V3 [(w.heap.size, distC s', 196), (w.heap.size + 1, byC s', 198), (bC, #[.bool ch'], 4)] [] [Away [w.heap.size, w.heap.size + 1, bC] V3] from (hI3.out.sy.thin (List.Sublist.cons_cons _ (List.Sublist.cons_cons _ (List.Sublist.cons_cons _ (List.nil_sublist _)))) (List.Sublist.refl _)).push (fun U hU => hU))
                    clear g0 g1 g2 g3 k0 k1 k2 m0 m1 m2 m3 n0 n1 n2 n3 o0 o1
                    refine wpIn_mono (Q := fun e a' W' => e = .normal ∧ Hid (Sy w W' [(w.heap.size, (distC s').setIfInBounds (hi1) (.int .i64 (df + hc1)), 196), (w.heap.size + 1, ((((byC s').setIfInBounds (hi1 * 4) (.int .i64 hi1)).setIfInBounds (hi1 * 4 + 1) (.int .i64 hk1)).setIfInBounds (hi1 * 4 + 2) (.bool true)).setIfInBounds (hi1 * 4 + 3) (.int .i64 hc1), 198), (bC, #[.bool true], 4)] [] [Away [w.heap.size, w.heap.size + 1, bC] V3])) ?regtrue ?resttrue
                    case regtrue =>
                      refine wpIn_region_round (R := fun _ W' => Hid (Sy w W' [(w.heap.size, (distC s').setIfInBounds (hi1) (.int .i64 (df + hc1)), 196), (w.heap.size + 1, ((((byC s').setIfInBounds (hi1 * 4) (.int .i64 hi1)).setIfInBounds (hi1 * 4 + 1) (.int .i64 hk1)).setIfInBounds (hi1 * 4 + 2) (.bool true)).setIfInBounds (hi1 * 4 + 3) (.int .i64 hc1), 198), (bC, #[.bool true], 4)] [] [Away [w.heap.size, w.heap.size + 1, bC] V3])) (S := (fun w' => w'.cell? ⟨bh, 0, none⟩ = some (.int .i64 hi1) ∧ w'.cell? ⟨bh, 1, none⟩ = some (.int .i64 hk1) ∧ w'.cell? ⟨bh, 2, none⟩ = some (.bool true) ∧ w'.cell? ⟨bh, 3, none⟩ = some (.int .i64 hc1) ∧ w'.cell? ⟨w.heap.size, 20 + hk1, none⟩ = some (.int .i64 df) ∧ True)) (by kernel_rfl) (by kernel_rfl) ⟨(away_cell (hR.out.drew.r 0 rfl) HBL.out hbh).trans HB0.out, (away_cell (hR.out.drew.r 0 rfl) HBL.out hbh).trans HB1.out, (away_cell (hR.out.drew.r 0 rfl) HBL.out hbh).trans HB2.out, (away_cell (hR.out.drew.r 0 rfl) HBL.out hbh).trans HB3.out, hR.out.drew.cell 0 (20 + hk1) rfl HQ0.out, trivial⟩ (fun hH => ?_)
                      refine wpAnyH_geny (show Sy w _ [(w.heap.size, distC s', 196), (w.heap.size + 1, byC s', 198), (bC, #[.bool ch'], 4)] [] [Away [w.heap.size, w.heap.size + 1, bC] V3] from hR.out.drew) hH ?_
                      intro VR0 hc hH0
                      have hR0 := Lib.hid hc
                      clear hc hH hR
                      try simp only [Act.put, List.setIfInBounds_toArray, List.set_cons_zero, List.set_cons_succ]
                      refine wpAnyH_take (i := 0) (oi := ⟨_, _, _, _, _, _⟩) (v := ?_) rfl (by kernel_rfl) (by kernel_rfl) (by kernel_rfl) (fun _ _ _ h => h) (Or.inl ⟨by rfl, ?_⟩) hH0 ?_
                      rotate_left
                      · intro wS hSw; (try dsimp only at hSw); go_simp; try with_reducible rfl
                      try simp only [Act.put, List.setIfInBounds_toArray, List.set_cons_zero, List.set_cons_succ]
                      refine wpAnyH_take (i := 1) (oi := ⟨_, _, _, _, _, _⟩) (v := ?_) rfl (by kernel_rfl) (by kernel_rfl) (by kernel_rfl) (fun _ _ _ h => h) (Or.inl ⟨by rfl, ?_⟩) hH0 ?_
                      rotate_left
                      · intro wS hSw; (try dsimp only at hSw); go_simp; try with_reducible rfl
                      try simp only [Act.put, List.setIfInBounds_toArray, List.set_cons_zero, List.set_cons_succ]
                      refine wpAnyH_take (i := 2) (oi := ⟨_, _, _, _, _, _⟩) (v := ?_) rfl (by kernel_rfl) (by kernel_rfl) (by kernel_rfl) (fun _ _ _ h => h) (Or.inl ⟨by rfl, ?_⟩) hH0 ?_
                      rotate_left
                      · intro wS hSw; (try dsimp only at hSw); go_simp; try with_reducible rfl
                      try simp only [Act.put, List.setIfInBounds_toArray, List.set_cons_zero, List.set_cons_succ]
                      refine wpAnyH_take (i := 3) (oi := ⟨_, _, _, _, _, _⟩) (v := ?_) rfl (by kernel_rfl) (by kernel_rfl) (by kernel_rfl) (fun _ _ _ h => h) (Or.inl ⟨by rfl, ?_⟩) hH0 ?_
                      rotate_left
                      · intro wS hSw; (try dsimp only at hSw); go_simp; try with_reducible rfl
                      try simp only [Act.put, List.setIfInBounds_toArray, List.set_cons_zero, List.set_cons_succ]
                      refine wpAnyH_take (i := 4) (oi := ⟨_, _, _, _, _, _⟩) (v := ?_) rfl (by kernel_rfl) (by kernel_rfl) (by kernel_rfl) (fun _ _ _ h => h) (Or.inl ⟨by rfl, ?_⟩) hH0 ?_
                      rotate_left
                      · intro wS hSw; (try dsimp only at hSw); go_simp; try with_reducible rfl
                      try simp only [Act.put, List.setIfInBounds_toArray, List.set_cons_zero, List.set_cons_succ]
                      refine wpAnyH_take (i := 5) (oi := ⟨_, _, _, _, _, _⟩) (v := ?_) rfl (by kernel_rfl) (by kernel_rfl) (by kernel_rfl) (fun _ _ _ h => h) (Or.inl ⟨by rfl, ?_⟩) hH0 ?_
                      rotate_left
                      · intro wS hSw; (try dsimp only at hSw); go_simp; try with_reducible rfl
                      try simp only [Act.put, List.setIfInBounds_toArray, List.set_cons_zero, List.set_cons_succ]
                      refine wpAnyH_take (i := 6) (oi := ⟨_, _, _, _, _, _⟩) (v := ?_) rfl (by kernel_rfl) (by kernel_rfl) (by kernel_rfl) (fun _ _ _ h => h) (Or.inl ⟨by rfl, ?_⟩) hH0 ?_
                      rotate_left
                      · intro wS hSw; (try dsimp only at hSw); go_simp; try with_reducible rfl
                      try simp only [Act.put, List.setIfInBounds_toArray, List.set_cons_zero, List.set_cons_succ]
                      refine wpAnyH_take (i := 7) (oi := ⟨_, _, _, _, _, _⟩) (v := ?_) rfl (by kernel_rfl) (by kernel_rfl) (by kernel_rfl) (fun _ _ _ h => h) (Or.inl ⟨by rfl, ?_⟩) hH0 ?_
                      rotate_left
                      · intro wS hSw; (try dsimp only at hSw); go_simp; try with_reducible rfl
                      try simp only [Act.put, List.setIfInBounds_toArray, List.set_cons_zero, List.set_cons_succ]
                      try simp only [hwr]
                      refine wpAnyH_take (i := 8) (oi := ⟨_, _, _, _, _, _⟩) (v := ?_) rfl (by kernel_rfl) (by kernel_rfl) (by kernel_rfl) (fun _ _ _ h => h) (Or.inl ⟨by rfl, ?_⟩) hH0 ?_
                      rotate_left
                      · intro wS hSw; (try dsimp only at hSw); go_simp; try with_reducible rfl
                      try simp only [Act.put, List.setIfInBounds_toArray, List.set_cons_zero, List.set_cons_succ]
                      refine wpAnyH_take (i := 9) (oi := ⟨_, _, _, _, _, _⟩) (v := ?_) rfl (by kernel_rfl) (by kernel_rfl) (by kernel_rfl) (fun _ _ _ h => h) (Or.inl ⟨by rfl, ?_⟩) hH0 ?_
                      rotate_left
                      · intro wS hSw; (try dsimp only at hSw); go_simp; try with_reducible rfl
                      try simp only [Act.put, List.setIfInBounds_toArray, List.set_cons_zero, List.set_cons_succ]
                      refine wpAnyH_ready (rs := [10]) (by kernel_rfl) (by simp) ?_
                      refine AllReadyH.cons (o := ⟨_, _, _, _, _, _⟩) rfl (fun Kq hKq => ?_) AllReadyH.nil
                      have cQ := hR0.out.cell 0 (hi1) rfl (distC_at0 (by have := hI.out.inv.l0; omega))
                      have fQ := hR0.out.free 0 (hi1) rfl
                      go_simp
                      refine stepY hKq (show Sy w _ [(w.heap.size, (distC s').setIfInBounds (hi1) (.int .i64 (df + hc1)), 196), (w.heap.size + 1, byC s', 198), (bC, #[.bool ch'], 4)] [] [Away [w.heap.size, w.heap.size + 1, bC] V3] from hR0.out.set 0 (j := hi1) (v := .int .i64 (df + hc1)) rfl) (fun _ hX => ⟨(away_cell (hX.r 0 rfl) HBL.out hbh).trans HB0.out, (away_cell (hX.r 0 rfl) HBL.out hbh).trans HB1.out, (away_cell (hX.r 0 rfl) HBL.out hbh).trans HB2.out, (away_cell (hX.r 0 rfl) HBL.out hbh).trans HB3.out, hX.cell 0 (20 + hk1) rfl HQ1.out, trivial⟩) ?_
                      intro VR1 hc hH1
                      have hR1 := Lib.hid hc
                      clear hc hKq Kq
                      try simp only [Act.put, List.setIfInBounds_toArray, List.set_cons_zero, List.set_cons_succ]
                      clear cQ fQ
                      refine wpAnyH_take (i := 11) (oi := ⟨_, _, _, _, _, _⟩) (v := ?_) rfl (by kernel_rfl) (by kernel_rfl) (by kernel_rfl) (fun _ _ _ h => h) (Or.inl ⟨by rfl, ?_⟩) hH1 ?_
                      rotate_left
                      · intro wS hSw; (try dsimp only at hSw); go_simp; try with_reducible rfl
                      try simp only [Act.put, List.setIfInBounds_toArray, List.set_cons_zero, List.set_cons_succ]
                      refine wpAnyH_ready (rs := [12]) (by kernel_rfl) (by simp) ?_
                      refine AllReadyH.cons (o := ⟨_, _, _, _, _, _⟩) rfl (fun Kq hKq => ?_) AllReadyH.nil
                      have cQ0 := hR1.out.cell 1 (hi1 * 4) rfl (byC_at0 (j := 0) (by have := hI.out.inv.l2; omega) (by omega))
                      have cQ1 := hR1.out.cell 1 (hi1 * 4 + 1) rfl (byC_at0 (j := 1) (by have := hI.out.inv.l2; omega) (by omega))
                      have cQ2 := hR1.out.cell 1 (hi1 * 4 + 2) rfl (byC_at0 (j := 2) (by have := hI.out.inv.l2; omega) (by omega))
                      have cQ3 := hR1.out.cell 1 (hi1 * 4 + 3) rfl (byC_at0 (j := 3) (by have := hI.out.inv.l2; omega) (by omega))
                      have fQ0 := hR1.out.free 1 (hi1 * 4) rfl
                      have fQ1 := hR1.out.free 1 (hi1 * 4 + 1) rfl
                      have fQ2 := hR1.out.free 1 (hi1 * 4 + 2) rfl
                      have fQ3 := hR1.out.free 1 (hi1 * 4 + 3) rfl
                      go_simp
                      refine stepY hKq (show Sy w _ [(w.heap.size, (distC s').setIfInBounds (hi1) (.int .i64 (df + hc1)), 196), (w.heap.size + 1, ((((byC s').setIfInBounds (hi1 * 4) (.int .i64 hi1)).setIfInBounds (hi1 * 4 + 1) (.int .i64 hk1)).setIfInBounds (hi1 * 4 + 2) (.bool true)).setIfInBounds (hi1 * 4 + 3) (.int .i64 hc1), 198), (bC, #[.bool ch'], 4)] [] [Away [w.heap.size, w.heap.size + 1, bC] V3] from ((((hR1.out.set 1 (j := hi1 * 4) (v := .int .i64 hi1) rfl).set 1 (j := hi1 * 4 + 1) (v := .int .i64 hk1) rfl).set 1 (j := hi1 * 4 + 2) (v := .bool true) rfl).set 1 (j := hi1 * 4 + 3) (v := .int .i64 hc1) rfl)) (fun _ hX => ⟨(away_cell (hX.r 0 rfl) HBL.out hbh).trans HB0.out, (away_cell (hX.r 0 rfl) HBL.out hbh).trans HB1.out, (away_cell (hX.r 0 rfl) HBL.out hbh).trans HB2.out, (away_cell (hX.r 0 rfl) HBL.out hbh).trans HB3.out, hX.cell 0 (20 + hk1) rfl HQ1.out, trivial⟩) ?_
                      intro VR2 hc hH2
                      have hR2 := Lib.hid hc
                      clear hc hKq Kq
                      try simp only [Act.put, List.setIfInBounds_toArray, List.set_cons_zero, List.set_cons_succ]
                      clear cQ0 fQ0 cQ1 fQ1 cQ2 fQ2 cQ3 fQ3
                      refine wpAnyH_ready (rs := [13]) (by kernel_rfl) (by simp) ?_
                      refine AllReadyH.cons (o := ⟨_, _, _, _, _, _⟩) rfl (fun Kq hKq => ?_) AllReadyH.nil
                      have cQ := hR2.out.cell 2 0 rfl rfl
                      have fQ := hR2.out.free 2 0 rfl
                      go_simp
                      refine stepY hKq (show Sy w _ [(w.heap.size, (distC s').setIfInBounds (hi1) (.int .i64 (df + hc1)), 196), (w.heap.size + 1, ((((byC s').setIfInBounds (hi1 * 4) (.int .i64 hi1)).setIfInBounds (hi1 * 4 + 1) (.int .i64 hk1)).setIfInBounds (hi1 * 4 + 2) (.bool true)).setIfInBounds (hi1 * 4 + 3) (.int .i64 hc1), 198), (bC, #[.bool true], 4)] [] [Away [w.heap.size, w.heap.size + 1, bC] V3] from hR2.out.set 2 (j := 0) (v := .bool true) rfl) (fun _ hX => ⟨(away_cell (hX.r 0 rfl) HBL.out hbh).trans HB0.out, (away_cell (hX.r 0 rfl) HBL.out hbh).trans HB1.out, (away_cell (hX.r 0 rfl) HBL.out hbh).trans HB2.out, (away_cell (hX.r 0 rfl) HBL.out hbh).trans HB3.out, hX.cell 0 (20 + hk1) rfl HQ1.out, trivial⟩) ?_
                      intro VR3 hc hH3
                      have hR3 := Lib.hid hc
                      clear hc hKq Kq
                      try simp only [Act.put, List.setIfInBounds_toArray, List.set_cons_zero, List.set_cons_succ]
                      clear cQ fQ
                      refine wpAnyH_done (by kernel_rfl) ?_ _
                      exact ⟨rfl, hR3⟩
                    case resttrue =>
                      rintro e a' W' ⟨rfl, hR⟩
                      gi_wp2
                      have hrl := (relax_bwd (s := s') (h := ⟨hi1, hk1, true, hc1⟩) rfl HNF.out).1
                      refine rest_yes (x := ⟨⟨hi1, hk1, true, hc1⟩, HX.out⟩) hI hV3 HG.out.1 HX.out HNF (Lib.hid ?_)
                      have h := hR.out
                      rw [distC_set0 _ (by have := hI.out.inv.l0; omega)] at h
                      rw [byC_set0 ⟨hi1, hk1, true, hc1⟩ (by have := hI.out.inv.l2; omega)] at h
                      rw [← HD2.out.1] at h
                      rw [hrl]
                      exact h
            case done =>
              intro D ys V hD hS ⟨s', ch', hI⟩ hK
              have HS := Lib.hid hS
              have HK := Lib.hid hK
              clear hK hS
              have z0 := hI.out.sy.cell 2 0 rfl rfl
              have lC := hI.out.sy.lt 2 rfl
              gi_wp2
              refine ⟨(s', ch'), ⟨V.heap.size, _, _, _, _, D :: ds, rfl, Lib.hid ⟨?_, hI.out.inv, fun h => ?_, List.nodup_cons.2 ⟨fun hm => by have := hDs D hm; omega, HL.out.1⟩, fun E hE => ?_⟩⟩, ?_⟩
              · exact (hI.out.sy.thin (List.Sublist.cons_cons _ (List.Sublist.cons_cons _ (List.nil_sublist _))) (List.Sublist.refl _)).al V.heap.size _ _ rfl
              · obtain ⟨e1, e2⟩ := hI.out.no h
                dsimp only
                rw [e1]
                intro x hx
                have h3 := HS.out
                exact e2 x (by show x ∈ ys.map Subtype.val; rw [show ys.map Subtype.val = ys.map (·.1) from rfl, h3]; exact isHop_hops.2 hx)
              · rcases List.mem_cons.1 hE with rfl | hE
                · exact ⟨by omega, ((below1 V _).block _ (Array.getElem?_eq_some_iff.1 HK.out).1).trans HK.out⟩
                · exact ⟨(hI.out.mks E hE).1, ((below1 V _).block _ (Array.getElem?_eq_some_iff.1 (hI.out.mks E hE).2).1).trans (hI.out.mks E hE).2⟩
              · cases hc : ch'
                · simp; omega
                · have := hI.out.yes hc
                  simp only [if_true]
                  omega
            case stop =>
              intro D c pre V hD hS h hK
              exact h.elim
theorem reach_any (y g : Nat) (fb fc : Array Value) (Fr : Nat → Bool) (a0 a1 : Option Addr) (c0 c1 : Nat) (P : List I3) (N : List I2) (X : Nat → Nat → Int) (q0 q1 : Nat → Int) (eg : EG g) (hf : ∀ W, Below w.heap.size w W → ∀ i : Nat, i < P.length → Calls Tryz.prog g (fb.push (.int .i64 i) ++ fc) W (Gives (.bool (Fr i)) W)) (hPl : P.length ≤ 20) (hNl : N.length ≤ 20)
    (hP : ∀ p ∈ P, (-1000000 ≤ p.1 ∧ p.1 ≤ 1000000) ∧ 0 ≤ p.2.2 ∧ p.2.2 ≤ 1000000) (hN : ∀ q ∈ N, -1000000 ≤ q.1 ∧ q.1 ≤ 1000000)
    (hq : Feas P.length N.length (costC P N) X q0 q1) (hq0 : ∀ i, i < P.length → 0 ≤ q0 i ∧ q0 i ≤ capN) (hq1 : ∀ k, k < N.length → 0 ≤ q1 k ∧ q1 k ≤ capN) (hqF : ∀ i, i < P.length → Fr i = true → q0 i ≤ 0) (hcc : ∀ i k, i < P.length → k < N.length → 0 ≤ costC P N i k ∧ costC P N i k ≤ capN)
    (hy0 : w.cell? ⟨y, 0, none⟩ = some (.slice a0 P.length c0)) (hy1 : w.cell? ⟨y, 1, none⟩ = some (.slice a1 N.length c1)) (hyx : ∀ i k, i < P.length → k < N.length → w.cell? ⟨y, 4 + (i * 20 + k), none⟩ = some (.int .i64 (X i k)))
    (hsp : Sx 3 w a0 P.length c0 (L3 P)) (hsn : Sx 2 w a1 N.length c1 (L2 N)) (ly : y < w.heap.size) :
    Calls Tryz.prog 121 #[.pointer (some ⟨y, 0, none⟩), .func (.func g) fb fc] w (RetReach w P.length N.length (costC P N) X Fr q0 q1) :=
  reach_anyG w y g fb fc Fr a0 a1 c0 c1 P N X q0 q1 eg hf hPl hNl hP hN hq (fun i hi => ⟨by have := (hq0 i hi).1; unfold capN; omega, (hq0 i hi).2⟩) (fun k hk => ⟨by have := (hq1 k hk).1; unfold capN; omega, (hq1 k hk).2⟩) hqF hcc hy0 hy1 hyx hsp hsn ly
end
end Go.Proofs.YtchignmnnbepnaaGreat

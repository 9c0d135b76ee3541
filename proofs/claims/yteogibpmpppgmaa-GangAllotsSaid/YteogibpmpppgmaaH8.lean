/- the library's sort at the order of the pennies -/
import Derived.Test.YteogibpmpppgmaaH6
import Derived.Test.YteogibpmpppgmaaAway
import Derived.Test.YteogibpmpppgmaaShelf
namespace Go.Proofs.Yteogibpmpppgmaa
open Go.RowKit Go.Sort
def idxs (l : List Nat) : List Int := l.map fun k : Nat => (k : Int)
def shareBad (s : Int) (parts : List Int) : Bool := !inB s 0 1000000000 || decide (60 < parts.length) || parts.any fun n => !inB n 0 1000000
theorem share_parts {s : Int} {parts : List Int} (h : shareBad s parts = false) : (0 ≤ s ∧ s ≤ 1000000000) ∧ parts.length ≤ 60 ∧ (∀ x ∈ parts, 0 ≤ x ∧ x ≤ 1000000) ∧ (parts.any fun n => !inB n 0 1000000) = false := by
  unfold shareBad at h
  simp only [Bool.or_eq_false_iff, decide_eq_false_iff_not, Bool.not_eq_false'] at h
  obtain ⟨⟨h1, h2⟩, h3⟩ := h
  refine ⟨inB_iff.1 h1, by omega, fun x hx => ?_, h3⟩
  have := List.any_eq_false.1 h3 x hx
  simp only [Bool.not_eq_true, Bool.not_eq_false'] at this
  exact inB_iff.1 this
theorem cmp_neg {x y : Int} : cmpI x y < 0 ↔ x < y := by unfold cmpI; split <;> (try split) <;> omega
theorem cmp_zero {x y : Int} : cmpI x y = 0 ↔ x = y := by unfold cmpI; split <;> (try split) <;> omega
theorem or_neg {x y x' y' : Int} : orI (cmpI x y) (cmpI x' y') < 0 ↔ x < y ∨ x = y ∧ x' < y' := by
  unfold orI
  by_cases h : cmpI x y = 0
  · rw [if_neg (fun k => k h), cmp_neg]
    have := cmp_zero.1 h
    omega
  · rw [if_pos h, cmp_neg]
    have : ¬ x = y := fun e => h (cmp_zero.2 e)
    omega
/-- numbers below n, and what orders them -/
def encF (n : Nat) (x : Fin n) : Value := .int .i64 (x.val : Int)
theorem encF_one (n : Nat) : OneCell (encF n) := fun _ => rfl
theorem finRange_val (n : Nat) : (List.finRange n).map (fun x => x.val) = List.range n := by
  refine List.ext_getElem (by simp) fun i h1 h2 => ?_
  simp
/-- a total order's sort -/
theorem sorted_of {n : Nat} {lt : Fin n → Fin n → Bool} [Inhabited (Fin n)] {R : Nat → Nat → Prop} (hR : ∀ x y : Fin n, lt x y = true ↔ R x.val y.val) (ht : ∀ x y : Fin n, x ≠ y → R x.val y.val ∨ R y.val x.val) {d' : Array (Fin n)} (hp : PermIn 0 n (List.finRange n).toArray d') (hs : SortedIn lt 0 n d') :
    (d'.toList.map fun x => x.val).Perm (List.range n) ∧ (d'.toList.map fun x => x.val).Pairwise R ∧ d'.toList.length = n := by
  obtain ⟨h1, _, h3⟩ := hp
  have hsz : d'.size = n := by rw [h1]; simp
  have e1 : (d'.extract 0 n).toList = d'.toList := by rw [show d'.extract 0 n = d' from by apply Array.ext <;> simp [hsz]]
  have e2 : ((List.finRange n).toArray.extract 0 n).toList = List.finRange n := by simp [List.take_of_length_le]
  rw [e1, e2] at h3
  have hnd : d'.toList.Nodup := h3.nodup_iff.2 (List.nodup_finRange n)
  refine ⟨by rw [← finRange_val]; exact h3.map _, ?_, by rw [Array.length_toList, hsz]⟩
  rw [List.pairwise_map, List.pairwise_iff_getElem]
  intro i j hi hj hij
  rw [Array.length_toList] at hi hj
  have := hs i j (Nat.zero_le _) hij (by omega)
  rw [getElem!_pos d' j hj, getElem!_pos d' i hi] at this
  have hne : d'[i] ≠ d'[j] := fun e => absurd ((List.getElem_inj (h₀ := by simpa using hi) (h₁ := by simpa using hj) hnd).1 (by simpa using e)) (by omega)
  rcases ht _ _ hne with h | h
  · simpa using h
  · rw [(hR _ _).2 h] at this; cases this
theorem ahead_cmp {s A : Int} {parts : List Int} {i k : Nat} (hi : i < parts.length) (hk : k < parts.length) : shareCmp s A parts i k < 0 ↔ ahead (rests s A parts) i k := by
  unfold shareCmp ahead
  rw [or_neg, rests_at hi, rests_at hk]
  omega
theorem box_apart {w W : World} {bs : List (Nat × Array Value × TypeId)} {os : List Rw} {rs : List (World → Prop)} (h : Sy w W bs os rs) {i j b g n c : Nat} {cs : Array Value} {t e : TypeId} {size : Nat} {xs : List Value} (hb : bs[i]? = some (b, cs, t)) (ho : os[j]? = some ⟨.slice (some ⟨g, 0, none⟩) n c, e, size, n, xs⟩) : b ≠ g := by
  have hi := h.inc
  unfold ownOf at hi
  rw [List.nodup_append] at hi
  intro e'
  exact hi.2.2 b (List.mem_map.2 ⟨_, List.mem_of_getElem? hb, rfl⟩) b (List.mem_filterMap.2 ⟨_, List.mem_of_getElem? ho, by rw [e']; rfl⟩) rfl
theorem own_arg {w W : World} {bs : List (Nat × Array Value × TypeId)} {os : List Rw} {rs : List (World → Prop)} (h : Sy w W bs os rs) {j g n c n' c' size size' : Nat} {e : TypeId} {xs ys : List Value} {a : Option Addr} (ho : os[j]? = some ⟨.slice (some ⟨g, 0, none⟩) n c, e, size, n, xs⟩) (hs : Sx size' w a n' c' ys) (V : World) (hV : Away [g] W V) : Sx size' V a n' c' ys := by
  have hge : w.heap.size ≤ g := (h.own_ge (b := g) (mem_own.2 (.inr ⟨_, List.mem_of_getElem? ho, rfl⟩))).1
  refine ⟨hs.1, hs.2.1, hs.2.2.1, fun h0 => ?_⟩
  obtain ⟨g', o', e', hg', hc'⟩ := hs.2.2.2 h0
  have hlt : g' < W.heap.size := Nat.lt_of_lt_of_le hg' h.be.size
  refine ⟨g', o', e', Nat.lt_of_lt_of_le hlt hV.1, fun k u hk => ?_⟩
  rw [away_cell hV hlt (fun hm => by rw [List.mem_singleton.1 hm] at hg'; omega), h.be.cell (p := ⟨g', o' + k, none⟩) hg']
  exact hc' k u hk
/-- the library's sort, at the order of the pennies -/
theorem sort_share {w W : World} {bs : List (Nat × Array Value × TypeId)} {os : List Rw} {rs : List (World → Prop)} (h : Sy w W bs os rs) (i : Nat) {g : Nat} {a : Option Addr} {n c c' b0 b1 b2 : Nat} {s : Int} {parts : List Int}
    (hi : os[i]? = some ⟨.slice (some ⟨g, 0, none⟩) n c', 3, 1, n, L1 (idxs (List.range n))⟩) (hs : Sx 1 w a n c (L1 parts)) (hb : shareBad s parts = false) (hA : 0 < lsum parts)
    (h0 : bs[0]? = some (b0, #[.int .i64 s], 3)) (h1 : bs[1]? = some (b1, #[.slice a n c], 22)) (h2 : bs[2]? = some (b2, #[.int .i64 (lsum parts)], 3)) :
    Calls Try.prog 36 #[.slice (some ⟨g, 0, none⟩) n c', .func (.func 37) #[] #[.pointer (some ⟨b0, 0, none⟩), .pointer (some ⟨b1, 0, none⟩), .pointer (some ⟨b2, 0, none⟩)]] W
      (fun e w' => e = .returned (.tuple #[]) ∧ ∃ order, Ordered s parts order ∧ Sy w w' bs (os.set i ⟨.slice (some ⟨g, 0, none⟩) n c', 3, 1, n, L1 (idxs order)⟩) rs) := by
  obtain ⟨⟨g1, g1'⟩, g2, g3, g4⟩ := share_parts hb
  have hlen := hs.n1
  subst hlen
  have hpos : 0 < parts.length := by
    rcases Nat.eq_zero_or_pos parts.length with h | h
    · rw [List.length_eq_zero_iff.1 h, lsum_nil] at hA; omega
    · exact h
  have hA2 : lsum parts ≤ 60000000 := by
    have := lsum_le (B := 1000000) (fun x hx => (g3 x hx).2)
    omega
  haveI : Inhabited (Fin parts.length) := ⟨⟨0, hpos⟩⟩
  have hrow : L1 (idxs (List.range parts.length)) = (List.finRange parts.length).map (encF parts.length) := by
    rw [← finRange_val]
    unfold L1 idxs
    rw [List.map_map, List.map_map]
    rfl
  have hdsz : (List.finRange parts.length).toArray.size = parts.length := by simp
  have hiff : ∀ x y : Fin parts.length, ltOf (fun x y : Fin parts.length => shareCmp s (lsum parts) parts x.val y.val) x y = true ↔ ahead (rests s (lsum parts) parts) x.val y.val := fun x y => by
    unfold ltOf
    rw [decide_eq_true_eq, ahead_cmp x.isLt y.isLt]
  have hO : SWO (ltOf (fun x y : Fin parts.length => shareCmp s (lsum parts) parts x.val y.val)) := by
    refine ⟨fun x => ?_, fun x y z hxy hyz => ?_, fun x y z hxy hyz => ?_⟩
    · rw [← Bool.not_eq_true, hiff]; unfold ahead; omega
    · rw [hiff] at hxy hyz ⊢; unfold ahead at hxy hyz ⊢; omega
    · rw [← Bool.not_eq_true, hiff] at hxy hyz ⊢; unfold ahead at hxy hyz ⊢; omega
  have hH : Holds (encF parts.length) W g 0 (List.finRange parts.length).toArray := fun j hj => by
    rw [hdsz] at hj
    refine ⟨?_, by rw [Nat.zero_add]; exact h.rfree i hi j⟩
    rw [Nat.zero_add]
    refine h.rcell i hi ?_
    rw [hrow, List.getElem?_map, List.getElem?_eq_getElem (by simpa using hj), getElem!_pos _ j (by rw [hdsz]; exact hj)]
    rfl
  have hblk : g < W.heap.size := (h.own_ge (b := g) (mem_own.2 (.inr ⟨_, List.mem_of_getElem? hi, rfl⟩))).2
  have hcmp : CmpLays1 Try.prog 37 #[.pointer (some ⟨b0, 0, none⟩), .pointer (some ⟨b1, 0, none⟩), .pointer (some ⟨b2, 0, none⟩)] (encF parts.length) (fun x y => shareCmp s (lsum parts) parts x.val y.val) g 0 (List.finRange parts.length).toArray.size W := by
    intro m os' dk _ x y
    have hV := away_sort (encF parts.length) W g m dk os'
    have key : ∀ (k b : Nat) (v : Value) (t : TypeId), bs[k]? = some (b, #[v], t) → (sortWorld (encF parts.length) W g 0 m dk os').cell? ⟨b, 0, none⟩ = some v := fun k b v t hk => by
      rw [away_cell hV (h.lt k hk) (fun hm => box_apart h hk hi (List.mem_singleton.1 hm))]
      exact h.cell k 0 hk rfl
    exact share3_any _ b0 b1 b2 a parts.length c s (lsum parts) parts x.val y.val x.isLt y.isLt (own_arg h hi hs _ hV) g3 g1 g1' (by omega) (by omega) (key 0 b0 _ _ h0) (key 1 b1 _ _ h1) (key 2 b2 _ _ h2) g2
  have hcall := Try.slices_SortFunc (encF parts.length) (encF_one _) (fun x y => shareCmp s (lsum parts) parts x.val y.val) hO 37 #[.pointer (some ⟨b0, 0, none⟩), .pointer (some ⟨b1, 0, none⟩), .pointer (some ⟨b2, 0, none⟩)] g 0 c' (List.finRange parts.length).toArray W eg_share3 hcmp hH hblk (by rw [hdsz]; omega)
  rw [hdsz] at hcall
  refine hcall.mono ?_
  rintro e w' ⟨rfl, d', m, os', hp, hsd, rfl⟩
  obtain ⟨o1, o2, o3⟩ := sorted_of hiff (fun x y hxy => by
    have : x.val ≠ y.val := fun e => hxy (Fin.ext e)
    unfold ahead; omega) hp hsd
  refine ⟨rfl, d'.toList.map (fun x => x.val), ⟨o1, o2⟩, ?_⟩
  have hq := h.sorted (enc := encF parts.length) i (zs := List.finRange parts.length) (ys := d'.toList) (by rw [hi, hrow]) o3 m os'
  rw [Array.toArray_toList] at hq
  have he : d'.toList.map (encF parts.length) = L1 (idxs (d'.toList.map (fun x => x.val))) := by
    unfold L1 idxs
    rw [List.map_map, List.map_map]
    rfl
  rw [he] at hq
  exact hq

end Go.Proofs.Yteogibpmpppgmaa

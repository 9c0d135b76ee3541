/- the laws' comparisons, and the reference's tests of uses and yards -/
/- the library's sort at the order of the pennies -/
/- the least number of days: sort.Search, slices.Clone, work.wrong, work.eager, Days -/
import Derived.Test.YtchignmnnbepnaaGreatJ2
import Derived.Test.YtchignmnnbepnaaGreatJ6
import Derived.Test.YtchignmnnbepnaaGreatJ9
import Derived.Test.YtchignmnnbepnaaGreatJ11
import Derived.Test.YtchignmnnbepnaaGreatShelf
import Derived.Test.YtchignmnnbepnaaGreatJ10
import Derived.Test.YtchignmnnbepnaaGreatJ12
import Derived.Test.YtchignmnnbepnaaGreatJ8
namespace Go.Proofs.YtchignmnnbepnaaGreat
open Go.RowKit
theorem below_dN {B : Nat} {a w : World} (h : Below B a w) (n : Nat) : Below B a (w.drewN n) := ⟨h.os, h.tape, h.output, h.size, h.block⟩
set_option maxHeartbeats 1000000 in
theorem ints_any (a a' : Option Addr) (n c n' c' : Nat) (l r : List Int) (w : World) (hs : Sx 1 w a n c (L1 l)) (hs' : Sx 1 w a' n' c' (L1 r)) : Calls Tryz.prog 17 #[.slice a n c, .slice a' n' c'] w (Gives (.bool (decide (l = r))) w) := by
  have hlen := hs.n1
  have hlen' := hs'.n1
  have hm : l.length ≤ 9223372036854775807 := by have := hs.cap; unfold maxLen at this; omega
  have hm' : r.length ≤ 9223372036854775807 := by have := hs'.cap; unfold maxLen at this; omega
  have HS := Lib.hid hs
  have HS' := Lib.hid hs'
  obtain rfl : l.length = n := hlen.symm
  obtain rfl : r.length = n' := hlen'.symm
  clear hs hs' hlen hlen'
  by_cases hl : l.length = r.length
  · have HL := Lib.hid hl
    have hl0 : ((l.length : Int) != (r.length : Int)) = false := by simp [hl]
    have hle : l.length ≤ r.length := by omega
    clear hl
    go_enter Tryz.func17, Tryz.ntmps17
    go_wp2
    go_loopw [5] (fun iv wr => ∃ k : Nat, k ≤ l.length ∧ iv = .int .i64 k ∧ Hid ((∀ i (h : i < l.length) (h' : i < r.length), i < k → l[i] = r[i]) ∧ Below w.heap.size w wr)) (fun iv _ => l.length - (intOf iv).toNat)
    case atStart => exact ⟨0, Nat.zero_le _, rfl, Lib.hid ⟨fun i _ _ h => absurd h (Nat.not_lt_zero i), Below.refl _ _⟩⟩
    case round =>
      obtain ⟨k, hk, rfl, hI⟩ := hrel
      by_cases hlt : k < l.length
      · have hlt' : k < r.length := by omega
        obtain ⟨g0, o0, rfl⟩ := HS.out.addr (by omega)
        obtain ⟨g1, o1, rfl⟩ := HS'.out.addr (by omega)
        have x0 := (HS.out.below hI.out.2).at1 hlt
        have y0 := (HS'.out.below hI.out.2).at1 hlt'
        have hi0 : (0 : Int) ≤ (k : Int) := by omega
        have hi1 : (k : Int) < (l.length : Int) := by omega
        have hi2 : (k : Int) < (r.length : Int) := by omega
        have HE := Lib.hid (show ∀ i (h : i < l.length) (h' : i < r.length), i = k → l[i] = l[k] ∧ r[i] = r[k] from fun i h h' e => by subst e; exact ⟨rfl, rfl⟩)
        have HN := Lib.hid (show l = r → l[k] = r[k] from fun e => by subst e; rfl)
        generalize l[k] = x at *
        generalize r[k] = y at *
        by_cases hxy : x = y
        · subst hxy
          have hne : (x != x) = false := by simp
          go_wp2
          go_quiet (fail)
          go_wp2
          go_roundw
          case rel => exact ⟨k + 1, by omega, by go_num, Lib.hid ⟨fun i h h' hik => by
            rcases Nat.lt_or_ge i k with h1 | h1
            · exact hI.out.1 i h h' h1
            · obtain ⟨e1, e2⟩ := HE.out i h h' (by omega)
              rw [e1, e2], below_dN hI.out.2 _⟩⟩
          case measure => simp [intOf]; omega
        · have hne : (x != y) = true := by simpa using hxy
          have HX := Lib.hid hxy
          clear hxy
          go_wp2
          go_quiet (fail)
          go_wp2
          go_ret
          exact ⟨ret_bool (Eq.symm (decide_eq_false fun e => HX.out (HN.out e))), below_dN hI.out.2 _⟩
      · have HEQ := Lib.hid (show l = r from List.ext_getElem HL.out fun i h h' => hI.out.1 i h h' (by omega))
        go_wp2
        go_ret
        exact ⟨ret_bool (Eq.symm (decide_eq_true HEQ.out)), hI.out.2⟩
  · have HL := Lib.hid (show ¬ l = r from fun e => hl (by rw [e]))
    have hl0 : ((l.length : Int) != (r.length : Int)) = true := by simp; omega
    clear hl
    go_enter Tryz.func17, Tryz.ntmps17
    go_wp2
    go_ret
    exact ⟨ret_bool (Eq.symm (decide_eq_false HL.out)), Below.refl _ _⟩
end Go.Proofs.YtchignmnnbepnaaGreat
namespace Go.Proofs.YtchignmnnbepnaaGreat
open Go.RowKit Go.Sort
def idxs (l : List Nat) : List Int := l.map fun k : Nat => (k : Int)
def shareBad (s : Int) (parts : List Int) : Bool := !inB s 0 1000000000 || decide (60 < parts.length) || parts.any fun n => !inB n 0 1000000
theorem share_parts {s : Int} {parts : List Int} (h : shareBad s parts = false) : (0 ≤ s ∧ s ≤ 1000000000) ∧ parts.length ≤ 60 ∧ (∀ x ∈ parts, 0 ≤ x ∧ x ≤ 1000000) ∧ (parts.any fun n => !inB n 0 1000000) = false := by
  unfold shareBad at h
  simp only [Bool.or_eq_false_iff, decide_eq_false_iff_not, Bool.not_eq_false'] at h
  obtain ⟨⟨h1, h2⟩, h3⟩ := h
  refine ⟨inB_iff.1 h1, by omega, fun x hx => ?_, h3⟩
  have := List.any_eq_false.1 h3 x hx
  simp only [Bool.not_eq_true, Bool.not_eq_false'] at this
  exact inB_iff.1 this
theorem cmp_neg {x y : Int} : cmpI x y < 0 ↔ x < y := by unfold cmpI; split <;> (try split) <;> omega
theorem cmp_zero {x y : Int} : cmpI x y = 0 ↔ x = y := by unfold cmpI; split <;> (try split) <;> omega
theorem or_neg {x y x' y' : Int} : orI (cmpI x y) (cmpI x' y') < 0 ↔ x < y ∨ x = y ∧ x' < y' := by
  unfold orI
  by_cases h : cmpI x y = 0
  · rw [if_neg (fun k => k h), cmp_neg]
    have := cmp_zero.1 h
    omega
  · rw [if_pos h, cmp_neg]
    have : ¬ x = y := fun e => h (cmp_zero.2 e)
    omega
/-- numbers below n, and what orders them -/
def encF (n : Nat) (x : Fin n) : Value := .int .i64 (x.val : Int)
theorem encF_one (n : Nat) : OneCell (encF n) := fun _ => rfl
theorem finRange_val (n : Nat) : (List.finRange n).map (fun x => x.val) = List.range n := by
  refine List.ext_getElem (by simp) fun i h1 h2 => ?_
  simp
/-- a total order's sort -/
theorem sorted_of {n : Nat} {lt : Fin n → Fin n → Bool} [Inhabited (Fin n)] {R : Nat → Nat → Prop} (hR : ∀ x y : Fin n, lt x y = true ↔ R x.val y.val) (ht : ∀ x y : Fin n, x ≠ y → R x.val y.val ∨ R y.val x.val) {d' : Array (Fin n)} (hp : PermIn 0 n (List.finRange n).toArray d') (hs : SortedIn lt 0 n d') :
    (d'.toList.map fun x => x.val).Perm (List.range n) ∧ (d'.toList.map fun x => x.val).Pairwise R ∧ d'.toList.length = n := by
  obtain ⟨h1, _, h3⟩ := hp
  have hsz : d'.size = n := by rw [h1]; simp
  have e1 : (d'.extract 0 n).toList = d'.toList := by rw [show d'.extract 0 n = d' from by apply Array.ext <;> simp [hsz]]
  have e2 : ((List.finRange n).toArray.extract 0 n).toList = List.finRange n := by simp [List.take_of_length_le]
  rw [e1, e2] at h3
  have hnd : d'.toList.Nodup := h3.nodup_iff.2 (List.nodup_finRange n)
  refine ⟨by rw [← finRange_val]; exact h3.map _, ?_, by rw [Array.length_toList, hsz]⟩
  rw [List.pairwise_map, List.pairwise_iff_getElem]
  intro i j hi hj hij
  rw [Array.length_toList] at hi hj
  have := hs i j (Nat.zero_le _) hij (by omega)
  rw [getElem!_pos d' j hj, getElem!_pos d' i hi] at this
  have hne : d'[i] ≠ d'[j] := fun e => absurd ((List.getElem_inj (h₀ := by simpa using hi) (h₁ := by simpa using hj) hnd).1 (by simpa using e)) (by omega)
  rcases ht _ _ hne with h | h
  · simpa using h
  · rw [(hR _ _).2 h] at this; cases this
theorem ahead_cmp {s A : Int} {parts : List Int} {i k : Nat} (hi : i < parts.length) (hk : k < parts.length) : shareCmp s A parts i k < 0 ↔ ahead (rests s A parts) i k := by
  unfold shareCmp ahead
  rw [or_neg, rests_at hi, rests_at hk]
  omega
theorem box_apart {w W : World} {bs : List (Nat × Array Value × TypeId)} {os : List Rw} {rs : List (World → Prop)} (h : Sy w W bs os rs) {i j b g n c : Nat} {cs : Array Value} {t e : TypeId} {size : Nat} {xs : List Value} (hb : bs[i]? = some (b, cs, t)) (ho : os[j]? = some ⟨.slice (some ⟨g, 0, none⟩) n c, e, size, n, xs⟩) : b ≠ g := by
  have hi := h.inc
  unfold ownOf at hi
  rw [List.nodup_append] at hi
  intro e'
  exact hi.2.2 b (List.mem_map.2 ⟨_, List.mem_of_getElem? hb, rfl⟩) b (List.mem_filterMap.2 ⟨_, List.mem_of_getElem? ho, by rw [e']; rfl⟩) rfl
theorem own_arg {w W : World} {bs : List (Nat × Array Value × TypeId)} {os : List Rw} {rs : List (World → Prop)} (h : Sy w W bs os rs) {j g n c n' c' size size' : Nat} {e : TypeId} {xs ys : List Value} {a : Option Addr} (ho : os[j]? = some ⟨.slice (some ⟨g, 0, none⟩) n c, e, size, n, xs⟩) (hs : Sx size' w a n' c' ys) (V : World) (hV : Away [g] W V) : Sx size' V a n' c' ys := by
  have hge : w.heap.size ≤ g := (h.own_ge (b := g) (mem_own.2 (.inr ⟨_, List.mem_of_getElem? ho, rfl⟩))).1
  refine ⟨hs.1, hs.2.1, hs.2.2.1, fun h0 => ?_⟩
  obtain ⟨g', o', e', hg', hc'⟩ := hs.2.2.2 h0
  have hlt : g' < W.heap.size := Nat.lt_of_lt_of_le hg' h.be.size
  refine ⟨g', o', e', Nat.lt_of_lt_of_le hlt hV.1, fun k u hk => ?_⟩
  rw [away_cell hV hlt (fun hm => by rw [List.mem_singleton.1 hm] at hg'; omega), h.be.cell (p := ⟨g', o' + k, none⟩) hg']
  exact hc' k u hk
/-- the library's sort, at the order of the pennies -/
theorem sort_share {w W : World} {bs : List (Nat × Array Value × TypeId)} {os : List Rw} {rs : List (World → Prop)} (h : Sy w W bs os rs) (i : Nat) {g : Nat} {a : Option Addr} {n c c' b0 b1 b2 : Nat} {s : Int} {parts : List Int}
    (hi : os[i]? = some ⟨.slice (some ⟨g, 0, none⟩) n c', 3, 1, n, L1 (idxs (List.range n))⟩) (hs : Sx 1 w a n c (L1 parts)) (hb : shareBad s parts = false) (hA : 0 < lsum parts)
    (h0 : bs[0]? = some (b0, #[.int .i64 s], 3)) (h1 : bs[1]? = some (b1, #[.slice a n c], 31)) (h2 : bs[2]? = some (b2, #[.int .i64 (lsum parts)], 3)) :
    Calls Tryz.prog 44 #[.slice (some ⟨g, 0, none⟩) n c', .func (.func 45) #[] #[.pointer (some ⟨b0, 0, none⟩), .pointer (some ⟨b1, 0, none⟩), .pointer (some ⟨b2, 0, none⟩)]] W
      (fun e w' => e = .returned (.tuple #[]) ∧ ∃ order, Ordered s parts order ∧ Sy w w' bs (os.set i ⟨.slice (some ⟨g, 0, none⟩) n c', 3, 1, n, L1 (idxs order)⟩) rs) := by
  obtain ⟨⟨g1, g1'⟩, g2, g3, g4⟩ := share_parts hb
  have hlen := hs.n1
  subst hlen
  have hpos : 0 < parts.length := by
    rcases Nat.eq_zero_or_pos parts.length with h | h
    · rw [List.length_eq_zero_iff.1 h, lsum_nil] at hA; omega
    · exact h
  have hA2 : lsum parts ≤ 60000000 := by
    have := lsum_le (B := 1000000) (fun x hx => (g3 x hx).2)
    omega
  haveI : Inhabited (Fin parts.length) := ⟨⟨0, hpos⟩⟩
  have hrow : L1 (idxs (List.range parts.length)) = (List.finRange parts.length).map (encF parts.length) := by
    rw [← finRange_val]
    unfold L1 idxs
    rw [List.map_map, List.map_map]
    rfl
  have hdsz : (List.finRange parts.length).toArray.size = parts.length := by simp
  have hiff : ∀ x y : Fin parts.length, ltOf (fun x y : Fin parts.length => shareCmp s (lsum parts) parts x.val y.val) x y = true ↔ ahead (rests s (lsum parts) parts) x.val y.val := fun x y => by
    unfold ltOf
    rw [decide_eq_true_eq, ahead_cmp x.isLt y.isLt]
  have hO : SWO (ltOf (fun x y : Fin parts.length => shareCmp s (lsum parts) parts x.val y.val)) := by
    refine ⟨fun x => ?_, fun x y z hxy hyz => ?_, fun x y z hxy hyz => ?_⟩
    · rw [← Bool.not_eq_true, hiff]; unfold ahead; omega
    · rw [hiff] at hxy hyz ⊢; unfold ahead at hxy hyz ⊢; omega
    · rw [← Bool.not_eq_true, hiff] at hxy hyz ⊢; unfold ahead at hxy hyz ⊢; omega
  have hH : Holds (encF parts.length) W g 0 (List.finRange parts.length).toArray := fun j hj => by
    rw [hdsz] at hj
    refine ⟨?_, by rw [Nat.zero_add]; exact h.rfree i hi j⟩
    rw [Nat.zero_add]
    refine h.rcell i hi ?_
    rw [hrow, List.getElem?_map, List.getElem?_eq_getElem (by simpa using hj), getElem!_pos _ j (by rw [hdsz]; exact hj)]
    rfl
  have hblk : g < W.heap.size := (h.own_ge (b := g) (mem_own.2 (.inr ⟨_, List.mem_of_getElem? hi, rfl⟩))).2
  have hcmp : CmpLays1 Tryz.prog 45 #[.pointer (some ⟨b0, 0, none⟩), .pointer (some ⟨b1, 0, none⟩), .pointer (some ⟨b2, 0, none⟩)] (encF parts.length) (fun x y => shareCmp s (lsum parts) parts x.val y.val) g 0 (List.finRange parts.length).toArray.size W := by
    intro m os' dk _ x y
    have hV := away_sort (encF parts.length) W g m dk os'
    have key : ∀ (k b : Nat) (v : Value) (t : TypeId), bs[k]? = some (b, #[v], t) → (sortWorld (encF parts.length) W g 0 m dk os').cell? ⟨b, 0, none⟩ = some v := fun k b v t hk => by
      rw [away_cell hV (h.lt k hk) (fun hm => box_apart h hk hi (List.mem_singleton.1 hm))]
      exact h.cell k 0 hk rfl
    exact share3_any _ b0 b1 b2 a parts.length c s (lsum parts) parts x.val y.val x.isLt y.isLt (own_arg h hi hs _ hV) g3 g1 g1' (by omega) (by omega) (key 0 b0 _ _ h0) (key 1 b1 _ _ h1) (key 2 b2 _ _ h2) g2
  have hcall := Tryz.slices_SortFunc (encF parts.length) (encF_one _) (fun x y => shareCmp s (lsum parts) parts x.val y.val) hO 45 #[.pointer (some ⟨b0, 0, none⟩), .pointer (some ⟨b1, 0, none⟩), .pointer (some ⟨b2, 0, none⟩)] g 0 c' (List.finRange parts.length).toArray W eg_share3 hcmp hH hblk (by rw [hdsz]; omega)
  rw [hdsz] at hcall
  refine hcall.mono ?_
  rintro e w' ⟨rfl, d', m, os', hp, hsd, rfl⟩
  obtain ⟨o1, o2, o3⟩ := sorted_of hiff (fun x y hxy => by
    have : x.val ≠ y.val := fun e => hxy (Fin.ext e)
    unfold ahead; omega) hp hsd
  refine ⟨rfl, d'.toList.map (fun x => x.val), ⟨o1, o2⟩, ?_⟩
  have hq := h.sorted (enc := encF parts.length) i (zs := List.finRange parts.length) (ys := d'.toList) (by rw [hi, hrow]) o3 m os'
  rw [Array.toArray_toList] at hq
  have he : d'.toList.map (encF parts.length) = L1 (idxs (d'.toList.map (fun x => x.val))) := by
    unfold L1 idxs
    rw [List.map_map, List.map_map]
    rfl
  rw [he] at hq
  exact hq

end Go.Proofs.YtchignmnnbepnaaGreat
namespace Go.Proofs.YtchignmnnbepnaaGreat
open Go.RowKit
theorem und_Stint : Tryz.prog.underlying 42 = some (.slice 59) := Tryz.underlying42
theorem info_Stint : (Tryz.prog.info? 59).map (fun i => (i.zero, i.size, i.bytes)) = some (some (.agg #[.int .i64 0, .int .i64 0, .int .i64 0]), 3, 24) := by kernel_rfl
section
variable (w : World)
theorem count_false {p : Nat → Bool} {n lo : Nat} (hlo : lo ≤ n) (h1 : ∀ t, t < lo → p t = false) (h2 : ∀ t, lo ≤ t → t < n → p t = true) : (List.range n).countP (fun i => !p i) = lo := by
  induction n with
  | zero => simp at hlo; subst hlo; rfl
  | succ n ih =>
    rw [List.range_succ, List.countP_append, List.countP_singleton]
    rcases Nat.lt_or_ge n lo with h | h
    · have : lo = n + 1 := by omega
      subst this
      have hall : (List.range n).countP (fun i => !p i) = n := by
        have h3 : (List.range n).countP (fun i => !p i) = (List.range n).length := List.countP_eq_length.2 fun i hi => by rw [h1 i (by have := List.mem_range.1 hi; omega)]; rfl
        simpa using h3
      rw [hall, h1 n h]; rfl
    · rw [ih h fun t h3 h4 => h2 t h3 (by omega), h2 n h (by omega)]; rfl
set_option maxHeartbeats 4000000 in
set_option maxRecDepth 100000 in
theorem search_any (g : Nat) (cb : Array Value) (n : Nat) (p : Nat → Bool) (eg : EG g) (hsz : n < 4611686018427387904) (hf : ∀ W, Below w.heap.size w W → ∀ i : Nat, i < n → Calls Tryz.prog g (#[.int .i64 i] ++ cb) W (Gives (.bool (p i)) W)) (hmono : ∀ a b, a ≤ b → b < n → p a = true → p b = true) :
    Calls Tryz.prog 38 #[.int .i64 n, .func (.func g) #[] cb] w (Gives (.int .i64 ((List.range n).countP (fun i => !p i) : Nat)) w) := by
  have HF := Lib.hid hf
  have HM := Lib.hid hmono
  clear hf hmono
  generalize hcnt : (List.range n).countP (fun i => !p i) = cnt
  have CN := Lib.hid hcnt
  clear hcnt
  go_enter Tryz.func38, Tryz.ntmps38
  go_wp2
  go_loopw [5, 6] (fun s5 s6 wr => ∃ lo hi : Nat, s5 = .int .i64 lo ∧ s6 = .int .i64 hi ∧ lo ≤ hi ∧ hi ≤ n ∧ Hid ((∀ t, t < lo → p t = false) ∧ (∀ t, hi ≤ t → t < n → p t = true) ∧ Below w.heap.size w wr)) (fun s5 s6 _ => (intOf s6).toNat - (intOf s5).toNat)
  case atStart => exact ⟨0, n, rfl, rfl, Nat.zero_le _, Nat.le_refl _, Lib.hid ⟨fun t ht => absurd ht (Nat.not_lt_zero _), fun t h1 h2 => by omega, Below.refl _ _⟩⟩
  case round =>
    obtain ⟨lo, hi, rfl, rfl, hlh, hin, I⟩ := hrel
    by_cases hlt : lo < hi
    · have hc := HF.out wr I.out.2.2 ((lo + hi) / 2) (by omega)
      rw [show (((lo + hi) / 2 : Nat) : Int) = ((lo : Int) + (hi : Int)) / 2 by omega] at hc
      cases hp : p ((lo + hi) / 2) <;> rw [hp] at hc
      · have HP := Lib.hid hp
        have HC := Lib.hid hc
        clear hp hc
        go_wp2_with fail
        refine HC.out.mono ?_
        rintro e w1 ⟨rfl, hb⟩
        have hB := Lib.hid (I.out.2.2.trans (hb.mono I.out.2.2.size))
        clear hb
        go_wp2
        go_roundw
        case rel =>
          refine ⟨(lo + hi) / 2 + 1, hi, by rw [show ((lo : Int) + (hi : Int)) / 2 + 1 = (((lo + hi) / 2 + 1 : Nat) : Int) by omega], rfl, by omega, hin, Lib.hid ⟨fun t ht => ?_, I.out.2.1, hB.out⟩⟩
          cases h : p t with
          | false => rfl
          | true => have := HM.out t ((lo + hi) / 2) (by omega) (by omega) h; rw [HP.out] at this; cases this
        case measure => simp [intOf]; omega
      · have HP := Lib.hid hp
        have HC := Lib.hid hc
        clear hp hc
        go_wp2_with fail
        refine HC.out.mono ?_
        rintro e w1 ⟨rfl, hb⟩
        have hB := Lib.hid (I.out.2.2.trans (hb.mono I.out.2.2.size))
        clear hb
        go_wp2
        go_roundw
        case rel => exact ⟨lo, (lo + hi) / 2, rfl, by rw [show ((lo : Int) + (hi : Int)) / 2 = (((lo + hi) / 2 : Nat) : Int) by omega], by omega, by omega, Lib.hid ⟨I.out.1, fun t ht htn => HM.out ((lo + hi) / 2) t ht htn HP.out, hB.out⟩⟩
        case measure => simp [intOf]; omega
    · obtain rfl : hi = lo := by omega
      have HE := Lib.hid (show cnt = hi by rw [← CN.out]; exact count_false hin I.out.1 I.out.2.1)
      go_wp2
      go_ret
      exact ⟨ret_int (by rw [HE.out]), I.out.2.2⟩
theorem clone_any (a : Option Addr) (n c : Nat) (l : List Int) (hs : Sx 1 w a n c (L1 l)) (hn : n ≤ 1000) : Calls Tryz.prog 70 #[.slice a n c] w (RetRow w 3 1 n (L1 l)) := by
  have key : ∀ v' : Value, ∀ w' : World, w'.ownsRow w.heap.size 3 1 v' n (L1 l) → Below w.heap.size w w' → RetRow w 3 1 n (L1 l) (.returned v') w' := fun v' w' h hb => by
    rcases h.2 with ⟨rfl, h0⟩ | ⟨g, cap, cur, rfl, _⟩
    · exact ⟨none, 0, by rw [h0], by rw [← h0] at h; rw [h0] at h ⊢; exact h, hb⟩
    · exact ⟨_, _, rfl, h, hb⟩
  have hlen := hs.n1
  cases a with
  | none =>
    have h0 : n = 0 := by
      rcases Nat.eq_zero_or_pos n with h | h
      · exact h
      · obtain ⟨_, _, e⟩ := hs.addr h; cases e
    subst h0
    refine (Tryz.slices_Clone_int_nil 0 c w).mono ?_
    rintro e w' ⟨rfl, rfl⟩
    refine key _ _ ?_ (Below.refl _ _)
    rw [List.length_eq_zero_iff.1 hlen.symm]
    exact World.ownsRow_nil _ _ _ _
  | some a =>
    rcases Nat.eq_zero_or_pos n with h | h
    · subst h
      refine (Tryz.slices_Clone_int_zero a c w).mono ?_
      rintro e w' ⟨v', rfl, h1, _, h2⟩
      refine key _ _ ?_ h2
      rw [List.length_eq_zero_iff.1 hlen.symm]
      exact h1
    · obtain ⟨g, o, e⟩ := hs.addr h
      cases e
      refine (Tryz.slices_Clone_int g o n c l w (by omega) (by omega) (fun j hj => ?_)).mono ?_
      · rw [List.getD_eq_getElem?_getD, List.getElem?_eq_getElem hj]
        exact hs.at1 hj
      · rintro e w' ⟨v', rfl, h1, _, h2⟩
        rw [List.take_of_length_le (by omega)] at h1
        exact key _ _ h1 h2

/-- a wall's length with frames and a gang: is it right? -/
def ascB (last L : Int) : List Int → Bool
  | [] => true
  | f :: r => decide (last < f) && decide (f < L) && ascB f L r
def rightB (L : Int) (F : List Int) (l : List WL) : Bool := inB L 1 100000 && decide (F.length ≤ 60) && gangB l && ascB 0 L F
/-- what is asked of what is left: from frame k on, the last one having been passed -/
def lastF (F : List Int) (k : Nat) : Int := if k = 0 then 0 else F.getD (k - 1) 0
theorem ascB_drop {L : Int} {F : List Int} {k : Nat} (h : k < F.length) : ascB (lastF F k) L (F.drop k) = (decide (lastF F k < F[k]) && decide (F[k] < L) && ascB (lastF F (k + 1)) L (F.drop (k + 1))) := by
  rw [List.drop_eq_getElem_cons h]
  unfold ascB
  have : lastF F (k + 1) = F[k] := by unfold lastF; rw [if_neg (by omega), Nat.add_sub_cancel, getD_at h]
  rw [this]
  cases F.drop (k + 1) <;> rfl
set_option maxHeartbeats 4000000 in
set_option maxRecDepth 100000 in
theorem wrong_any (a a' : Option Addr) (n c n' c' : Nat) (L : Int) (F : List Int) (l : List WL) (hs : Sx 1 w a n c (L1 F)) (hs' : Sx 3 w a' n' c' (LW l)) (hn : ∀ x ∈ l, x.1.size ≤ maxLen) :
    Calls Tryz.prog 37 #[.agg #[.int .i64 L, .slice a n c, .slice a' n' c']] w (Gives (.bool (!rightB L F l)) w) := by
  have hlen := hs.n1
  have hm : F.length ≤ 9223372036854775807 := by have := hs.cap; unfold maxLen at this; omega
  have HS := Lib.hid hs
  have HCK := Lib.hid (fun W (hW : Below w.heap.size w W) => check_any W a' n' c' l (hs'.below hW) hn)
  obtain rfl : F.length = n := hlen.symm
  clear hs hlen hs' hn
  cases hl : inB L 1 100000
  · have HG := Lib.hid (show rightB L F l = false by unfold rightB; rw [hl]; rfl)
    go_enter Tryz.func37, Tryz.ntmps37
    go_wp2_with ((with_reducible refine (within_any _ _ _ _).mono ?_); rintro e w1 ⟨rfl, rfl⟩)
    go_ret
    exact ⟨ret_bool (by rw [HG.out]; rfl), below1 _ _⟩
  · have hL := inB_iff.1 hl
    by_cases hF : 60 < F.length
    · have HG := Lib.hid (show rightB L F l = false by unfold rightB; rw [show decide (F.length ≤ 60) = false from decide_eq_false (by omega)]; simp)
      go_enter Tryz.func37, Tryz.ntmps37
      go_wp2_with ((with_reducible refine (within_any _ _ _ _).mono ?_); rintro e w1 ⟨rfl, rfl⟩)
      go_ret
      exact ⟨ret_bool (by rw [HG.out]; rfl), below1 _ _⟩
    · cases hg : gangB l
      · have HG := Lib.hid (show rightB L F l = false by unfold rightB; rw [hg]; simp)
        have HE := Lib.hid (show gangErr l = 2 by unfold gangErr; rw [hg]; rfl)
        go_enter Tryz.func37, Tryz.ntmps37
        go_wp2_with ((with_reducible refine (within_any _ _ _ _).mono ?_); rintro e w1 ⟨rfl, hw⟩; obtain rfl := hw.symm)
        refine (HCK.out _ (below1 _ _)).mono ?_
        rintro e w1 ⟨rfl, hb⟩
        rw [HE.out]
        have hB := Lib.hid ((below1 w _).trans (hb.mono (by simp)))
        clear hb
        go_wp2
        go_ret
        exact ⟨ret_bool (by rw [HG.out]; rfl), hB.out⟩
      · have HR := Lib.hid (show rightB L F l = ascB (lastF F 0) L (F.drop 0) by unfold rightB; rw [hl, hg, show decide (F.length ≤ 60) = true from decide_eq_true (by omega)]; rfl)
        have HE := Lib.hid (show gangErr l = 0 by unfold gangErr; rw [hg]; rfl)
        go_enter Tryz.func37, Tryz.ntmps37
        go_wp2_with ((with_reducible refine (within_any _ _ _ _).mono ?_); rintro e w1 ⟨rfl, hw⟩; obtain rfl := hw.symm)
        refine (HCK.out _ (below1 _ _)).mono ?_
        rintro e w1 ⟨rfl, hb⟩
        rw [HE.out]
        have hC := Lib.hid (((Sy.enter w).al w.heap.size #[.int .i64 L, .slice a F.length c, .slice a' n' c'] 104 rfl).call hb)
        clear hb
        have c0 := hC.out.cell 0 0 rfl rfl
        have c1 := hC.out.cell 0 1 rfl rfl
        go_wp2
        go_loop [3, 25] (fun lv iv => ∃ k : Nat, k ≤ F.length ∧ iv = .int .i64 k ∧ lv = .int .i64 (lastF F k) ∧ Hid (rightB L F l = ascB (lastF F k) L (F.drop k))) (fun _ iv => F.length - (intOf iv).toNat)
        case atStart => exact ⟨0, Nat.zero_le _, rfl, rfl, HR⟩
        case round =>
          clear HR
          obtain ⟨k, hk, rfl, rfl, hI⟩ := hrel
          by_cases hlt : k < F.length
          · obtain ⟨g0, o0, rfl⟩ := HS.out.addr (by omega)
            have x0 := (hC.out.sx HS.out).at1 hlt
            have HD := Lib.hid (hI.out.trans (ascB_drop hlt))
            have HL1 := Lib.hid (show lastF F (k + 1) = F[k] by unfold lastF; rw [if_neg (by omega), Nat.add_sub_cancel, getD_at hlt])
            generalize F[k] = f at *
            generalize lastF F k = last at *
            cases h1 : decide (f ≤ last)
            · cases h2 : decide (L ≤ f)
              · have HG := Lib.hid (show rightB L F l = ascB (lastF F (k + 1)) L (F.drop (k + 1)) by
                  rw [HD.out, show decide (last < f) = true from decide_eq_true (by have := of_decide_eq_false h1; omega), show decide (f < L) = true from decide_eq_true (by have := of_decide_eq_false h2; omega)]; rfl)
                go_wp2
                go_round
                case rel => exact ⟨k + 1, by omega, by go_num, by rw [HL1.out], HG⟩
                case measure => simp [intOf]; omega
              · have HG := Lib.hid (show rightB L F l = false by rw [HD.out, show decide (f < L) = false from decide_eq_false (by have := of_decide_eq_true h2; omega)]; simp)
                go_wp2
                go_ret
                exact ⟨ret_bool (by rw [HG.out]; rfl), hC.out.be⟩
            · have HG := Lib.hid (show rightB L F l = false by rw [HD.out, show decide (last < f) = false from decide_eq_false (by have := of_decide_eq_true h1; omega)]; simp)
              go_wp2
              go_ret
              exact ⟨ret_bool (by rw [HG.out]; rfl), hC.out.be⟩
          · obtain rfl : k = F.length := by omega
            have HG := Lib.hid (show rightB L F l = true by rw [hI.out, List.drop_length]; rfl)
            go_wp2
            go_ret
            exact ⟨ret_bool (by rw [HG.out]; rfl), hC.out.be⟩
end
end Go.Proofs.YtchignmnnbepnaaGreat

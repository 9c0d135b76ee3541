/- indexes, IndexFunc and ContainsFunc at a function with one bound value; the helpers of Prices -/
import Derived.Test.YteogibpmpppgmaaGreatH16
import Derived.Test.YteogibpmpppgmaaGreatH3
import Derived.Test.YteogibpmpppgmaaGreatH20
namespace Go.Proofs.YteogibpmpppgmaaGreat
open Go.RowKit

section
variable (w : World)
set_option maxRecDepth 100000 in
set_option maxHeartbeats 4000000 in
theorem indexesPile_any (a : Option Addr) (n c : Nat) (P : List I3) (hs : Sx 3 w a n c (L3 P)) (hn : n ≤ 1000) :
    Calls Tryz.prog 78 #[.slice a n c] w (RetRow w 3 1 n (L1 (idxs (List.range n)))) := by
  obtain rfl := hs.n3
  go_enter Tryz.func78, Tryz.ntmps78
  go_wp2
  go_loopw [3, 7] (fun ov iv wr => ∃ (k : Nat) (a1 : Option Addr) (c1 : Nat), k ≤ P.length ∧ ov = .slice a1 k c1 ∧ iv = .int .i64 k ∧ Hid (Sy w wr [] [⟨.slice a1 k c1, 3, 1, k, L1 (idxs (List.range k))⟩] [])) (fun _ iv _ => P.length - (intOf iv).toNat)
  case atStart => exact ⟨0, none, 0, Nat.zero_le _, rfl, rfl, Lib.hid ((Sy.enter w).onil _ 1)⟩
  case round =>
    obtain ⟨k, a1, c1, hk, rfl, rfl, hS⟩ := hrel
    by_cases hlt : k < P.length
    · have hkk : (k : Int) < (P.length : Int) := by omega
      have HR := Lib.hid (idxs_range k)
      go_wp2_with (refine wpList_append_sy (o := ⟨some 13, _, _, _, _, _⟩) rfl (hS.out.onew wr.heap.size #[.int .i64 (k : Int)] 3 1 1 rfl (by omega) rfl) 0 1 rfl rfl _ _ _ rfl und_int info_int rfl (by omega) rfl rfl (by intro u hu; simp at hu; rcases hu with rfl; rfl) (by omega) (by omega) ?_; intro a4 c4 V4 hV; have hU := Lib.hid (hV.thin (List.Sublist.refl _) (List.Sublist.cons_cons _ (List.nil_sublist _))); clear hV)
      go_roundw
      case rel =>
        refine ⟨k + 1, a4, c4, by omega, rfl, by go_num, ?_⟩
        rw [HR.out, L1_append]
        exact hU
      case measure => simp [intOf]; omega
    · have hkk : ¬ (k : Int) < (P.length : Int) := by omega
      obtain rfl : k = P.length := by omega
      go_wp2
      go_ret
      exact ⟨a1, c1, rfl, hS.out.gives 0 rfl, hS.out.be⟩
set_option maxHeartbeats 1000000 in
theorem indexFuncB_int (a : Option Addr) (n c : Nat) (l : List Int) (g : Nat) (v : Value) (p : Int → Bool) (hs : Sx 1 w a n c (L1 l)) (eg : EG g) (hf : ∀ W, Below w.heap.size w W → ∀ x ∈ l, Calls Tryz.prog g #[v, .int .i64 x] W (Gives (.bool (p x)) W)) :
    Calls Tryz.prog 117 #[.slice a n c, .func (.func g) #[v] #[]] w (fun e w' => ∃ r : Int, e = .returned (.int .i64 r) ∧ ((0 ≤ r) ↔ l.any p = true) ∧ Below w.heap.size w w') := by
  have hn := hs.n1
  have hm : l.length ≤ 9223372036854775807 := by have := hs.cap; unfold maxLen at this; omega
  have HS := Lib.hid hs
  have HF := Lib.hid hf
  obtain rfl : l.length = n := hn.symm
  clear hs hf hn
  go_enter Tryz.func117, Tryz.ntmps117
  go_wp2
  go_loopw [5, 8] (fun _ iv wr => ∃ k : Nat, k ≤ l.length ∧ iv = .int .i64 k ∧ Hid ((∀ i (h : i < l.length), i < k → p l[i] = false) ∧ Below w.heap.size w wr)) (fun _ iv _ => l.length - (intOf iv).toNat)
  case atStart => exact ⟨0, Nat.zero_le _, rfl, Lib.hid ⟨fun i _ h => absurd h (Nat.not_lt_zero i), Below.refl _ _⟩⟩
  case round =>
    obtain ⟨k, hk, rfl, hI⟩ := hrel
    by_cases hlt : k < l.length
    · have hx := HF.out wr hI.out.2 l[k] (List.getElem_mem hlt)
      obtain ⟨g0, o0, rfl⟩ := HS.out.addr (by omega)
      obtain x0 := (HS.out.below hI.out.2).at1 hlt
      have HPK := Lib.hid (show ∀ i (h : i < l.length), i = k → p l[i] = p l[k] from fun i h e => by subst e; rfl)
      have HM := Lib.hid (show l[k] ∈ l from List.getElem_mem hlt)
      generalize l[k] = x at *
      cases hp : p x
      · rw [hp] at hx
        have HP := Lib.hid hp
        have HX := Lib.hid hx
        clear hp hx HF HS
        go_wp2_with fail
        refine HX.out.mono ?_
        rintro e w1 ⟨rfl, hb⟩
        have hB := Lib.hid (hI.out.2.trans (hb.mono hI.out.2.size))
        clear hb
        go_wp2
        go_roundw
        case rel => exact ⟨k + 1, by omega, by go_num, Lib.hid ⟨fun i h hik => by
          rcases Nat.lt_or_ge i k with h1 | h1
          · exact hI.out.1 i h h1
          · exact (HPK.out i h (by omega)).trans HP.out, hB.out⟩⟩
        case measure => simp [intOf]; omega
      · rw [hp] at hx
        have HP := Lib.hid hp
        have HX := Lib.hid hx
        clear hp hx HF HS
        go_wp2_with fail
        refine HX.out.mono ?_
        rintro e w1 ⟨rfl, hb⟩
        have hB := Lib.hid (hI.out.2.trans (hb.mono hI.out.2.size))
        clear hb
        go_wp2
        go_ret
        refine ⟨k, rfl, ⟨fun _ => List.any_eq_true.2 ⟨x, HM.out, HP.out⟩, fun _ => by omega⟩, hB.out⟩
    · go_wp2
      go_ret
      refine ⟨-1, rfl, ⟨fun h => absurd h (by decide), fun h => ?_⟩, hI.out.2⟩
      obtain ⟨x, hx, h2⟩ := List.any_eq_true.1 h
      obtain ⟨i, hi, rfl⟩ := List.getElem_of_mem hx
      rw [hI.out.1 i hi (by omega)] at h2
      cases h2
set_option maxHeartbeats 1000000 in
theorem containsFuncB_int (a : Option Addr) (n c : Nat) (l : List Int) (g : Nat) (v : Value) (p : Int → Bool) (hs : Sx 1 w a n c (L1 l)) (eg : EG g) (hf : ∀ W, Below w.heap.size w W → ∀ x ∈ l, Calls Tryz.prog g #[v, .int .i64 x] W (Gives (.bool (p x)) W)) :
    Calls Tryz.prog 72 #[.slice a n c, .func (.func g) #[v] #[]] w (Gives (.bool (l.any p)) w) := by
  have HS := Lib.hid hs
  have HF := Lib.hid hf
  clear hs hf
  have EGH := Lib.hid eg
  clear eg
  cases hp : l.any p
  all_goals
    have HP := Lib.hid hp
    clear hp
    go_enter Tryz.func72, Tryz.ntmps72
    go_wp2_with fail
    refine (indexFuncB_int _ a n c l g v p HS.out EGH.out HF.out).mono ?_
    rintro e w1 ⟨r, rfl, hr, hb⟩
    rw [HP.out] at hr
    have hB := Lib.hid hb
    clear hb HS HF
  · have hr2 : r < 0 := by
      rcases Int.lt_or_le r 0 with h | h
      · exact h
      · exact absurd (hr.1 h) (by decide)
    clear hr
    go_wp2
    go_ret
    exact ⟨ret_bool (by simp; omega), hB.out⟩
  · have hr2 : 0 ≤ r := hr.2 rfl
    clear hr
    go_wp2
    go_ret
    exact ⟨ret_bool (by simp), hB.out⟩
set_option maxHeartbeats 400000 in
theorem prices1_any (x : Int) : Calls Tryz.prog 79 #[.int .i64 x] w (Gives (.bool true) w) := by
  go_enter Tryz.func79, Tryz.ntmps79
  go_wp2
  go_ret
  exact ⟨rfl, Below.refl _ _⟩
theorem eg_prices1 : EG 79 := enters_of Tryz.func79 (by kernel_rfl) rfl
end
end Go.Proofs.YteogibpmpppgmaaGreat

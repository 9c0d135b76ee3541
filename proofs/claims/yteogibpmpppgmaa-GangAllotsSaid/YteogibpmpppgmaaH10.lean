/- the least number of days: sort.Search, slices.Clone, work.wrong, work.eager, Days -/
import Derived.Test.YteogibpmpppgmaaH9
import Derived.Test.YteogibpmpppgmaaH3
import Derived.Test.YteogibpmpppgmaaH8
import Derived.Test.YteogibpmpppgmaaG4
namespace Go.Proofs.Yteogibpmpppgmaa
open Go.RowKit
theorem und_Stint : Try.prog.underlying 69 = some (.slice 77) := Try.underlying69
theorem info_Stint : (Try.prog.info? 77).map (fun i => (i.zero, i.size, i.bytes)) = some (some (.agg #[.int .i64 0, .int .i64 0, .int .i64 0]), 3, 24) := by kernel_rfl
section
variable (w : World)
theorem count_false {p : Nat → Bool} {n lo : Nat} (hlo : lo ≤ n) (h1 : ∀ t, t < lo → p t = false) (h2 : ∀ t, lo ≤ t → t < n → p t = true) : (List.range n).countP (fun i => !p i) = lo := by
  induction n with
  | zero => simp at hlo; subst hlo; rfl
  | succ n ih =>
    rw [List.range_succ, List.countP_append, List.countP_singleton]
    rcases Nat.lt_or_ge n lo with h | h
    · have : lo = n + 1 := by omega
      subst this
      have hall : (List.range n).countP (fun i => !p i) = n := by
        have h3 : (List.range n).countP (fun i => !p i) = (List.range n).length := List.countP_eq_length.2 fun i hi => by rw [h1 i (by have := List.mem_range.1 hi; omega)]; rfl
        simpa using h3
      rw [hall, h1 n h]; rfl
    · rw [ih h fun t h3 h4 => h2 t h3 (by omega), h2 n h (by omega)]; rfl
set_option maxHeartbeats 4000000 in
set_option maxRecDepth 100000 in
theorem search_any (g : Nat) (cb : Array Value) (n : Nat) (p : Nat → Bool) (eg : EG g) (hsz : n < 4611686018427387904) (hf : ∀ W, Below w.heap.size w W → ∀ i : Nat, i < n → Calls Try.prog g (#[.int .i64 i] ++ cb) W (Gives (.bool (p i)) W)) (hmono : ∀ a b, a ≤ b → b < n → p a = true → p b = true) :
    Calls Try.prog 57 #[.int .i64 n, .func (.func g) #[] cb] w (Gives (.int .i64 ((List.range n).countP (fun i => !p i) : Nat)) w) := by
  have HF := Lib.hid hf
  have HM := Lib.hid hmono
  clear hf hmono
  generalize hcnt : (List.range n).countP (fun i => !p i) = cnt
  have CN := Lib.hid hcnt
  clear hcnt
  go_enter Try.func57, Try.ntmps57
  go_wp2
  go_loopw [5, 6] (fun s5 s6 wr => ∃ lo hi : Nat, s5 = .int .i64 lo ∧ s6 = .int .i64 hi ∧ lo ≤ hi ∧ hi ≤ n ∧ Hid ((∀ t, t < lo → p t = false) ∧ (∀ t, hi ≤ t → t < n → p t = true) ∧ Below w.heap.size w wr)) (fun s5 s6 _ => (intOf s6).toNat - (intOf s5).toNat)
  case atStart => exact ⟨0, n, rfl, rfl, Nat.zero_le _, Nat.le_refl _, Lib.hid ⟨fun t ht => absurd ht (Nat.not_lt_zero _), fun t h1 h2 => by omega, Below.refl _ _⟩⟩
  case round =>
    obtain ⟨lo, hi, rfl, rfl, hlh, hin, I⟩ := hrel
    by_cases hlt : lo < hi
    · have hc := HF.out wr I.out.2.2 ((lo + hi) / 2) (by omega)
      rw [show (((lo + hi) / 2 : Nat) : Int) = ((lo : Int) + (hi : Int)) / 2 by omega] at hc
      cases hp : p ((lo + hi) / 2) <;> rw [hp] at hc
      · have HP := Lib.hid hp
        have HC := Lib.hid hc
        clear hp hc
        go_wp2_with fail
        refine HC.out.mono ?_
        rintro e w1 ⟨rfl, hb⟩
        have hB := Lib.hid (I.out.2.2.trans (hb.mono I.out.2.2.size))
        clear hb
        go_wp2
        go_roundw
        case rel =>
          refine ⟨(lo + hi) / 2 + 1, hi, by rw [show ((lo : Int) + (hi : Int)) / 2 + 1 = (((lo + hi) / 2 + 1 : Nat) : Int) by omega], rfl, by omega, hin, Lib.hid ⟨fun t ht => ?_, I.out.2.1, hB.out⟩⟩
          cases h : p t with
          | false => rfl
          | true => have := HM.out t ((lo + hi) / 2) (by omega) (by omega) h; rw [HP.out] at this; cases this
        case measure => simp [intOf]; omega
      · have HP := Lib.hid hp
        have HC := Lib.hid hc
        clear hp hc
        go_wp2_with fail
        refine HC.out.mono ?_
        rintro e w1 ⟨rfl, hb⟩
        have hB := Lib.hid (I.out.2.2.trans (hb.mono I.out.2.2.size))
        clear hb
        go_wp2
        go_roundw
        case rel => exact ⟨lo, (lo + hi) / 2, rfl, by rw [show ((lo : Int) + (hi : Int)) / 2 = (((lo + hi) / 2 : Nat) : Int) by omega], by omega, by omega, Lib.hid ⟨I.out.1, fun t ht htn => HM.out ((lo + hi) / 2) t ht htn HP.out, hB.out⟩⟩
        case measure => simp [intOf]; omega
    · obtain rfl : hi = lo := by omega
      have HE := Lib.hid (show cnt = hi by rw [← CN.out]; exact count_false hin I.out.1 I.out.2.1)
      go_wp2
      go_ret
      exact ⟨ret_int (by rw [HE.out]), I.out.2.2⟩
theorem clone_any (a : Option Addr) (n c : Nat) (l : List Int) (hs : Sx 1 w a n c (L1 l)) (hn : n ≤ 1000) : Calls Try.prog 75 #[.slice a n c] w (RetRow w 3 1 n (L1 l)) := by
  have key : ∀ v' : Value, ∀ w' : World, w'.ownsRow w.heap.size 3 1 v' n (L1 l) → Below w.heap.size w w' → RetRow w 3 1 n (L1 l) (.returned v') w' := fun v' w' h hb => by
    rcases h.2 with ⟨rfl, h0⟩ | ⟨g, cap, cur, rfl, _⟩
    · exact ⟨none, 0, by rw [h0], by rw [← h0] at h; rw [h0] at h ⊢; exact h, hb⟩
    · exact ⟨_, _, rfl, h, hb⟩
  have hlen := hs.n1
  cases a with
  | none =>
    have h0 : n = 0 := by
      rcases Nat.eq_zero_or_pos n with h | h
      · exact h
      · obtain ⟨_, _, e⟩ := hs.addr h; cases e
    subst h0
    refine (Try.slices_Clone_int_nil 0 c w).mono ?_
    rintro e w' ⟨rfl, rfl⟩
    refine key _ _ ?_ (Below.refl _ _)
    rw [List.length_eq_zero_iff.1 hlen.symm]
    exact World.ownsRow_nil _ _ _ _
  | some a =>
    rcases Nat.eq_zero_or_pos n with h | h
    · subst h
      refine (Try.slices_Clone_int_zero a c w).mono ?_
      rintro e w' ⟨v', rfl, h1, _, h2⟩
      refine key _ _ ?_ h2
      rw [List.length_eq_zero_iff.1 hlen.symm]
      exact h1
    · obtain ⟨g, o, e⟩ := hs.addr h
      cases e
      refine (Try.slices_Clone_int g o n c l w (by omega) (by omega) (fun j hj => ?_)).mono ?_
      · rw [List.getD_eq_getElem?_getD, List.getElem?_eq_getElem hj]
        exact hs.at1 hj
      · rintro e w' ⟨v', rfl, h1, _, h2⟩
        rw [List.take_of_length_le (by omega)] at h1
        exact key _ _ h1 h2

/-- a wall's length with frames and a gang: is it right? -/
def ascB (last L : Int) : List Int → Bool
  | [] => true
  | f :: r => decide (last < f) && decide (f < L) && ascB f L r
def rightB (L : Int) (F : List Int) (l : List WL) : Bool := inB L 1 100000 && decide (F.length ≤ 60) && gangB l && ascB 0 L F
/-- what is asked of what is left: from frame k on, the last one having been passed -/
def lastF (F : List Int) (k : Nat) : Int := if k = 0 then 0 else F.getD (k - 1) 0
theorem ascB_drop {L : Int} {F : List Int} {k : Nat} (h : k < F.length) : ascB (lastF F k) L (F.drop k) = (decide (lastF F k < F[k]) && decide (F[k] < L) && ascB (lastF F (k + 1)) L (F.drop (k + 1))) := by
  rw [List.drop_eq_getElem_cons h]
  unfold ascB
  have : lastF F (k + 1) = F[k] := by unfold lastF; rw [if_neg (by omega), Nat.add_sub_cancel, getD_at h]
  rw [this]
  cases F.drop (k + 1) <;> rfl
set_option maxHeartbeats 4000000 in
set_option maxRecDepth 100000 in
theorem wrong_any (a a' : Option Addr) (n c n' c' : Nat) (L : Int) (F : List Int) (l : List WL) (hs : Sx 1 w a n c (L1 F)) (hs' : Sx 3 w a' n' c' (LW l)) (hn : ∀ x ∈ l, x.1.size ≤ maxLen) :
    Calls Try.prog 56 #[.agg #[.int .i64 L, .slice a n c, .slice a' n' c']] w (Gives (.bool (!rightB L F l)) w) := by
  have hlen := hs.n1
  have hm : F.length ≤ 9223372036854775807 := by have := hs.cap; unfold maxLen at this; omega
  have HS := Lib.hid hs
  have HCK := Lib.hid (fun W (hW : Below w.heap.size w W) => check_any W a' n' c' l (hs'.below hW) hn)
  obtain rfl : F.length = n := hlen.symm
  clear hs hlen hs' hn
  cases hl : inB L 1 100000
  · have HG := Lib.hid (show rightB L F l = false by unfold rightB; rw [hl]; rfl)
    go_enter Try.func56, Try.ntmps56
    go_wp2_with ((with_reducible refine (within_any _ _ _ _).mono ?_); rintro e w1 ⟨rfl, rfl⟩)
    go_ret
    exact ⟨ret_bool (by rw [HG.out]; rfl), below1 _ _⟩
  · have hL := inB_iff.1 hl
    by_cases hF : 60 < F.length
    · have HG := Lib.hid (show rightB L F l = false by unfold rightB; rw [show decide (F.length ≤ 60) = false from decide_eq_false (by omega)]; simp)
      go_enter Try.func56, Try.ntmps56
      go_wp2_with ((with_reducible refine (within_any _ _ _ _).mono ?_); rintro e w1 ⟨rfl, rfl⟩)
      go_ret
      exact ⟨ret_bool (by rw [HG.out]; rfl), below1 _ _⟩
    · cases hg : gangB l
      · have HG := Lib.hid (show rightB L F l = false by unfold rightB; rw [hg]; simp)
        have HE := Lib.hid (show gangErr l = 2 by unfold gangErr; rw [hg]; rfl)
        go_enter Try.func56, Try.ntmps56
        go_wp2_with ((with_reducible refine (within_any _ _ _ _).mono ?_); rintro e w1 ⟨rfl, hw⟩; obtain rfl := hw.symm)
        refine (HCK.out _ (below1 _ _)).mono ?_
        rintro e w1 ⟨rfl, hb⟩
        rw [HE.out]
        have hB := Lib.hid ((below1 w _).trans (hb.mono (by simp)))
        clear hb
        go_wp2
        go_ret
        exact ⟨ret_bool (by rw [HG.out]; rfl), hB.out⟩
      · have HR := Lib.hid (show rightB L F l = ascB (lastF F 0) L (F.drop 0) by unfold rightB; rw [hl, hg, show decide (F.length ≤ 60) = true from decide_eq_true (by omega)]; rfl)
        have HE := Lib.hid (show gangErr l = 0 by unfold gangErr; rw [hg]; rfl)
        go_enter Try.func56, Try.ntmps56
        go_wp2_with ((with_reducible refine (within_any _ _ _ _).mono ?_); rintro e w1 ⟨rfl, hw⟩; obtain rfl := hw.symm)
        refine (HCK.out _ (below1 _ _)).mono ?_
        rintro e w1 ⟨rfl, hb⟩
        rw [HE.out]
        have hC := Lib.hid (((Sy.enter w).al w.heap.size #[.int .i64 L, .slice a F.length c, .slice a' n' c'] 108 rfl).call hb)
        clear hb
        have c0 := hC.out.cell 0 0 rfl rfl
        have c1 := hC.out.cell 0 1 rfl rfl
        go_wp2
        go_loop [3, 25] (fun lv iv => ∃ k : Nat, k ≤ F.length ∧ iv = .int .i64 k ∧ lv = .int .i64 (lastF F k) ∧ Hid (rightB L F l = ascB (lastF F k) L (F.drop k))) (fun _ iv => F.length - (intOf iv).toNat)
        case atStart => exact ⟨0, Nat.zero_le _, rfl, rfl, HR⟩
        case round =>
          clear HR
          obtain ⟨k, hk, rfl, rfl, hI⟩ := hrel
          by_cases hlt : k < F.length
          · obtain ⟨g0, o0, rfl⟩ := HS.out.addr (by omega)
            have x0 := (hC.out.sx HS.out).at1 hlt
            have HD := Lib.hid (hI.out.trans (ascB_drop hlt))
            have HL1 := Lib.hid (show lastF F (k + 1) = F[k] by unfold lastF; rw [if_neg (by omega), Nat.add_sub_cancel, getD_at hlt])
            generalize F[k] = f at *
            generalize lastF F k = last at *
            cases h1 : decide (f ≤ last)
            · cases h2 : decide (L ≤ f)
              · have HG := Lib.hid (show rightB L F l = ascB (lastF F (k + 1)) L (F.drop (k + 1)) by
                  rw [HD.out, show decide (last < f) = true from decide_eq_true (by have := of_decide_eq_false h1; omega), show decide (f < L) = true from decide_eq_true (by have := of_decide_eq_false h2; omega)]; rfl)
                go_wp2
                go_round
                case rel => exact ⟨k + 1, by omega, by go_num, by rw [HL1.out], HG⟩
                case measure => simp [intOf]; omega
              · have HG := Lib.hid (show rightB L F l = false by rw [HD.out, show decide (f < L) = false from decide_eq_false (by have := of_decide_eq_true h2; omega)]; simp)
                go_wp2
                go_ret
                exact ⟨ret_bool (by rw [HG.out]; rfl), hC.out.be⟩
            · have HG := Lib.hid (show rightB L F l = false by rw [HD.out, show decide (last < f) = false from decide_eq_false (by have := of_decide_eq_true h1; omega)]; simp)
              go_wp2
              go_ret
              exact ⟨ret_bool (by rw [HG.out]; rfl), hC.out.be⟩
          · obtain rfl : k = F.length := by omega
            have HG := Lib.hid (show rightB L F l = true by rw [hI.out, List.drop_length]; rfl)
            go_wp2
            go_ret
            exact ⟨ret_bool (by rw [HG.out]; rfl), hC.out.be⟩
end
end Go.Proofs.Yteogibpmpppgmaa

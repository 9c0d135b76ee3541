/- the statements' Small: which plans are not great -/
import Derived.Test.YtchignmnnbepnaaGreatJ25
import Derived.Test.YtchignmnnbepnaaGreatJ22
namespace Go.Proofs.YtchignmnnbepnaaGreat
open Go.RowKit
def smS (s : Sht) : Bool := !decide (20 < s.hn) && !decide (40 < s.name.size)
def smW (x : Wal) : Bool := !decide (25 < x.on)
def smallB (S : List Sht) (L : List Wal) : Bool := S.all smS && L.all smW && decide (S.length ≤ 25) && decide (L.length ≤ 60)
theorem all_at {α : Type} {p : α → Bool} {l : List α} {i : Nat} (hi : i < l.length) (h : p l[i] = false) : l.all p = false := by
  cases e : l.all p
  · rfl
  · rw [List.all_eq_true.1 e _ (List.getElem_mem hi)] at h; cases h
theorem all_of {α : Type} {p : α → Bool} {l : List α} (h : ∀ i (hi : i < l.length), p l[i] = true) : l.all p = true := List.all_eq_true.2 fun x hx => by
  obtain ⟨i, hi, rfl⟩ := List.getElem_of_mem hx
  exact h i hi
section
variable (w : World)
set_option maxHeartbeats 16000000 in
set_option maxRecDepth 100000 in
theorem small_any (sa wa : Option Addr) (sn sc wn wc : Nat) (S : List Sht) (L : List Wal) (hS : Sx 20 w sa sn sc (LS S)) (hL : Sx 4 w wa wn wc (LWa L)) :
    Calls Tryz.prog 5 #[.agg #[.slice sa sn sc, .slice wa wn wc]] w (Gives (.bool (smallB S L)) w) := by
  obtain rfl := hS.nS
  obtain rfl := hL.nWa
  have hcs := hS.cap
  have hcw := hL.cap
  unfold maxLen at hcs hcw
  have HS := Lib.hid hS
  have HL := Lib.hid hL
  clear hS hL
  have HE := Lib.hid (show smallB S L = (S.all smS && L.all smW && decide (S.length ≤ 25) && decide (L.length ≤ 60)) from rfl)
  generalize smallB S L = R at *
  go_enter Tryz.func5, Tryz.ntmps5
  go_upto_region 1 with (refine wpList_bx (o := ⟨some 1, _, _, _, _, _⟩) rfl (Sy.enter w) _ _ rfl #[.slice sa S.length sc, .slice wa L.length wc] rfl ?_; intro bp V1 h1; have hC := Lib.hid h1; clear h1)
  have x0 : V1.cell? ⟨bp, 0, none⟩ = some (.slice sa S.length sc) := hC.out.cell 0 0 rfl rfl
  have x1 : V1.cell? ⟨bp, 1, none⟩ = some (.slice wa L.length wc) := hC.out.cell 0 1 rfl rfl
  go_wp2
  go_loop [3] (fun iv => ∃ k : Nat, k ≤ S.length ∧ iv = .int .i64 k ∧ Hid (∀ i (hi : i < S.length), i < k → smS S[i] = true)) (fun iv => S.length - (intOf iv).toNat)
  case atStart => exact ⟨0, Nat.zero_le _, rfl, Lib.hid (fun i _ h => absurd h (Nat.not_lt_zero i))⟩
  case round =>
    obtain ⟨k, hk, rfl, HI⟩ := hrel
    by_cases hlt : k < S.length
    · obtain ⟨g0, o0, rfl⟩ := HS.out.addr (by omega)
      obtain ⟨y0, -, -, -, -, y5, -⟩ := (HS.out.below hC.out.be).atS hlt
      have HN := Lib.hid (fun h => all_at (p := smS) hlt h)
      have HX := Lib.hid (show smS S[k] = true → ∀ i (hi : i < S.length), i < k + 1 → smS S[i] = true from fun hx i hi hik => by
        rcases Nat.lt_or_ge i k with h | h
        · exact HI.out i hi h
        · have : i = k := by omega
          subst this; exact hx)
      have HD := Lib.hid (show smS S[k] = (!decide (20 < S[k].hn) && !decide (40 < S[k].name.size)) from rfl)
      have i0 : (0 : Int) ≤ (k : Int) := by omega
      have i1 : (k : Int) < (S.length : Int) := by omega
      clear HI
      generalize smS S[k] = b at *
      generalize S[k] = s at *
      by_cases h1 : (s.hn : Int) > 20
      · have HB := Lib.hid (show R = false by rw [HE.out, HN.out (by rw [HD.out, decide_eq_true (by omega)]; rfl)]; rfl)
        go_wp2
        go_ret
        exact ⟨ret_bool HB.out.symm, hC.out.be⟩
      · have d1 : decide ((s.hn : Int) > 20) = false := decide_eq_false h1
        by_cases h2 : (s.name.size : Int) > 40
        · have HB := Lib.hid (show R = false by rw [HE.out, HN.out (by rw [HD.out, decide_eq_true (show 40 < s.name.size by omega)]; simp)]; rfl)
          go_wp2
          go_ret
          exact ⟨ret_bool HB.out.symm, hC.out.be⟩
        · have HB := Lib.hid (HX.out (by rw [HD.out, decide_eq_false (by omega), decide_eq_false (by omega)]; rfl))
          have d2 : decide ((s.name.size : Int) > 40) = false := decide_eq_false h2
          go_wp2
          go_round
          case rel => exact ⟨k + 1, by omega, by go_num, HB⟩
          case measure => simp [intOf]; omega
    · have hkk : ¬ (k : Int) < (S.length : Int) := by omega
      have HSY := Lib.hid (all_of (p := smS) (fun i hi => HI.out i hi (by omega)))
      go_wp2
      go_loop [4] (fun iv => ∃ m : Nat, m ≤ L.length ∧ iv = .int .i64 m ∧ Hid (∀ i (hi : i < L.length), i < m → smW L[i] = true)) (fun iv => L.length - (intOf iv).toNat)
      case atStart => exact ⟨0, Nat.zero_le _, rfl, Lib.hid (fun i _ h => absurd h (Nat.not_lt_zero i))⟩
      case round =>
        clear HI hkk hlt
        obtain ⟨m, hm, rfl, HI⟩ := hrel
        by_cases hlt : m < L.length
        · obtain ⟨g1, o1, rfl⟩ := HL.out.addr (by omega)
          obtain ⟨-, -, -, y3⟩ := (HL.out.below hC.out.be).atWa hlt
          have HN := Lib.hid (fun h => all_at (p := smW) hlt h)
          have HX := Lib.hid (show smW L[m] = true → ∀ i (hi : i < L.length), i < m + 1 → smW L[i] = true from fun hx i hi hik => by
            rcases Nat.lt_or_ge i m with h | h
            · exact HI.out i hi h
            · have : i = m := by omega
              subst this; exact hx)
          have HD := Lib.hid (show smW L[m] = !decide (25 < L[m].on) from rfl)
          have i0 : (0 : Int) ≤ (m : Int) := by omega
          have i1 : (m : Int) < (L.length : Int) := by omega
          clear HI
          generalize smW L[m] = b at *
          generalize L[m] = x at *
          by_cases h1 : (x.on : Int) > 25
          · have HB := Lib.hid (show R = false by rw [HE.out, HN.out (by rw [HD.out, decide_eq_true (by omega)]; rfl)]; simp)
            go_wp2
            go_ret
            exact ⟨ret_bool HB.out.symm, hC.out.be⟩
          · have HB := Lib.hid (HX.out (by rw [HD.out, decide_eq_false (by omega)]; rfl))
            have d2 : decide ((x.on : Int) > 25) = false := decide_eq_false h1
            go_wp2
            go_round
            case rel => exact ⟨m + 1, by omega, by go_num, HB⟩
            case measure => simp [intOf]; omega
        · have hkk : ¬ (m : Int) < (L.length : Int) := by omega
          have HWY := Lib.hid (all_of (p := smW) (fun i hi => HI.out i hi (by omega)))
          by_cases h1 : (S.length : Int) ≤ 25
          · by_cases h2 : (L.length : Int) ≤ 60
            · have HB := Lib.hid (show R = true by rw [HE.out, HSY.out, HWY.out, decide_eq_true (by omega), decide_eq_true (by omega)]; rfl)
              go_wp2
              go_ret
              exact ⟨ret_bool HB.out.symm, hC.out.be⟩
            · have HB := Lib.hid (show R = false by rw [HE.out, decide_eq_false (show ¬ L.length ≤ 60 by omega)]; simp)
              have d2 : decide ((L.length : Int) ≤ 60) = false := decide_eq_false h2
              go_wp2
              go_ret
              exact ⟨ret_bool HB.out.symm, hC.out.be⟩
          · have HB := Lib.hid (show R = false by rw [HE.out, decide_eq_false (show ¬ S.length ≤ 25 by omega)]; simp)
            have d1 : decide ((S.length : Int) ≤ 25) = false := decide_eq_false h1
            go_wp2
            go_ret
            exact ⟨ret_bool HB.out.symm, hC.out.be⟩
end
end Go.Proofs.YtchignmnnbepnaaGreat

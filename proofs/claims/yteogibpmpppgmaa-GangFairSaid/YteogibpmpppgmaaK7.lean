/- the law GangShares, walked -/
import Derived.Test.YteogibpmpppgmaaK6
import Derived.Test.YteogibpmpppgmaaH21
namespace Go.Proofs.Yteogibpmpppgmaa
open Go.RowKit

def ShareOut (s : Int) (l : List Int) (n' : Nat) (en : Int) (xs : List Int) : Prop :=
  (shareBad s l = true ∧ n' = 0 ∧ en = 2) ∨ (shareBad s l = false ∧ lsum l = 0 ∧ n' = 0 ∧ en = 9) ∨
  (shareBad s l = false ∧ 0 < lsum l ∧ n' = l.length ∧ en = 0 ∧ ∃ order, Ordered s l order ∧ xs = shared s l order)
theorem anyOut_take {l : List Int} {k : Nat} (h : k < l.length) : ((l.take (k + 1)).any fun n => !inB n 0 1000000) = (((l.take k).any fun n => !inB n 0 1000000) || !inB l[k] 0 1000000) := by
  rw [List.take_succ_eq_append_getElem h, List.any_append]
  simp
theorem shareBad_at {s : Int} {l : List Int} {k : Nat} (h : k < l.length) (hb : inB l[k] 0 1000000 = false) : shareBad s l = true := by
  unfold shareBad
  rw [Bool.or_eq_true]
  exact .inr (List.any_eq_true.2 ⟨l[k], List.getElem_mem h, by rw [hb]; rfl⟩)
section
variable (w : World)
theorem share_any (a : Option Addr) (n c : Nat) (s : Int) (l : List Int) (hs : Sx 1 w a n c (L1 l)) : Calls Try.prog 11 #[.int .i64 s, .slice a n c] w (fun e w' => ∃ a' n' c' en xs, e = .returned (.tuple #[.slice a' n' c', .int .i64 en]) ∧ ShareOut s l n' en xs ∧ Sy w w' [] [⟨.slice a' n' c', 3, 1, n', L1 xs⟩] []) := by
  have hl := hs.n1
  cases hb : shareBad s l
  · obtain ⟨_, _, g3, _⟩ := share_parts hb
    have h0 : 0 ≤ lsum l := lsum_nonneg fun x hx => (g3 x hx).1
    rcases Int.lt_or_eq_of_le h0 with h1 | h1
    · refine (share_ok w a n c s l hs hb h1).mono ?_
      rintro e w' ⟨order, a', c', ho, rfl, hr, hbl⟩
      exact ⟨a', n, c', 0, _, rfl, .inr (.inr ⟨hb, h1, hl, rfl, order, ho, rfl⟩), (Sy.enter w).adopt hbl hr⟩
    · refine (share_zero w a n c s l hs hb h1.symm).mono ?_
      rintro e w' ⟨rfl, hbl⟩
      exact ⟨none, 0, 0, 9, [], rfl, .inr (.inl ⟨hb, h1.symm, rfl, rfl⟩), ((Sy.enter w).call hbl).onil _ 1⟩
  · refine (share_bad w a n c s l hs hb).mono ?_
    rintro e w' ⟨rfl, hbl⟩
    exact ⟨none, 0, 0, 2, [], rfl, .inl ⟨hb, rfl, rfl⟩, ((Sy.enter w).call hbl).onil _ 1⟩
set_option maxRecDepth 100000 in
set_option maxHeartbeats 8000000 in
theorem gangShares_walk (s : Int) (a : Option Addr) (n c : Nat) (l : List Int) (hs : Sx 1 w a n c (L1 l)) (_ : -9223372036854775808 ≤ s ∧ s < 9223372036854775808) : Calls Try.prog 3 #[.int .i64 s, .slice a n c] w (Gives (.bool true) w) := by
  have hcap := hs.cap
  unfold maxLen at hcap
  obtain rfl := hs.n1
  have HW := Lib.hid wakes_any
  have HS := Lib.hid hs
  have HSH := Lib.hid (share_any w a l.length c s l hs)
  clear hs
  by_cases h70 : 70 < l.length
  · have g1 : ((l.length : Int) > 70) := by omega
    clear HSH
    go_enter Try.func3, Try.ntmps3
    go_wp2_with fail
    refine (HW.out _).mono ?_
    rintro e V ⟨rfl, hb⟩
    have hC := Lib.hid ((Sy.enter w).call hb)
    clear hb
    go_wp2
    go_ret
    exact ⟨rfl, hC.out.be⟩
  · have g1 : ¬ ((l.length : Int) > 70) := by omega
    have HBA := Lib.hid (show (inB s 0 1000000000 = false ∨ 60 < l.length) → shareBad s l = true from fun h => by
      unfold shareBad
      rw [Bool.or_eq_true, Bool.or_eq_true]
      rcases h with h | h
      · exact .inl (.inl (by rw [h]; rfl))
      · exact .inl (.inr (decide_eq_true h)))
    have HSA := Lib.hid (fun W => In_any s 0 1000000000 W)
    have hcases : (inB s 0 1000000000 = false) ∨ (inB s 0 1000000000 = true ∧ (l.length : Int) > 60) ∨ (inB s 0 1000000000 = true ∧ ¬ (l.length : Int) > 60) := by
      cases inB s 0 1000000000
      · exact .inl rfl
      · by_cases h : (l.length : Int) > 60
        · exact .inr (.inl ⟨rfl, h⟩)
        · exact .inr (.inr ⟨rfl, h⟩)
    rcases hcases with hin | ⟨hin, h60⟩ | ⟨hin, h60⟩
    all_goals
      rw [hin] at HSA
      have HIN := Lib.hid hin
      clear hin
      go_enter Try.func3, Try.ntmps3
      go_wp2_with fail
      refine HSH.out.mono ?_
      rintro e W1 ⟨a1, n1, c1, en, xs, rfl, hO, hB⟩
      have HO := Lib.hid hO
      have hC := Lib.hid hB
      have hn1 : n1 ≤ 70 := by rcases hO with ⟨_, h, _⟩ | ⟨_, _, h, _⟩ | ⟨_, _, h, _⟩ <;> omega
      have hen : 0 ≤ en ∧ en ≤ 9 := by rcases hO with ⟨_, _, h⟩ | ⟨_, _, _, h⟩ | ⟨_, _, _, h, _⟩ <;> omega
      clear hO hB HSH
      go_wp2_with ((with_reducible refine (HSA.out _).mono ?_); rintro e w1 ⟨rfl, rfl⟩)
      go_loopw [7, 8, 9] (fun wv tv iv wr => ∃ (k : Nat) (wn q : Int), k ≤ l.length ∧ (0 ≤ q ∧ q ≤ (k : Int) * 1000000) ∧ wv = .int .i64 wn ∧ tv = .int .i64 q ∧ iv = .int .i64 k ∧
        Hid ((wn = 0 ∧ inB s 0 1000000000 = true ∧ ¬ 60 < l.length ∧ ((l.take k).any fun n => !inB n 0 1000000) = false ∧ q = lsum (l.take k)) ∨ (wn = 2 ∧ shareBad s l = true)) ∧ Hid (Sy w wr [] [⟨.slice a1 n1 c1, 3, 1, n1, L1 xs⟩] [])) (fun _ _ iv _ => l.length - (intOf iv).toNat)
      case atStart =>
        first
        | exact ⟨0, 2, 0, Nat.zero_le _, ⟨Int.le_refl _, Int.le_refl _⟩, rfl, rfl, rfl, Lib.hid (.inr ⟨rfl, HBA.out (.inl HIN.out)⟩), hC⟩
        | exact ⟨0, 2, 0, Nat.zero_le _, ⟨Int.le_refl _, Int.le_refl _⟩, rfl, rfl, rfl, Lib.hid (.inr ⟨rfl, HBA.out (.inr (by omega))⟩), hC⟩
        | exact ⟨0, 0, 0, Nat.zero_le _, ⟨Int.le_refl _, Int.le_refl _⟩, rfl, rfl, rfl, Lib.hid (.inl ⟨rfl, HIN.out, by omega, rfl, rfl⟩), hC⟩
      case round =>
        clear hC
        obtain ⟨k, wn, q, hk, hq, rfl, rfl, rfl, hR, hC⟩ := hrel
        by_cases hlt : k < l.length
        · have hkk : (k : Int) < (l.length : Int) := by omega
          have k0 : (0 : Int) ≤ (k : Int) := by omega
          obtain ⟨g0, o0, rfl⟩ := HS.out.addr (by omega)
          have x0 := (hC.out.sx HS.out).at1 hlt
          have HBT := Lib.hid (anyOut_take hlt)
          have HLS := Lib.hid (show lsum (l.take (k + 1)) = lsum (l.take k) + l[k] from by rw [List.take_succ_eq_append_getElem hlt, lsum_snoc])
          have HAT := Lib.hid (fun h => shareBad_at (s := s) hlt h)
          generalize l[k] = x at *
          cases hin : inB x 0 1000000
          · have HIA := Lib.hid (fun W => In_any x 0 1000000 W)
            rw [hin] at HIA
            have HBD := Lib.hid (HAT.out hin)
            clear hin
            go_wp2_with ((with_reducible refine (HIA.out _).mono ?_); rintro e w1 ⟨rfl, rfl⟩)
            go_roundw
            case rel => exact ⟨k + 1, 2, q, by omega, by omega, rfl, rfl, by go_num, Lib.hid (.inr ⟨rfl, HBD.out⟩), hC⟩
            case measure => simp [intOf]; omega
          · have hxb := inB_iff.1 hin
            have HIA := Lib.hid (fun W => In_any x 0 1000000 W)
            rw [hin] at HIA
            have HR2 := Lib.hid (show (wn = 0 ∧ inB s 0 1000000000 = true ∧ ¬ 60 < l.length ∧ ((l.take (k + 1)).any fun n => !inB n 0 1000000) = false ∧ q + x = lsum (l.take (k + 1))) ∨ (wn = 2 ∧ shareBad s l = true) from by
              rcases hR.out with ⟨h1, h2, h3, h4, h5⟩ | h
              · exact .inl ⟨h1, h2, h3, by rw [HBT.out, h4, hin]; rfl, by rw [HLS.out, h5]⟩
              · exact .inr h)
            clear hin
            have wq : IntKind.i64.wrap (q + x) = q + x := by rw [IntKind.wrap_i64]; omega
            go_wp2_with ((with_reducible refine (HIA.out _).mono ?_); rintro e w1 ⟨rfl, rfl⟩)
            go_roundw
            case rel => exact ⟨k + 1, wn, q + x, by omega, by omega, rfl, rfl, by go_num, HR2, hC⟩
            case measure => simp [intOf]; omega
        · have hkk : ¬ (k : Int) < (l.length : Int) := by omega
          have ht : l.take k = l := List.take_of_length_le (by omega)
          rw [ht] at hR
          clear ht
          rcases hR.out with ⟨h1, h2, h3, h4, h5⟩ | ⟨h1, h2⟩
          · have hbf : shareBad s l = false := by unfold shareBad; rw [h2, h4, decide_eq_false h3]; rfl
            obtain ⟨hs0, _, hli, _⟩ := share_parts hbf
            rcases HO.out with ⟨h, _⟩ | ⟨_, hz, hn0, he⟩ | ⟨_, hp, hn0, he, order, ho, hxs⟩
            · rw [hbf] at h; cases h
            · subst he hn0 h1
              obtain rfl : q = 0 := by omega
              clear h5 h4 h3 h2 hbf hR HO hli hz
              go_wp2_with fail
              refine (HW.out _).mono ?_
              rintro e V ⟨rfl, hb⟩
              have hD := Lib.hid (hC.out.call hb)
              clear hb
              go_wp2
              go_ret
              exact ⟨rfl, hD.out.be⟩
            · subst he h1 hxs
              rw [hn0] at *
              have hq0 : ¬ q = 0 := by omega
              have hqb : (q == 0) = false := by simpa using hq0
              have HSP := Lib.hid (shared_pennies hp ho)
              have HRF := Lib.hid (refShare_any wr a l.length c s l (hC.out.sx HS.out) (by omega) hs0.1 hs0.2 hli hp)
              rw [HSP.out] at HRF
              have HSX := Lib.hid (hC.out.osx 0 rfl)
              clear h5 h4 h3 h2 hbf hR HO hli hp hn0
              go_wp2_with fail
              refine HRF.out.mono ?_
              rintro e V ⟨a2, c2, rfl, hr, hb⟩
              have hD := Lib.hid (hC.out.adopt hb hr)
              clear hb hr
              go_wp2_with fail
              refine (ints_any _ _ _ _ _ _ _ _ V (hD.out.osx 0 rfl) (hD.out.osx 1 rfl)).mono ?_
              rintro e V2 ⟨rfl, hb⟩
              have hE := Lib.hid (hD.out.call hb)
              clear hb
              rw [decide_eq_true rfl]
              go_wp2_with fail
              refine (HW.out _).mono ?_
              rintro e V3 ⟨rfl, hb⟩
              have hF := Lib.hid (hE.out.call hb)
              clear hb
              go_wp2
              go_ret
              exact ⟨rfl, hF.out.be⟩
          · rcases HO.out with ⟨_, hn0, he⟩ | ⟨h, _⟩ | ⟨h, _⟩
            · subst he hn0 h1
              clear h2 hR HO
              go_wp2_with fail
              refine (HW.out _).mono ?_
              rintro e V ⟨rfl, hb⟩
              have hD := Lib.hid (hC.out.call hb)
              clear hb
              go_wp2
              go_ret
              exact ⟨rfl, hD.out.be⟩
            · rw [h2] at h; cases h
            · rw [h2] at h; cases h
end
end Go.Proofs.Yteogibpmpppgmaa

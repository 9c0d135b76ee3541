/- gang.Check: which lists are gangs -/
import Derived.Test.YteogibpmpppgmaaH2
import Derived.Test.YteogibpmpppgmaaH6
import Derived.Test.YteogibpmpppgmaaShelf
namespace Go.Proofs.Yteogibpmpppgmaa
open Go.RowKit

def oddR (x : Nat) : Bool := !(decide (97 ≤ x) && decide (x ≤ 122)) && !(decide (48 ≤ x) && decide (x ≤ 57))
section
variable (w : World)
set_option maxHeartbeats 1000000 in
theorem named1_any (x : Nat) (hx : x ≤ 1114111) : Calls Try.prog 113 #[.int .i32 x] w (Gives (.bool (oddR x)) w) := by
  unfold oddR
  by_cases h1 : 97 ≤ x <;> by_cases h2 : x ≤ 122 <;> by_cases h3 : 48 ≤ x <;> by_cases h4 : x ≤ 57
  all_goals first
    | (exfalso; omega)
    | (go_enter Try.func113, Try.ntmps113
       go_wp2
       go_ret
       exact ⟨ret_bool (by simp [h1, h2, h3, h4] <;> omega), Below.refl _ _⟩)
theorem eg_named1 : EG 113 := enters_of Try.func113 (by kernel_rfl) rfl
/-- is a text a name? -/
def namedB (s : ByteArray) : Bool := !s.toList.isEmpty && decide (s.size ≤ 16) && !decide (0 ≤ Lib.idxFunc oddR true s)
set_option maxHeartbeats 1000000 in
theorem named_any (s : ByteArray) (hm : s.size ≤ maxLen) : Calls Try.prog 102 #[.string s] w (Gives (.bool (namedB s)) w) := by
  have HX := Lib.hid (Try.strings_ContainsFunc_grows 113 #[] eg_named1 oddR s w (fun W x hx _ => named1_any W x hx))
  unfold maxLen at hm
  unfold namedB
  cases he : s.toList.isEmpty
  · by_cases hl : s.size ≤ 16
    · go_enter Try.func102, Try.ntmps102
      go_wp2_with fail
      refine HX.out.mono ?_
      rintro e w1 ⟨rfl, hb⟩
      have hB := Lib.hid hb
      clear hb
      go_wp2
      go_ret
      exact ⟨ret_bool (by simp [hl]), hB.out⟩
    · go_enter Try.func102, Try.ntmps102
      go_wp2
      go_ret
      exact ⟨ret_bool (by simp), Below.refl _ _⟩
  · go_enter Try.func102, Try.ntmps102
    go_wp2
    go_ret
    exact ⟨ret_bool (by simp), Below.refl _ _⟩
set_option maxHeartbeats 1000000 in
theorem check1_any (o x : WL) (b : Nat) (h0 : w.cell? ⟨b, 0, none⟩ = some (.string x.1)) (hb : b < w.heap.size) : Calls Try.prog 101 #[.agg #[.string o.1, .int .i64 o.2.1, .int .i64 o.2.2], .pointer (some ⟨b, 0, none⟩)] w (Gives (.bool (o.1.toList == x.1.toList)) w) := by
  obtain ⟨o0, o1, o2⟩ := o
  obtain ⟨x0, x1, x2⟩ := x
  show Calls Try.prog 101 #[.agg #[.string o0, .int .i64 o1, .int .i64 o2], .pointer (some ⟨b, 0, none⟩)] w (Gives (.bool (o0.toList == x0.toList)) w)
  have h0 : w.cell? ⟨b, 0, none⟩ = some (.string x0) := h0
  go_enter Try.func101, Try.ntmps101
  go_wp2
  go_ret
  exact ⟨rfl, below1 _ _⟩
theorem eg_check1 : EG 101 := enters_of Try.func101 (by kernel_rfl) rfl
/-- something of a waller is not right: the name stands before, is no name, pace, rate -/
def badW (p : List WL) (x : WL) : Bool := p.any (fun o => o.1.toList == x.1.toList) || !namedB x.1 || !inB x.2.1 1 20000 || !inB x.2.2 0 1000000
def gangB (l : List WL) : Bool := inB l.length 1 12 && (List.range l.length).all fun i => !badW (l.take i) (l.getD i (⟨#[]⟩, 0, 0))
def gangErr (l : List WL) : Int := if gangB l = true then 0 else 2
theorem LW_take (l : List WL) (i : Nat) : (LW l).take (i * 3) = LW (l.take i) := flat_take (f := cW) (k := 3) (fun _ => rfl) l i
set_option maxHeartbeats 4000000 in
set_option maxRecDepth 100000 in
theorem check_any (a : Option Addr) (n c : Nat) (l : List WL) (hs : Sx 3 w a n c (LW l)) (hn : ∀ x ∈ l, x.1.size ≤ maxLen) : Calls Try.prog 74 #[.slice a n c] w (Gives (.int .i64 (gangErr l)) w) := by
  have hlen := hs.nW
  have hm : l.length ≤ 9223372036854775807 := by have := hs.cap; unfold maxLen at this; omega
  have HS := Lib.hid hs
  have HN := Lib.hid hn
  obtain rfl : l.length = n := hlen.symm
  clear hs hlen hn
  cases hl : inB l.length 1 12
  · have HG := Lib.hid (show gangErr l = 2 by unfold gangErr gangB; rw [hl]; rfl)
    go_enter Try.func74, Try.ntmps74
    go_wp2_with ((with_reducible refine (within_any _ _ _ _).mono ?_); rintro e w1 ⟨rfl, hw⟩; obtain rfl := hw.symm)
    go_ret
    exact ⟨ret_int HG.out.symm, Below.refl _ _⟩
  · have hl12 := inB_iff.1 hl
    have HB := Lib.hid (show ∀ i (h : i < l.length), badW (l.take i) l[i] = true → gangErr l = 2 from fun i h hb => by
      unfold gangErr gangB
      rw [hl, Bool.true_and, if_neg]
      rw [Bool.not_eq_true]
      refine List.all_eq_false.2 ⟨i, List.mem_range.2 h, ?_⟩
      rw [List.getD_eq_getElem?_getD, List.getElem?_eq_getElem h]
      show ¬ (!badW (l.take i) l[i]) = true
      rw [hb]; decide)
    have HOK := Lib.hid (show (∀ i (h : i < l.length), badW (l.take i) l[i] = false) → gangErr l = 0 from fun hall => by
      unfold gangErr gangB
      rw [hl, Bool.true_and, if_pos]
      refine List.all_eq_true.2 fun i hi => ?_
      rw [List.mem_range] at hi
      rw [List.getD_eq_getElem?_getD, List.getElem?_eq_getElem hi]
      show (!badW (l.take i) l[i]) = true
      rw [hall i hi]; rfl)
    go_enter Try.func74, Try.ntmps74
    go_wp2_with ((with_reducible refine (within_any _ _ _ _).mono ?_); rintro e w1 ⟨rfl, hw⟩; obtain rfl := hw.symm)
    go_loopw [12] (fun iv wr => ∃ k : Nat, k ≤ l.length ∧ iv = .int .i64 k ∧ Hid ((∀ i (h : i < l.length), i < k → badW (l.take i) l[i] = false) ∧ Below w.heap.size w wr)) (fun iv _ => l.length - (intOf iv).toNat)
    case atStart => exact ⟨0, Nat.zero_le _, rfl, Lib.hid ⟨fun i _ h => absurd h (Nat.not_lt_zero i), Below.refl _ _⟩⟩
    case round =>
      obtain ⟨k, hk, rfl, hI⟩ := hrel
      by_cases hlt : k < l.length
      · obtain ⟨g0, o0, rfl⟩ := HS.out.addr (by omega)
        obtain ⟨x0, x1, x2⟩ := (HS.out.below hI.out.2).atW hlt
        have hi0 : (0 : Int) ≤ (k : Int) := by omega
        have hi1 : (k : Int) < (l.length : Int) := by omega
        have hcap := HS.out.cap
        have hkc : (k : Int) ≤ (c : Int) := by omega
        have hkc2 : k ≤ c := by omega
        have HE := Lib.hid (show ∀ i (h : i < l.length), i = k → badW (l.take i) l[i] = badW (l.take k) l[k] from fun i h e => by subst e; rfl)
        have HBK := Lib.hid (HB.out k hlt)
        have HZ := Lib.hid (HN.out _ (List.getElem_mem hlt))
        have HX := Lib.hid (fun (b : Nat) W (hW : Below w.heap.size w W) (hc : W.cell? ⟨b, 0, none⟩ = some (.string l[k].1)) (hbl : b < W.heap.size) => containsFunc_Waller (some ⟨g0, o0, none⟩) k c (l.take k) 101 #[.pointer (some ⟨b, 0, none⟩)] (fun o => o.1.toList == l[k].1.toList) W
          (by rw [← LW_take]; exact (HS.out.take hk).below hW) eg_check1
          (fun W' hW' o _ => check1_any W' o l[k] b (by rw [hW'.cell (p := ⟨b, 0, none⟩) hbl]; exact hc) (Nat.lt_of_lt_of_le hbl hW'.size)))
        generalize hxk : l[k] = x at *
        have HXK := Lib.hid hxk
        clear hxk hcap
        obtain ⟨u0, u1, u2⟩ := x
        have HD := Lib.hid (show badW (l.take k) (u0, u1, u2) = ((l.take k).any (fun o => o.1.toList == u0.toList) || !namedB u0 || !inB u1 1 20000 || !inB u2 0 1000000) from rfl)
        have hC := Lib.hid (((Sy.enter w).call hI.out.2).al wr.heap.size #[.string u0, .int .i64 u1, .int .i64 u2] 113 rfl)
        have c0 := hC.out.cell 0 0 rfl rfl
        have hltb := hC.out.lt 0 rfl
        go_wp2_with fail
        refine (HX.out _ _ hC.out.be c0 hltb).mono ?_
        rintro e w1 ⟨rfl, hb1⟩
        have hC1 := Lib.hid (hC.out.call hb1)
        have c0 := hC1.out.cell 0 0 rfl rfl
        have c1 := hC1.out.cell 0 1 rfl rfl
        have c2 := hC1.out.cell 0 2 rfl rfl
        clear hb1 HX hC hltb
        cases h1 : (l.take k).any (fun o => o.1.toList == u0.toList)
        · go_wp2_with fail
          refine (named_any _ _ HZ.out).mono ?_
          rintro e w2 ⟨rfl, hb2⟩
          have hC2 := Lib.hid (hC1.out.call hb2)
          have d1 := hC2.out.cell 0 1 rfl rfl
          have d2 := hC2.out.cell 0 2 rfl rfl
          clear hb2 hC1 c0 c1 c2
          cases h2 : namedB u0
          · have HG := Lib.hid (HBK.out (by rw [HD.out, h1, h2]; rfl))
            go_wp2
            go_ret
            exact ⟨ret_int HG.out.symm, hC2.out.be⟩
          · cases h3 : inB u1 1 20000
            · have HG := Lib.hid (HBK.out (by rw [HD.out, h1, h2, h3]; rfl))
              go_wp2_with ((with_reducible refine (within_any _ _ _ _).mono ?_); rintro e w1 ⟨rfl, hw⟩; obtain rfl := hw.symm)
              go_ret
              exact ⟨ret_int HG.out.symm, hC2.out.be⟩
            · cases h4 : inB u2 0 1000000
              · have HG := Lib.hid (HBK.out (by rw [HD.out, h1, h2, h3, h4]; rfl))
                go_wp2_with ((with_reducible refine (within_any _ _ _ _).mono ?_); rintro e w1 ⟨rfl, hw⟩; obtain rfl := hw.symm)
                go_ret
                exact ⟨ret_int HG.out.symm, hC2.out.be⟩
              · have HG := Lib.hid (show badW (l.take k) (u0, u1, u2) = false by rw [HD.out, h1, h2, h3, h4]; rfl)
                go_wp2_with ((with_reducible refine (within_any _ _ _ _).mono ?_); rintro e w1 ⟨rfl, hw⟩; obtain rfl := hw.symm)
                go_roundw
                case rel => exact ⟨k + 1, by omega, by go_num, Lib.hid ⟨fun i h hik => by
                  rcases Nat.lt_or_ge i k with h1 | h1
                  · exact hI.out.1 i h h1
                  · rw [HE.out i h (by omega)]; exact HG.out, hC2.out.be⟩⟩
                case measure => simp [intOf]; omega
        · have HG := Lib.hid (HBK.out (by rw [HD.out, h1]; rfl))
          go_wp2
          go_ret
          exact ⟨ret_int HG.out.symm, hC1.out.be⟩
      · have HG := Lib.hid (HOK.out fun i h => hI.out.1 i h (by omega))
        go_wp2
        go_ret
        exact ⟨ret_int HG.out.symm, hI.out.2⟩
end
end Go.Proofs.Yteogibpmpppgmaa

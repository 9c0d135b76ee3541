/- gang.Check: which lists are gangs -/
/- the plan's names and ranges -/
import Derived.Test.YtchignmnnbepnaaGreatJ7
import Derived.Test.YtchignmnnbepnaaGreatJ9
import Derived.Test.YtchignmnnbepnaaGreatShelf
namespace Go.Proofs.YtchignmnnbepnaaGreat
open Go.RowKit

def oddR (x : Nat) : Bool := !(decide (97 ≤ x) && decide (x ≤ 122)) && !(decide (48 ≤ x) && decide (x ≤ 57))
section
variable (w : World)
set_option maxHeartbeats 1000000 in
theorem named1_any (x : Nat) (hx : x ≤ 1114111) : Calls Tryz.prog 87 #[.int .i32 x] w (Gives (.bool (oddR x)) w) := by
  unfold oddR
  by_cases h1 : 97 ≤ x <;> by_cases h2 : x ≤ 122 <;> by_cases h3 : 48 ≤ x <;> by_cases h4 : x ≤ 57
  all_goals first
    | (exfalso; omega)
    | (go_enter Tryz.func87, Tryz.ntmps87
       go_wp2
       go_ret
       exact ⟨ret_bool (by simp [h1, h2, h3, h4] <;> omega), Below.refl _ _⟩)
theorem eg_named1 : EG 87 := enters_of Tryz.func87 (by kernel_rfl) rfl
/-- is a text a name? -/
def namedB (s : ByteArray) : Bool := !s.toList.isEmpty && decide (s.size ≤ 16) && !decide (0 ≤ Lib.idxFunc oddR true s)
set_option maxHeartbeats 1000000 in
theorem named_any (s : ByteArray) (hm : s.size ≤ maxLen) : Calls Tryz.prog 62 #[.string s] w (Gives (.bool (namedB s)) w) := by
  have HX := Lib.hid (Tryz.strings_ContainsFunc_grows 87 #[] eg_named1 oddR s w (fun W x hx _ => named1_any W x hx))
  unfold maxLen at hm
  unfold namedB
  cases he : s.toList.isEmpty
  · by_cases hl : s.size ≤ 16
    · go_enter Tryz.func62, Tryz.ntmps62
      go_wp2_with fail
      refine HX.out.mono ?_
      rintro e w1 ⟨rfl, hb⟩
      have hB := Lib.hid hb
      clear hb
      go_wp2
      go_ret
      exact ⟨ret_bool (by simp [hl]), hB.out⟩
    · go_enter Tryz.func62, Tryz.ntmps62
      go_wp2
      go_ret
      exact ⟨ret_bool (by simp), Below.refl _ _⟩
  · go_enter Tryz.func62, Tryz.ntmps62
    go_wp2
    go_ret
    exact ⟨ret_bool (by simp), Below.refl _ _⟩
set_option maxHeartbeats 1000000 in
theorem check1_any (o x : WL) (b : Nat) (h0 : w.cell? ⟨b, 0, none⟩ = some (.string x.1)) (hb : b < w.heap.size) : Calls Tryz.prog 61 #[.agg #[.string o.1, .int .i64 o.2.1, .int .i64 o.2.2], .pointer (some ⟨b, 0, none⟩)] w (Gives (.bool (o.1.toList == x.1.toList)) w) := by
  obtain ⟨o0, o1, o2⟩ := o
  obtain ⟨x0, x1, x2⟩ := x
  show Calls Tryz.prog 61 #[.agg #[.string o0, .int .i64 o1, .int .i64 o2], .pointer (some ⟨b, 0, none⟩)] w (Gives (.bool (o0.toList == x0.toList)) w)
  have h0 : w.cell? ⟨b, 0, none⟩ = some (.string x0) := h0
  go_enter Tryz.func61, Tryz.ntmps61
  go_wp2
  go_ret
  exact ⟨rfl, below1 _ _⟩
theorem eg_check1 : EG 61 := enters_of Tryz.func61 (by kernel_rfl) rfl
/-- something of a waller is not right: the name stands before, is no name, pace, rate -/
def badW (p : List WL) (x : WL) : Bool := p.any (fun o => o.1.toList == x.1.toList) || !namedB x.1 || !inB x.2.1 1 20000 || !inB x.2.2 0 1000000
def gangB (l : List WL) : Bool := inB l.length 1 12 && (List.range l.length).all fun i => !badW (l.take i) (l.getD i (⟨#[]⟩, 0, 0))
def gangErr (l : List WL) : Int := if gangB l = true then 0 else 2
theorem LW_take (l : List WL) (i : Nat) : (LW l).take (i * 3) = LW (l.take i) := flat_take (f := cW) (k := 3) (fun _ => rfl) l i
set_option maxHeartbeats 4000000 in
set_option maxRecDepth 100000 in
theorem check_any (a : Option Addr) (n c : Nat) (l : List WL) (hs : Sx 3 w a n c (LW l)) (hn : ∀ x ∈ l, x.1.size ≤ maxLen) : Calls Tryz.prog 26 #[.slice a n c] w (Gives (.int .i64 (gangErr l)) w) := by
  have hlen := hs.nW
  have hm : l.length ≤ 9223372036854775807 := by have := hs.cap; unfold maxLen at this; omega
  have HS := Lib.hid hs
  have HN := Lib.hid hn
  obtain rfl : l.length = n := hlen.symm
  clear hs hlen hn
  cases hl : inB l.length 1 12
  · have HG := Lib.hid (show gangErr l = 2 by unfold gangErr gangB; rw [hl]; rfl)
    go_enter Tryz.func26, Tryz.ntmps26
    go_wp2_with ((with_reducible refine (within_any _ _ _ _).mono ?_); rintro e w1 ⟨rfl, hw⟩; obtain rfl := hw.symm)
    go_ret
    exact ⟨ret_int HG.out.symm, Below.refl _ _⟩
  · have hl12 := inB_iff.1 hl
    have HB := Lib.hid (show ∀ i (h : i < l.length), badW (l.take i) l[i] = true → gangErr l = 2 from fun i h hb => by
      unfold gangErr gangB
      rw [hl, Bool.true_and, if_neg]
      rw [Bool.not_eq_true]
      refine List.all_eq_false.2 ⟨i, List.mem_range.2 h, ?_⟩
      rw [List.getD_eq_getElem?_getD, List.getElem?_eq_getElem h]
      show ¬ (!badW (l.take i) l[i]) = true
      rw [hb]; decide)
    have HOK := Lib.hid (show (∀ i (h : i < l.length), badW (l.take i) l[i] = false) → gangErr l = 0 from fun hall => by
      unfold gangErr gangB
      rw [hl, Bool.true_and, if_pos]
      refine List.all_eq_true.2 fun i hi => ?_
      rw [List.mem_range] at hi
      rw [List.getD_eq_getElem?_getD, List.getElem?_eq_getElem hi]
      show (!badW (l.take i) l[i]) = true
      rw [hall i hi]; rfl)
    go_enter Tryz.func26, Tryz.ntmps26
    go_wp2_with ((with_reducible refine (within_any _ _ _ _).mono ?_); rintro e w1 ⟨rfl, hw⟩; obtain rfl := hw.symm)
    go_loopw [12] (fun iv wr => ∃ k : Nat, k ≤ l.length ∧ iv = .int .i64 k ∧ Hid ((∀ i (h : i < l.length), i < k → badW (l.take i) l[i] = false) ∧ Below w.heap.size w wr)) (fun iv _ => l.length - (intOf iv).toNat)
    case atStart => exact ⟨0, Nat.zero_le _, rfl, Lib.hid ⟨fun i _ h => absurd h (Nat.not_lt_zero i), Below.refl _ _⟩⟩
    case round =>
      obtain ⟨k, hk, rfl, hI⟩ := hrel
      by_cases hlt : k < l.length
      · obtain ⟨g0, o0, rfl⟩ := HS.out.addr (by omega)
        obtain ⟨x0, x1, x2⟩ := (HS.out.below hI.out.2).atW hlt
        have hi0 : (0 : Int) ≤ (k : Int) := by omega
        have hi1 : (k : Int) < (l.length : Int) := by omega
        have hcap := HS.out.cap
        have hkc : (k : Int) ≤ (c : Int) := by omega
        have hkc2 : k ≤ c := by omega
        have HE := Lib.hid (show ∀ i (h : i < l.length), i = k → badW (l.take i) l[i] = badW (l.take k) l[k] from fun i h e => by subst e; rfl)
        have HBK := Lib.hid (HB.out k hlt)
        have HZ := Lib.hid (HN.out _ (List.getElem_mem hlt))
        have HX := Lib.hid (fun (b : Nat) W (hW : Below w.heap.size w W) (hc : W.cell? ⟨b, 0, none⟩ = some (.string l[k].1)) (hbl : b < W.heap.size) => containsFunc_Waller (some ⟨g0, o0, none⟩) k c (l.take k) 61 #[.pointer (some ⟨b, 0, none⟩)] (fun o => o.1.toList == l[k].1.toList) W
          (by rw [← LW_take]; exact (HS.out.take hk).below hW) eg_check1
          (fun W' hW' o _ => check1_any W' o l[k] b (by rw [hW'.cell (p := ⟨b, 0, none⟩) hbl]; exact hc) (Nat.lt_of_lt_of_le hbl hW'.size)))
        generalize hxk : l[k] = x at *
        have HXK := Lib.hid hxk
        clear hxk hcap
        obtain ⟨u0, u1, u2⟩ := x
        have HD := Lib.hid (show badW (l.take k) (u0, u1, u2) = ((l.take k).any (fun o => o.1.toList == u0.toList) || !namedB u0 || !inB u1 1 20000 || !inB u2 0 1000000) from rfl)
        have hC := Lib.hid (((Sy.enter w).call hI.out.2).al wr.heap.size #[.string u0, .int .i64 u1, .int .i64 u2] 57 rfl)
        have c0 := hC.out.cell 0 0 rfl rfl
        have hltb := hC.out.lt 0 rfl
        go_wp2_with fail
        refine (HX.out _ _ hC.out.be c0 hltb).mono ?_
        rintro e w1 ⟨rfl, hb1⟩
        have hC1 := Lib.hid (hC.out.call hb1)
        have c0 := hC1.out.cell 0 0 rfl rfl
        have c1 := hC1.out.cell 0 1 rfl rfl
        have c2 := hC1.out.cell 0 2 rfl rfl
        clear hb1 HX hC hltb
        cases h1 : (l.take k).any (fun o => o.1.toList == u0.toList)
        · go_wp2_with fail
          refine (named_any _ _ HZ.out).mono ?_
          rintro e w2 ⟨rfl, hb2⟩
          have hC2 := Lib.hid (hC1.out.call hb2)
          have d1 := hC2.out.cell 0 1 rfl rfl
          have d2 := hC2.out.cell 0 2 rfl rfl
          clear hb2 hC1 c0 c1 c2
          cases h2 : namedB u0
          · have HG := Lib.hid (HBK.out (by rw [HD.out, h1, h2]; rfl))
            go_wp2
            go_ret
            exact ⟨ret_int HG.out.symm, hC2.out.be⟩
          · cases h3 : inB u1 1 20000
            · have HG := Lib.hid (HBK.out (by rw [HD.out, h1, h2, h3]; rfl))
              go_wp2_with ((with_reducible refine (within_any _ _ _ _).mono ?_); rintro e w1 ⟨rfl, hw⟩; obtain rfl := hw.symm)
              go_ret
              exact ⟨ret_int HG.out.symm, hC2.out.be⟩
            · cases h4 : inB u2 0 1000000
              · have HG := Lib.hid (HBK.out (by rw [HD.out, h1, h2, h3, h4]; rfl))
                go_wp2_with ((with_reducible refine (within_any _ _ _ _).mono ?_); rintro e w1 ⟨rfl, hw⟩; obtain rfl := hw.symm)
                go_ret
                exact ⟨ret_int HG.out.symm, hC2.out.be⟩
              · have HG := Lib.hid (show badW (l.take k) (u0, u1, u2) = false by rw [HD.out, h1, h2, h3, h4]; rfl)
                go_wp2_with ((with_reducible refine (within_any _ _ _ _).mono ?_); rintro e w1 ⟨rfl, hw⟩; obtain rfl := hw.symm)
                go_roundw
                case rel => exact ⟨k + 1, by omega, by go_num, Lib.hid ⟨fun i h hik => by
                  rcases Nat.lt_or_ge i k with h1 | h1
                  · exact hI.out.1 i h h1
                  · rw [HE.out i h (by omega)]; exact HG.out, hC2.out.be⟩⟩
                case measure => simp [intOf]; omega
        · have HG := Lib.hid (HBK.out (by rw [HD.out, h1]; rfl))
          go_wp2
          go_ret
          exact ⟨ret_int HG.out.symm, hC1.out.be⟩
      · have HG := Lib.hid (HOK.out fun i h => hI.out.1 i h (by omega))
        go_wp2
        go_ret
        exact ⟨ret_int HG.out.symm, hI.out.2⟩
end
end Go.Proofs.YtchignmnnbepnaaGreat
namespace Go.Proofs.YtchignmnnbepnaaGreat
open Go.RowKit
section
variable (w : World)
set_option maxHeartbeats 1000000 in
theorem planNamed1_any (x : Nat) (hx : x ≤ 1114111) : Calls Tryz.prog 128 #[.int .i32 x] w (Gives (.bool (oddR x)) w) := by
  unfold oddR
  by_cases h1 : 97 ≤ x <;> by_cases h2 : x ≤ 122 <;> by_cases h3 : 48 ≤ x <;> by_cases h4 : x ≤ 57
  all_goals first
    | (exfalso; omega)
    | (go_enter Tryz.func128, Tryz.ntmps128
       go_wp2
       go_ret
       exact ⟨ret_bool (by simp [h1, h2, h3, h4] <;> omega), Below.refl _ _⟩)
theorem eg_planNamed1 : EG 128 := enters_of Tryz.func128 (by kernel_rfl) rfl
set_option maxHeartbeats 1000000 in
theorem planNamed_any (s : ByteArray) (hm : s.size ≤ maxLen) : Calls Tryz.prog 93 #[.string s] w (Gives (.bool (namedB s)) w) := by
  have HX := Lib.hid (Tryz.strings_ContainsFunc_grows 128 #[] eg_planNamed1 oddR s w (fun W x hx _ => planNamed1_any W x hx))
  unfold maxLen at hm
  unfold namedB
  cases he : s.toList.isEmpty
  · by_cases hl : s.size ≤ 16
    · go_enter Tryz.func93, Tryz.ntmps93
      go_wp2_with fail
      refine HX.out.mono ?_
      rintro e w1 ⟨rfl, hb⟩
      have hB := Lib.hid hb
      clear hb
      go_wp2
      go_ret
      exact ⟨ret_bool (by simp [hl]), hB.out⟩
    · go_enter Tryz.func93, Tryz.ntmps93
      go_wp2
      go_ret
      exact ⟨ret_bool (by simp), Below.refl _ _⟩
  · go_enter Tryz.func93, Tryz.ntmps93
    go_wp2
    go_ret
    exact ⟨ret_bool (by simp), Below.refl _ _⟩
end
set_option maxHeartbeats 1000000 in
theorem indexFunc_limit (a : Option Addr) (n c : Nat) (l : List I3) (g : Nat) (cb : Array Value) (p : I3 → Bool) (w : World) (hs : Sx 3 w a n c (L3 l)) (eg : EG g) (hf : Asks g cb w (fun x : I3 => .agg #[.int .i64 x.1, .int .i64 x.2.1, .int .i64 x.2.2]) l Value.bool p) :
    Calls Tryz.prog 140 #[.slice a n c, .func (.func g) #[] cb] w (fun e w' => ∃ r : Int, e = .returned (.int .i64 r) ∧ ((0 ≤ r) ↔ l.any p = true) ∧ Below w.heap.size w w') := by
  have hn := hs.n3
  have hm : l.length ≤ 9223372036854775807 := by have := hs.cap; unfold maxLen at this; omega
  have HS := Lib.hid hs
  have HF := Lib.hid hf
  obtain rfl : l.length = n := hn.symm
  clear hs hf hn
  go_enter Tryz.func140, Tryz.ntmps140
  go_wp2
  go_loopw [5, 8] (fun _ iv wr => ∃ k : Nat, k ≤ l.length ∧ iv = .int .i64 k ∧ Hid ((∀ i (h : i < l.length), i < k → p l[i] = false) ∧ Below w.heap.size w wr)) (fun _ iv _ => l.length - (intOf iv).toNat)
  case atStart => exact ⟨0, Nat.zero_le _, rfl, Lib.hid ⟨fun i _ h => absurd h (Nat.not_lt_zero i), Below.refl _ _⟩⟩
  case round =>
    obtain ⟨k, hk, rfl, hI⟩ := hrel
    by_cases hlt : k < l.length
    · have hx := HF.out wr hI.out.2 l[k] (List.getElem_mem hlt)
      obtain ⟨g0, o0, rfl⟩ := HS.out.addr (by omega)
      obtain ⟨x0, x1, x2⟩ := (HS.out.below hI.out.2).at3 hlt
      have HPK := Lib.hid (show ∀ i (h : i < l.length), i = k → p l[i] = p l[k] from fun i h e => by subst e; rfl)
      have HM := Lib.hid (show l[k] ∈ l from List.getElem_mem hlt)
      generalize l[k] = x at *
      obtain ⟨u0, u1, u2⟩ := x
      cases hp : p (u0, u1, u2)
      · rw [hp] at hx
        have HP := Lib.hid hp
        have HX := Lib.hid hx
        clear hp hx HF HS
        go_wp2_with fail
        refine HX.out.mono ?_
        rintro e w1 ⟨rfl, hb⟩
        have hB := Lib.hid (hI.out.2.trans (hb.mono hI.out.2.size))
        clear hb
        go_wp2
        go_roundw
        case rel => exact ⟨k + 1, by omega, by go_num, Lib.hid ⟨fun i h hik => by
          rcases Nat.lt_or_ge i k with h1 | h1
          · exact hI.out.1 i h h1
          · exact (HPK.out i h (by omega)).trans HP.out, hB.out⟩⟩
        case measure => simp [intOf]; omega
      · rw [hp] at hx
        have HP := Lib.hid hp
        have HX := Lib.hid hx
        clear hp hx HF HS
        go_wp2_with fail
        refine HX.out.mono ?_
        rintro e w1 ⟨rfl, hb⟩
        have hB := Lib.hid (hI.out.2.trans (hb.mono hI.out.2.size))
        clear hb
        go_wp2
        go_ret
        exact ⟨(k : Int), rfl, ⟨fun _ => List.any_eq_true.2 ⟨_, HM.out, HP.out⟩, fun _ => by omega⟩, hB.out⟩
    · go_wp2
      go_ret
      refine ⟨-1, rfl, ⟨fun h => absurd h (by decide), fun h => ?_⟩, hI.out.2⟩
      obtain ⟨x, hx, h2⟩ := List.any_eq_true.1 h
      obtain ⟨i, hi, rfl⟩ := List.getElem_of_mem hx
      rw [hI.out.1 i hi (by omega)] at h2
      cases h2
set_option maxHeartbeats 1000000 in
theorem containsFunc_limit (a : Option Addr) (n c : Nat) (l : List I3) (g : Nat) (cb : Array Value) (p : I3 → Bool) (w : World) (hs : Sx 3 w a n c (L3 l)) (eg : EG g) (hf : Asks g cb w (fun x : I3 => .agg #[.int .i64 x.1, .int .i64 x.2.1, .int .i64 x.2.2]) l Value.bool p) :
    Calls Tryz.prog 126 #[.slice a n c, .func (.func g) #[] cb] w (Gives (.bool (l.any p)) w) := by
  have HS := Lib.hid hs
  have HF := Lib.hid hf
  clear hs hf
  have EGH := Lib.hid eg
  clear eg
  cases hp : l.any p
  all_goals
    have HP := Lib.hid hp
    clear hp
    go_enter Tryz.func126, Tryz.ntmps126
    go_wp2_with fail
    refine (indexFunc_limit a n c l g cb p _ HS.out EGH.out HF.out).mono ?_
    rintro e w1 ⟨r, rfl, hr, hb⟩
    rw [HP.out] at hr
    have hB := Lib.hid hb
    clear hb HS HF
  · have hr2 : r < 0 := by
      rcases Int.lt_or_le r 0 with h | h
      · exact h
      · exact absurd (hr.1 h) (by decide)
    clear hr
    go_wp2
    go_ret
    exact ⟨ret_bool (by simp; omega), hB.out⟩
  · have hr2 : 0 ≤ r := hr.2 rfl
    clear hr
    go_wp2
    go_ret
    exact ⟨ret_bool (by simp), hB.out⟩
/-- a number within its range: (the number, least, greatest) -/
def limB (x : I3) : Bool := inB x.1 x.2.1 x.2.2
section
variable (w : World)
set_option maxHeartbeats 1000000 in
theorem kept1_any (x : I3) : Calls Tryz.prog 127 #[.agg #[.int .i64 x.1, .int .i64 x.2.1, .int .i64 x.2.2]] w (Gives (.bool (!limB x)) w) := by
  obtain ⟨x0, x1, x2⟩ := x
  unfold limB inB
  dsimp only
  have hC := Lib.hid ((Sy.enter w).al w.heap.size #[.int .i64 x0, .int .i64 x1, .int .i64 x2] 167 rfl)
  by_cases h1 : x0 < x1
  · go_enter Tryz.func127, Tryz.ntmps127
    go_wp2
    go_ret
    exact ⟨ret_bool (by first | rfl | (rw [decide_eq_false (show ¬ x1 ≤ x0 by omega)]; rfl)), hC.out.be⟩
  · by_cases h2 : x2 < x0
    · go_enter Tryz.func127, Tryz.ntmps127
      go_wp2
      go_ret
      exact ⟨ret_bool (by first | rfl | (rw [decide_eq_false (show ¬ x0 ≤ x2 by omega)]; simp)), hC.out.be⟩
    · go_enter Tryz.func127, Tryz.ntmps127
      go_wp2
      go_ret
      exact ⟨ret_bool (by first | rfl | (rw [decide_eq_true (show x1 ≤ x0 by omega), decide_eq_true (show x0 ≤ x2 by omega)]; simp; omega)), hC.out.be⟩
theorem eg_kept1 : EG 127 := enters_of Tryz.func127 (by kernel_rfl) rfl
set_option maxHeartbeats 1000000 in
theorem kept_any (a : Option Addr) (n c : Nat) (l : List I3) (hs : Sx 3 w a n c (L3 l)) : Calls Tryz.prog 91 #[.slice a n c] w (Gives (.bool (l.all limB)) w) := by
  have HX := Lib.hid (containsFunc_limit a n c l 127 #[] (fun x => !limB x) w hs eg_kept1 (fun W _ x _ => kept1_any W x))
  have HE := Lib.hid (show (!(l.any fun x => !limB x)) = l.all limB from by
    rw [Bool.eq_iff_iff]
    simp)
  clear hs
  generalize (l.any fun x => !limB x) = b at *
  go_enter Tryz.func91, Tryz.ntmps91
  go_wp2_with fail
  refine HX.out.mono ?_
  rintro e w1 ⟨rfl, hb⟩
  have hB := Lib.hid hb
  clear hb
  go_wp2
  go_ret
  exact ⟨ret_bool HE.out, hB.out⟩
end
end Go.Proofs.YtchignmnnbepnaaGreat

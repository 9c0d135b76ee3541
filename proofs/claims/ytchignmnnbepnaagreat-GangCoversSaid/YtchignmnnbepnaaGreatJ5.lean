/- slices.IndexFunc, slices.ContainsFunc and gang.total, at each element type, at whatever closure -/
import Derived.Test.YtchignmnnbepnaaGreatJ2
import Derived.Test.YtchignmnnbepnaaGreatJ4
namespace Go.Proofs.YtchignmnnbepnaaGreat
open Go.RowKit
/-- a closure that is asked of the elements of a list, in whatever later world -/
def Asks (g : Nat) (cb : Array Value) (w : World) {α β : Type} (agg : α → Value) (l : List α) (ans : β → Value) (p : α → β) : Prop :=
  ∀ W, Below w.heap.size w W → ∀ x ∈ l, Calls Tryz.prog g (#[agg x] ++ cb) W (Gives (ans (p x)) W)
abbrev EG (g : Nat) : Prop := ∀ args w, (callFunc g args).run Tryz.prog w = .ok (.enter g args) w
def sumBy {α : Type} (f : α → Int) (l : List α) : Int := lsum (l.map f)
theorem sumBy_take {α : Type} (f : α → Int) (l : List α) (k : Nat) (h : k < l.length) : sumBy f (l.take (k + 1)) = sumBy f (l.take k) + f l[k] := by
  unfold sumBy
  rw [List.take_succ_eq_append_getElem h, List.map_append, List.map_singleton, lsum_snoc]
set_option maxHeartbeats 1000000 in
theorem indexFunc_Load (a : Option Addr) (n c : Nat) (l : List I3) (g : Nat) (cb : Array Value) (p : I3 → Bool) (w : World) (hs : Sx 3 w a n c (L3 l)) (eg : EG g) (hf : Asks g cb w (fun x : I3 => .agg #[.int .i64 x.1, .int .i64 x.2.1, .int .i64 x.2.2]) l Value.bool p) :
    Calls Tryz.prog 82 #[.slice a n c, .func (.func g) #[] cb] w (fun e w' => ∃ r : Int, e = .returned (.int .i64 r) ∧ ((0 ≤ r) ↔ l.any p = true) ∧ Below w.heap.size w w') := by
  have hn := hs.n3
  have hm : l.length ≤ 9223372036854775807 := by have := hs.cap; unfold maxLen at this; omega
  have HS := Lib.hid hs
  have HF := Lib.hid hf
  obtain rfl : l.length = n := hn.symm
  clear hs hf hn
  go_enter Tryz.func82, Tryz.ntmps82
  go_wp2
  go_loopw [5, 8] (fun _ iv wr => ∃ k : Nat, k ≤ l.length ∧ iv = .int .i64 k ∧ Hid ((∀ i (h : i < l.length), i < k → p l[i] = false) ∧ Below w.heap.size w wr)) (fun _ iv _ => l.length - (intOf iv).toNat)
  case atStart => exact ⟨0, Nat.zero_le _, rfl, Lib.hid ⟨fun i _ h => absurd h (Nat.not_lt_zero i), Below.refl _ _⟩⟩
  case round =>
    obtain ⟨k, hk, rfl, hI⟩ := hrel
    by_cases hlt : k < l.length
    · have hx := HF.out wr hI.out.2 l[k] (List.getElem_mem hlt)
      obtain ⟨g0, o0, rfl⟩ := HS.out.addr (by omega)
      obtain ⟨x0, x1, x2⟩ := (HS.out.below hI.out.2).at3 hlt
      have HPK := Lib.hid (show ∀ i (h : i < l.length), i = k → p l[i] = p l[k] from fun i h e => by subst e; rfl)
      have HM := Lib.hid (show l[k] ∈ l from List.getElem_mem hlt)
      generalize l[k] = x at *
      obtain ⟨u0, u1, u2⟩ := x
      cases hp : p (u0, u1, u2)
      · rw [hp] at hx
        have HP := Lib.hid hp
        have HX := Lib.hid hx
        clear hp hx HF HS
        go_wp2_with fail
        refine HX.out.mono ?_
        rintro e w1 ⟨rfl, hb⟩
        have hB := Lib.hid (hI.out.2.trans (hb.mono hI.out.2.size))
        clear hb
        go_wp2
        go_roundw
        case rel => exact ⟨k + 1, by omega, by go_num, Lib.hid ⟨fun i h hik => by
          rcases Nat.lt_or_ge i k with h1 | h1
          · exact hI.out.1 i h h1
          · exact (HPK.out i h (by omega)).trans HP.out, hB.out⟩⟩
        case measure => simp [intOf]; omega
      · rw [hp] at hx
        have HP := Lib.hid hp
        have HX := Lib.hid hx
        clear hp hx HF HS
        go_wp2_with fail
        refine HX.out.mono ?_
        rintro e w1 ⟨rfl, hb⟩
        have hB := Lib.hid (hI.out.2.trans (hb.mono hI.out.2.size))
        clear hb
        go_wp2
        go_ret
        exact ⟨(k : Int), rfl, ⟨fun _ => List.any_eq_true.2 ⟨_, HM.out, HP.out⟩, fun _ => by omega⟩, hB.out⟩
    · go_wp2
      go_ret
      refine ⟨-1, rfl, ⟨fun h => absurd h (by decide), fun h => ?_⟩, hI.out.2⟩
      obtain ⟨x, hx, h2⟩ := List.any_eq_true.1 h
      obtain ⟨i, hi, rfl⟩ := List.getElem_of_mem hx
      rw [hI.out.1 i hi (by omega)] at h2
      cases h2
set_option maxHeartbeats 1000000 in
theorem containsFunc_Load (a : Option Addr) (n c : Nat) (l : List I3) (g : Nat) (cb : Array Value) (p : I3 → Bool) (w : World) (hs : Sx 3 w a n c (L3 l)) (eg : EG g) (hf : Asks g cb w (fun x : I3 => .agg #[.int .i64 x.1, .int .i64 x.2.1, .int .i64 x.2.2]) l Value.bool p) :
    Calls Tryz.prog 51 #[.slice a n c, .func (.func g) #[] cb] w (Gives (.bool (l.any p)) w) := by
  have HS := Lib.hid hs
  have HF := Lib.hid hf
  clear hs hf
  have EGH := Lib.hid eg
  clear eg
  cases hp : l.any p
  all_goals
    have HP := Lib.hid hp
    clear hp
    go_enter Tryz.func51, Tryz.ntmps51
    go_wp2_with fail
    refine (indexFunc_Load a n c l g cb p _ HS.out EGH.out HF.out).mono ?_
    rintro e w1 ⟨r, rfl, hr, hb⟩
    rw [HP.out] at hr
    have hB := Lib.hid hb
    clear hb HS HF
  · have hr2 : r < 0 := by
      rcases Int.lt_or_le r 0 with h | h
      · exact h
      · exact absurd (hr.1 h) (by decide)
    clear hr
    go_wp2
    go_ret
    exact ⟨ret_bool (by simp; omega), hB.out⟩
  · have hr2 : 0 ≤ r := hr.2 rfl
    clear hr
    go_wp2
    go_ret
    exact ⟨ret_bool (by simp), hB.out⟩
set_option maxHeartbeats 1000000 in
theorem indexFunc_Use (a : Option Addr) (n c : Nat) (l : List I2) (g : Nat) (cb : Array Value) (p : I2 → Bool) (w : World) (hs : Sx 2 w a n c (L2 l)) (eg : EG g) (hf : Asks g cb w (fun x : I2 => .agg #[.int .i64 x.1, .int .i64 x.2]) l Value.bool p) :
    Calls Tryz.prog 123 #[.slice a n c, .func (.func g) #[] cb] w (fun e w' => ∃ r : Int, e = .returned (.int .i64 r) ∧ ((0 ≤ r) ↔ l.any p = true) ∧ Below w.heap.size w w') := by
  have hn := hs.n2
  have hm : l.length ≤ 9223372036854775807 := by have := hs.cap; unfold maxLen at this; omega
  have HS := Lib.hid hs
  have HF := Lib.hid hf
  obtain rfl : l.length = n := hn.symm
  clear hs hf hn
  go_enter Tryz.func123, Tryz.ntmps123
  go_wp2
  go_loopw [5, 8] (fun _ iv wr => ∃ k : Nat, k ≤ l.length ∧ iv = .int .i64 k ∧ Hid ((∀ i (h : i < l.length), i < k → p l[i] = false) ∧ Below w.heap.size w wr)) (fun _ iv _ => l.length - (intOf iv).toNat)
  case atStart => exact ⟨0, Nat.zero_le _, rfl, Lib.hid ⟨fun i _ h => absurd h (Nat.not_lt_zero i), Below.refl _ _⟩⟩
  case round =>
    obtain ⟨k, hk, rfl, hI⟩ := hrel
    by_cases hlt : k < l.length
    · have hx := HF.out wr hI.out.2 l[k] (List.getElem_mem hlt)
      obtain ⟨g0, o0, rfl⟩ := HS.out.addr (by omega)
      obtain ⟨x0, x1⟩ := (HS.out.below hI.out.2).at2 hlt
      have HPK := Lib.hid (show ∀ i (h : i < l.length), i = k → p l[i] = p l[k] from fun i h e => by subst e; rfl)
      have HM := Lib.hid (show l[k] ∈ l from List.getElem_mem hlt)
      generalize l[k] = x at *
      obtain ⟨u0, u1⟩ := x
      cases hp : p (u0, u1)
      · rw [hp] at hx
        have HP := Lib.hid hp
        have HX := Lib.hid hx
        clear hp hx HF HS
        go_wp2_with fail
        refine HX.out.mono ?_
        rintro e w1 ⟨rfl, hb⟩
        have hB := Lib.hid (hI.out.2.trans (hb.mono hI.out.2.size))
        clear hb
        go_wp2
        go_roundw
        case rel => exact ⟨k + 1, by omega, by go_num, Lib.hid ⟨fun i h hik => by
          rcases Nat.lt_or_ge i k with h1 | h1
          · exact hI.out.1 i h h1
          · exact (HPK.out i h (by omega)).trans HP.out, hB.out⟩⟩
        case measure => simp [intOf]; omega
      · rw [hp] at hx
        have HP := Lib.hid hp
        have HX := Lib.hid hx
        clear hp hx HF HS
        go_wp2_with fail
        refine HX.out.mono ?_
        rintro e w1 ⟨rfl, hb⟩
        have hB := Lib.hid (hI.out.2.trans (hb.mono hI.out.2.size))
        clear hb
        go_wp2
        go_ret
        exact ⟨(k : Int), rfl, ⟨fun _ => List.any_eq_true.2 ⟨_, HM.out, HP.out⟩, fun _ => by omega⟩, hB.out⟩
    · go_wp2
      go_ret
      refine ⟨-1, rfl, ⟨fun h => absurd h (by decide), fun h => ?_⟩, hI.out.2⟩
      obtain ⟨x, hx, h2⟩ := List.any_eq_true.1 h
      obtain ⟨i, hi, rfl⟩ := List.getElem_of_mem hx
      rw [hI.out.1 i hi (by omega)] at h2
      cases h2
set_option maxHeartbeats 1000000 in
theorem containsFunc_Use (a : Option Addr) (n c : Nat) (l : List I2) (g : Nat) (cb : Array Value) (p : I2 → Bool) (w : World) (hs : Sx 2 w a n c (L2 l)) (eg : EG g) (hf : Asks g cb w (fun x : I2 => .agg #[.int .i64 x.1, .int .i64 x.2]) l Value.bool p) :
    Calls Tryz.prog 83 #[.slice a n c, .func (.func g) #[] cb] w (Gives (.bool (l.any p)) w) := by
  have HS := Lib.hid hs
  have HF := Lib.hid hf
  clear hs hf
  have EGH := Lib.hid eg
  clear eg
  cases hp : l.any p
  all_goals
    have HP := Lib.hid hp
    clear hp
    go_enter Tryz.func83, Tryz.ntmps83
    go_wp2_with fail
    refine (indexFunc_Use a n c l g cb p _ HS.out EGH.out HF.out).mono ?_
    rintro e w1 ⟨r, rfl, hr, hb⟩
    rw [HP.out] at hr
    have hB := Lib.hid hb
    clear hb HS HF
  · have hr2 : r < 0 := by
      rcases Int.lt_or_le r 0 with h | h
      · exact h
      · exact absurd (hr.1 h) (by decide)
    clear hr
    go_wp2
    go_ret
    exact ⟨ret_bool (by simp; omega), hB.out⟩
  · have hr2 : 0 ≤ r := hr.2 rfl
    clear hr
    go_wp2
    go_ret
    exact ⟨ret_bool (by simp), hB.out⟩
set_option maxHeartbeats 1000000 in
theorem indexFunc_Pile (a : Option Addr) (n c : Nat) (l : List I3) (g : Nat) (cb : Array Value) (p : I3 → Bool) (w : World) (hs : Sx 3 w a n c (L3 l)) (eg : EG g) (hf : Asks g cb w (fun x : I3 => .agg #[.int .i64 x.1, .int .i64 x.2.1, .int .i64 x.2.2]) l Value.bool p) :
    Calls Tryz.prog 135 #[.slice a n c, .func (.func g) #[] cb] w (fun e w' => ∃ r : Int, e = .returned (.int .i64 r) ∧ ((0 ≤ r) ↔ l.any p = true) ∧ Below w.heap.size w w') := by
  have hn := hs.n3
  have hm : l.length ≤ 9223372036854775807 := by have := hs.cap; unfold maxLen at this; omega
  have HS := Lib.hid hs
  have HF := Lib.hid hf
  obtain rfl : l.length = n := hn.symm
  clear hs hf hn
  go_enter Tryz.func135, Tryz.ntmps135
  go_wp2
  go_loopw [5, 8] (fun _ iv wr => ∃ k : Nat, k ≤ l.length ∧ iv = .int .i64 k ∧ Hid ((∀ i (h : i < l.length), i < k → p l[i] = false) ∧ Below w.heap.size w wr)) (fun _ iv _ => l.length - (intOf iv).toNat)
  case atStart => exact ⟨0, Nat.zero_le _, rfl, Lib.hid ⟨fun i _ h => absurd h (Nat.not_lt_zero i), Below.refl _ _⟩⟩
  case round =>
    obtain ⟨k, hk, rfl, hI⟩ := hrel
    by_cases hlt : k < l.length
    · have hx := HF.out wr hI.out.2 l[k] (List.getElem_mem hlt)
      obtain ⟨g0, o0, rfl⟩ := HS.out.addr (by omega)
      obtain ⟨x0, x1, x2⟩ := (HS.out.below hI.out.2).at3 hlt
      have HPK := Lib.hid (show ∀ i (h : i < l.length), i = k → p l[i] = p l[k] from fun i h e => by subst e; rfl)
      have HM := Lib.hid (show l[k] ∈ l from List.getElem_mem hlt)
      generalize l[k] = x at *
      obtain ⟨u0, u1, u2⟩ := x
      cases hp : p (u0, u1, u2)
      · rw [hp] at hx
        have HP := Lib.hid hp
        have HX := Lib.hid hx
        clear hp hx HF HS
        go_wp2_with fail
        refine HX.out.mono ?_
        rintro e w1 ⟨rfl, hb⟩
        have hB := Lib.hid (hI.out.2.trans (hb.mono hI.out.2.size))
        clear hb
        go_wp2
        go_roundw
        case rel => exact ⟨k + 1, by omega, by go_num, Lib.hid ⟨fun i h hik => by
          rcases Nat.lt_or_ge i k with h1 | h1
          · exact hI.out.1 i h h1
          · exact (HPK.out i h (by omega)).trans HP.out, hB.out⟩⟩
        case measure => simp [intOf]; omega
      · rw [hp] at hx
        have HP := Lib.hid hp
        have HX := Lib.hid hx
        clear hp hx HF HS
        go_wp2_with fail
        refine HX.out.mono ?_
        rintro e w1 ⟨rfl, hb⟩
        have hB := Lib.hid (hI.out.2.trans (hb.mono hI.out.2.size))
        clear hb
        go_wp2
        go_ret
        exact ⟨(k : Int), rfl, ⟨fun _ => List.any_eq_true.2 ⟨_, HM.out, HP.out⟩, fun _ => by omega⟩, hB.out⟩
    · go_wp2
      go_ret
      refine ⟨-1, rfl, ⟨fun h => absurd h (by decide), fun h => ?_⟩, hI.out.2⟩
      obtain ⟨x, hx, h2⟩ := List.any_eq_true.1 h
      obtain ⟨i, hi, rfl⟩ := List.getElem_of_mem hx
      rw [hI.out.1 i hi (by omega)] at h2
      cases h2
set_option maxHeartbeats 1000000 in
theorem containsFunc_Pile (a : Option Addr) (n c : Nat) (l : List I3) (g : Nat) (cb : Array Value) (p : I3 → Bool) (w : World) (hs : Sx 3 w a n c (L3 l)) (eg : EG g) (hf : Asks g cb w (fun x : I3 => .agg #[.int .i64 x.1, .int .i64 x.2.1, .int .i64 x.2.2]) l Value.bool p) :
    Calls Tryz.prog 113 #[.slice a n c, .func (.func g) #[] cb] w (Gives (.bool (l.any p)) w) := by
  have HS := Lib.hid hs
  have HF := Lib.hid hf
  clear hs hf
  have EGH := Lib.hid eg
  clear eg
  cases hp : l.any p
  all_goals
    have HP := Lib.hid hp
    clear hp
    go_enter Tryz.func113, Tryz.ntmps113
    go_wp2_with fail
    refine (indexFunc_Pile a n c l g cb p _ HS.out EGH.out HF.out).mono ?_
    rintro e w1 ⟨r, rfl, hr, hb⟩
    rw [HP.out] at hr
    have hB := Lib.hid hb
    clear hb HS HF
  · have hr2 : r < 0 := by
      rcases Int.lt_or_le r 0 with h | h
      · exact h
      · exact absurd (hr.1 h) (by decide)
    clear hr
    go_wp2
    go_ret
    exact ⟨ret_bool (by simp; omega), hB.out⟩
  · have hr2 : 0 ≤ r := hr.2 rfl
    clear hr
    go_wp2
    go_ret
    exact ⟨ret_bool (by simp), hB.out⟩
set_option maxHeartbeats 1000000 in
theorem indexFunc_Need (a : Option Addr) (n c : Nat) (l : List I2) (g : Nat) (cb : Array Value) (p : I2 → Bool) (w : World) (hs : Sx 2 w a n c (L2 l)) (eg : EG g) (hf : Asks g cb w (fun x : I2 => .agg #[.int .i64 x.1, .int .i64 x.2]) l Value.bool p) :
    Calls Tryz.prog 136 #[.slice a n c, .func (.func g) #[] cb] w (fun e w' => ∃ r : Int, e = .returned (.int .i64 r) ∧ ((0 ≤ r) ↔ l.any p = true) ∧ Below w.heap.size w w') := by
  have hn := hs.n2
  have hm : l.length ≤ 9223372036854775807 := by have := hs.cap; unfold maxLen at this; omega
  have HS := Lib.hid hs
  have HF := Lib.hid hf
  obtain rfl : l.length = n := hn.symm
  clear hs hf hn
  go_enter Tryz.func136, Tryz.ntmps136
  go_wp2
  go_loopw [5, 8] (fun _ iv wr => ∃ k : Nat, k ≤ l.length ∧ iv = .int .i64 k ∧ Hid ((∀ i (h : i < l.length), i < k → p l[i] = false) ∧ Below w.heap.size w wr)) (fun _ iv _ => l.length - (intOf iv).toNat)
  case atStart => exact ⟨0, Nat.zero_le _, rfl, Lib.hid ⟨fun i _ h => absurd h (Nat.not_lt_zero i), Below.refl _ _⟩⟩
  case round =>
    obtain ⟨k, hk, rfl, hI⟩ := hrel
    by_cases hlt : k < l.length
    · have hx := HF.out wr hI.out.2 l[k] (List.getElem_mem hlt)
      obtain ⟨g0, o0, rfl⟩ := HS.out.addr (by omega)
      obtain ⟨x0, x1⟩ := (HS.out.below hI.out.2).at2 hlt
      have HPK := Lib.hid (show ∀ i (h : i < l.length), i = k → p l[i] = p l[k] from fun i h e => by subst e; rfl)
      have HM := Lib.hid (show l[k] ∈ l from List.getElem_mem hlt)
      generalize l[k] = x at *
      obtain ⟨u0, u1⟩ := x
      cases hp : p (u0, u1)
      · rw [hp] at hx
        have HP := Lib.hid hp
        have HX := Lib.hid hx
        clear hp hx HF HS
        go_wp2_with fail
        refine HX.out.mono ?_
        rintro e w1 ⟨rfl, hb⟩
        have hB := Lib.hid (hI.out.2.trans (hb.mono hI.out.2.size))
        clear hb
        go_wp2
        go_roundw
        case rel => exact ⟨k + 1, by omega, by go_num, Lib.hid ⟨fun i h hik => by
          rcases Nat.lt_or_ge i k with h1 | h1
          · exact hI.out.1 i h h1
          · exact (HPK.out i h (by omega)).trans HP.out, hB.out⟩⟩
        case measure => simp [intOf]; omega
      · rw [hp] at hx
        have HP := Lib.hid hp
        have HX := Lib.hid hx
        clear hp hx HF HS
        go_wp2_with fail
        refine HX.out.mono ?_
        rintro e w1 ⟨rfl, hb⟩
        have hB := Lib.hid (hI.out.2.trans (hb.mono hI.out.2.size))
        clear hb
        go_wp2
        go_ret
        exact ⟨(k : Int), rfl, ⟨fun _ => List.any_eq_true.2 ⟨_, HM.out, HP.out⟩, fun _ => by omega⟩, hB.out⟩
    · go_wp2
      go_ret
      refine ⟨-1, rfl, ⟨fun h => absurd h (by decide), fun h => ?_⟩, hI.out.2⟩
      obtain ⟨x, hx, h2⟩ := List.any_eq_true.1 h
      obtain ⟨i, hi, rfl⟩ := List.getElem_of_mem hx
      rw [hI.out.1 i hi (by omega)] at h2
      cases h2
set_option maxHeartbeats 1000000 in
theorem containsFunc_Need (a : Option Addr) (n c : Nat) (l : List I2) (g : Nat) (cb : Array Value) (p : I2 → Bool) (w : World) (hs : Sx 2 w a n c (L2 l)) (eg : EG g) (hf : Asks g cb w (fun x : I2 => .agg #[.int .i64 x.1, .int .i64 x.2]) l Value.bool p) :
    Calls Tryz.prog 115 #[.slice a n c, .func (.func g) #[] cb] w (Gives (.bool (l.any p)) w) := by
  have HS := Lib.hid hs
  have HF := Lib.hid hf
  clear hs hf
  have EGH := Lib.hid eg
  clear eg
  cases hp : l.any p
  all_goals
    have HP := Lib.hid hp
    clear hp
    go_enter Tryz.func115, Tryz.ntmps115
    go_wp2_with fail
    refine (indexFunc_Need a n c l g cb p _ HS.out EGH.out HF.out).mono ?_
    rintro e w1 ⟨r, rfl, hr, hb⟩
    rw [HP.out] at hr
    have hB := Lib.hid hb
    clear hb HS HF
  · have hr2 : r < 0 := by
      rcases Int.lt_or_le r 0 with h | h
      · exact h
      · exact absurd (hr.1 h) (by decide)
    clear hr
    go_wp2
    go_ret
    exact ⟨ret_bool (by simp; omega), hB.out⟩
  · have hr2 : 0 ≤ r := hr.2 rfl
    clear hr
    go_wp2
    go_ret
    exact ⟨ret_bool (by simp), hB.out⟩
set_option maxHeartbeats 1000000 in
theorem indexFunc_Waller (a : Option Addr) (n c : Nat) (l : List WL) (g : Nat) (cb : Array Value) (p : WL → Bool) (w : World) (hs : Sx 3 w a n c (LW l)) (eg : EG g) (hf : Asks g cb w (fun x : WL => .agg #[.string x.1, .int .i64 x.2.1, .int .i64 x.2.2]) l Value.bool p) :
    Calls Tryz.prog 86 #[.slice a n c, .func (.func g) #[] cb] w (fun e w' => ∃ r : Int, e = .returned (.int .i64 r) ∧ ((0 ≤ r) ↔ l.any p = true) ∧ Below w.heap.size w w') := by
  have hn := hs.nW
  have hm : l.length ≤ 9223372036854775807 := by have := hs.cap; unfold maxLen at this; omega
  have HS := Lib.hid hs
  have HF := Lib.hid hf
  obtain rfl : l.length = n := hn.symm
  clear hs hf hn
  go_enter Tryz.func86, Tryz.ntmps86
  go_wp2
  go_loopw [5, 8] (fun _ iv wr => ∃ k : Nat, k ≤ l.length ∧ iv = .int .i64 k ∧ Hid ((∀ i (h : i < l.length), i < k → p l[i] = false) ∧ Below w.heap.size w wr)) (fun _ iv _ => l.length - (intOf iv).toNat)
  case atStart => exact ⟨0, Nat.zero_le _, rfl, Lib.hid ⟨fun i _ h => absurd h (Nat.not_lt_zero i), Below.refl _ _⟩⟩
  case round =>
    obtain ⟨k, hk, rfl, hI⟩ := hrel
    by_cases hlt : k < l.length
    · have hx := HF.out wr hI.out.2 l[k] (List.getElem_mem hlt)
      obtain ⟨g0, o0, rfl⟩ := HS.out.addr (by omega)
      obtain ⟨x0, x1, x2⟩ := (HS.out.below hI.out.2).atW hlt
      have HPK := Lib.hid (show ∀ i (h : i < l.length), i = k → p l[i] = p l[k] from fun i h e => by subst e; rfl)
      have HM := Lib.hid (show l[k] ∈ l from List.getElem_mem hlt)
      generalize l[k] = x at *
      obtain ⟨u0, u1, u2⟩ := x
      cases hp : p (u0, u1, u2)
      · rw [hp] at hx
        have HP := Lib.hid hp
        have HX := Lib.hid hx
        clear hp hx HF HS
        go_wp2_with fail
        refine HX.out.mono ?_
        rintro e w1 ⟨rfl, hb⟩
        have hB := Lib.hid (hI.out.2.trans (hb.mono hI.out.2.size))
        clear hb
        go_wp2
        go_roundw
        case rel => exact ⟨k + 1, by omega, by go_num, Lib.hid ⟨fun i h hik => by
          rcases Nat.lt_or_ge i k with h1 | h1
          · exact hI.out.1 i h h1
          · exact (HPK.out i h (by omega)).trans HP.out, hB.out⟩⟩
        case measure => simp [intOf]; omega
      · rw [hp] at hx
        have HP := Lib.hid hp
        have HX := Lib.hid hx
        clear hp hx HF HS
        go_wp2_with fail
        refine HX.out.mono ?_
        rintro e w1 ⟨rfl, hb⟩
        have hB := Lib.hid (hI.out.2.trans (hb.mono hI.out.2.size))
        clear hb
        go_wp2
        go_ret
        exact ⟨(k : Int), rfl, ⟨fun _ => List.any_eq_true.2 ⟨_, HM.out, HP.out⟩, fun _ => by omega⟩, hB.out⟩
    · go_wp2
      go_ret
      refine ⟨-1, rfl, ⟨fun h => absurd h (by decide), fun h => ?_⟩, hI.out.2⟩
      obtain ⟨x, hx, h2⟩ := List.any_eq_true.1 h
      obtain ⟨i, hi, rfl⟩ := List.getElem_of_mem hx
      rw [hI.out.1 i hi (by omega)] at h2
      cases h2
set_option maxHeartbeats 1000000 in
theorem containsFunc_Waller (a : Option Addr) (n c : Nat) (l : List WL) (g : Nat) (cb : Array Value) (p : WL → Bool) (w : World) (hs : Sx 3 w a n c (LW l)) (eg : EG g) (hf : Asks g cb w (fun x : WL => .agg #[.string x.1, .int .i64 x.2.1, .int .i64 x.2.2]) l Value.bool p) :
    Calls Tryz.prog 60 #[.slice a n c, .func (.func g) #[] cb] w (Gives (.bool (l.any p)) w) := by
  have HS := Lib.hid hs
  have HF := Lib.hid hf
  clear hs hf
  have EGH := Lib.hid eg
  clear eg
  cases hp : l.any p
  all_goals
    have HP := Lib.hid hp
    clear hp
    go_enter Tryz.func60, Tryz.ntmps60
    go_wp2_with fail
    refine (indexFunc_Waller a n c l g cb p _ HS.out EGH.out HF.out).mono ?_
    rintro e w1 ⟨r, rfl, hr, hb⟩
    rw [HP.out] at hr
    have hB := Lib.hid hb
    clear hb HS HF
  · have hr2 : r < 0 := by
      rcases Int.lt_or_le r 0 with h | h
      · exact h
      · exact absurd (hr.1 h) (by decide)
    clear hr
    go_wp2
    go_ret
    exact ⟨ret_bool (by simp; omega), hB.out⟩
  · have hr2 : 0 ≤ r := hr.2 rfl
    clear hr
    go_wp2
    go_ret
    exact ⟨ret_bool (by simp), hB.out⟩
set_option maxHeartbeats 1000000 in
theorem indexFunc_int (a : Option Addr) (n c : Nat) (l : List Int) (g : Nat) (cb : Array Value) (p : Int → Bool) (w : World) (hs : Sx 1 w a n c (L1 l)) (eg : EG g) (hf : Asks g cb w (fun x : Int => .int .i64 x) l Value.bool p) :
    Calls Tryz.prog 67 #[.slice a n c, .func (.func g) #[] cb] w (fun e w' => ∃ r : Int, e = .returned (.int .i64 r) ∧ ((0 ≤ r) ↔ l.any p = true) ∧ Below w.heap.size w w') := by
  have hn := hs.n1
  have hm : l.length ≤ 9223372036854775807 := by have := hs.cap; unfold maxLen at this; omega
  have HS := Lib.hid hs
  have HF := Lib.hid hf
  obtain rfl : l.length = n := hn.symm
  clear hs hf hn
  go_enter Tryz.func67, Tryz.ntmps67
  go_wp2
  go_loopw [5, 8] (fun _ iv wr => ∃ k : Nat, k ≤ l.length ∧ iv = .int .i64 k ∧ Hid ((∀ i (h : i < l.length), i < k → p l[i] = false) ∧ Below w.heap.size w wr)) (fun _ iv _ => l.length - (intOf iv).toNat)
  case atStart => exact ⟨0, Nat.zero_le _, rfl, Lib.hid ⟨fun i _ h => absurd h (Nat.not_lt_zero i), Below.refl _ _⟩⟩
  case round =>
    obtain ⟨k, hk, rfl, hI⟩ := hrel
    by_cases hlt : k < l.length
    · have hx := HF.out wr hI.out.2 l[k] (List.getElem_mem hlt)
      obtain ⟨g0, o0, rfl⟩ := HS.out.addr (by omega)
      obtain x0 := (HS.out.below hI.out.2).at1 hlt
      have HPK := Lib.hid (show ∀ i (h : i < l.length), i = k → p l[i] = p l[k] from fun i h e => by subst e; rfl)
      have HM := Lib.hid (show l[k] ∈ l from List.getElem_mem hlt)
      generalize l[k] = x at *
      cases hp : p x
      · rw [hp] at hx
        have HP := Lib.hid hp
        have HX := Lib.hid hx
        clear hp hx HF HS
        go_wp2_with fail
        refine HX.out.mono ?_
        rintro e w1 ⟨rfl, hb⟩
        have hB := Lib.hid (hI.out.2.trans (hb.mono hI.out.2.size))
        clear hb
        go_wp2
        go_roundw
        case rel => exact ⟨k + 1, by omega, by go_num, Lib.hid ⟨fun i h hik => by
          rcases Nat.lt_or_ge i k with h1 | h1
          · exact hI.out.1 i h h1
          · exact (HPK.out i h (by omega)).trans HP.out, hB.out⟩⟩
        case measure => simp [intOf]; omega
      · rw [hp] at hx
        have HP := Lib.hid hp
        have HX := Lib.hid hx
        clear hp hx HF HS
        go_wp2_with fail
        refine HX.out.mono ?_
        rintro e w1 ⟨rfl, hb⟩
        have hB := Lib.hid (hI.out.2.trans (hb.mono hI.out.2.size))
        clear hb
        go_wp2
        go_ret
        exact ⟨(k : Int), rfl, ⟨fun _ => List.any_eq_true.2 ⟨_, HM.out, HP.out⟩, fun _ => by omega⟩, hB.out⟩
    · go_wp2
      go_ret
      refine ⟨-1, rfl, ⟨fun h => absurd h (by decide), fun h => ?_⟩, hI.out.2⟩
      obtain ⟨x, hx, h2⟩ := List.any_eq_true.1 h
      obtain ⟨i, hi, rfl⟩ := List.getElem_of_mem hx
      rw [hI.out.1 i hi (by omega)] at h2
      cases h2
set_option maxHeartbeats 1000000 in
theorem containsFunc_int (a : Option Addr) (n c : Nat) (l : List Int) (g : Nat) (cb : Array Value) (p : Int → Bool) (w : World) (hs : Sx 1 w a n c (L1 l)) (eg : EG g) (hf : Asks g cb w (fun x : Int => .int .i64 x) l Value.bool p) :
    Calls Tryz.prog 28 #[.slice a n c, .func (.func g) #[] cb] w (Gives (.bool (l.any p)) w) := by
  have HS := Lib.hid hs
  have HF := Lib.hid hf
  clear hs hf
  have EGH := Lib.hid eg
  clear eg
  cases hp : l.any p
  all_goals
    have HP := Lib.hid hp
    clear hp
    go_enter Tryz.func28, Tryz.ntmps28
    go_wp2_with fail
    refine (indexFunc_int a n c l g cb p _ HS.out EGH.out HF.out).mono ?_
    rintro e w1 ⟨r, rfl, hr, hb⟩
    rw [HP.out] at hr
    have hB := Lib.hid hb
    clear hb HS HF
  · have hr2 : r < 0 := by
      rcases Int.lt_or_le r 0 with h | h
      · exact h
      · exact absurd (hr.1 h) (by decide)
    clear hr
    go_wp2
    go_ret
    exact ⟨ret_bool (by simp; omega), hB.out⟩
  · have hr2 : 0 ≤ r := hr.2 rfl
    clear hr
    go_wp2
    go_ret
    exact ⟨ret_bool (by simp), hB.out⟩
set_option maxHeartbeats 1000000 in
theorem total_Load (a : Option Addr) (n c : Nat) (l : List I3) (g : Nat) (cb : Array Value) (f : I3 → Int) (w : World) (hs : Sx 3 w a n c (L3 l)) (eg : EG g) (hf : Asks g cb w (fun x : I3 => .agg #[.int .i64 x.1, .int .i64 x.2.1, .int .i64 x.2.2]) l (Value.int .i64) f) (hb : Hid (∀ k, -9223372036854775808 ≤ sumBy f (l.take k) ∧ sumBy f (l.take k) ≤ 9223372036854775807)) :
    Calls Tryz.prog 53 #[.slice a n c, .func (.func g) #[] cb] w (Gives (.int .i64 (sumBy f l)) w) := by
  have hn := hs.n3
  have hm : l.length ≤ 9223372036854775807 := by have := hs.cap; unfold maxLen at this; omega
  have HS := Lib.hid hs
  have HF := Lib.hid hf
  obtain rfl : l.length = n := hn.symm
  clear hs hf hn
  go_enter Tryz.func53, Tryz.ntmps53
  go_wp2
  go_loopw [5, 10] (fun sv iv wr => ∃ k : Nat, k ≤ l.length ∧ iv = .int .i64 k ∧ sv = .int .i64 (sumBy f (l.take k)) ∧ Hid (Below w.heap.size w wr)) (fun _ iv _ => l.length - (intOf iv).toNat)
  case atStart => exact ⟨0, Nat.zero_le _, rfl, rfl, Lib.hid (Below.refl _ _)⟩
  case round =>
    obtain ⟨k, hk, rfl, rfl, hI⟩ := hrel
    by_cases hlt : k < l.length
    · obtain ⟨g0, o0, rfl⟩ := HS.out.addr (by omega)
      obtain ⟨x0, x1, x2⟩ := (HS.out.below hI.out).at3 hlt
      have HT := Lib.hid (sumBy_take f l k hlt)
      have h1 := hb.out k
      have h2 := hb.out (k + 1)
      rw [HT.out] at h2
      have HX := Lib.hid (fun W (hW : Below w.heap.size w W) => HF.out W hW l[k] (List.getElem_mem hlt))
      generalize l[k] = x at *
      obtain ⟨u0, u1, u2⟩ := x
      clear HF HS
      generalize hy : f (u0, u1, u2) = y at *
      generalize hz : sumBy f (l.take k) = z at *
      have HZ := Lib.hid hz
      clear hz hy
      go_wp2_with fail
      refine (HX.out _ (hI.out.alloc hI.out.size _)).mono ?_
      rintro e w1 ⟨rfl, hb1⟩
      have hB := Lib.hid ((hI.out.alloc hI.out.size _).trans (hb1.mono (hI.out.alloc hI.out.size _).size))
      clear hb1 HX
      go_wp2
      go_roundw
      case rel => exact ⟨k + 1, by omega, by go_num, by rw [HT.out], hB⟩
      case measure => simp [intOf]; omega
    · obtain rfl : k = l.length := by omega
      go_wp2
      go_ret
      exact ⟨ret_int (by rw [List.take_length]), hI.out⟩
set_option maxHeartbeats 1000000 in
theorem total_Pile (a : Option Addr) (n c : Nat) (l : List I3) (g : Nat) (cb : Array Value) (f : I3 → Int) (w : World) (hs : Sx 3 w a n c (L3 l)) (eg : EG g) (hf : Asks g cb w (fun x : I3 => .agg #[.int .i64 x.1, .int .i64 x.2.1, .int .i64 x.2.2]) l (Value.int .i64) f) (hb : Hid (∀ k, -9223372036854775808 ≤ sumBy f (l.take k) ∧ sumBy f (l.take k) ≤ 9223372036854775807)) :
    Calls Tryz.prog 117 #[.slice a n c, .func (.func g) #[] cb] w (Gives (.int .i64 (sumBy f l)) w) := by
  have hn := hs.n3
  have hm : l.length ≤ 9223372036854775807 := by have := hs.cap; unfold maxLen at this; omega
  have HS := Lib.hid hs
  have HF := Lib.hid hf
  obtain rfl : l.length = n := hn.symm
  clear hs hf hn
  go_enter Tryz.func117, Tryz.ntmps117
  go_wp2
  go_loopw [5, 10] (fun sv iv wr => ∃ k : Nat, k ≤ l.length ∧ iv = .int .i64 k ∧ sv = .int .i64 (sumBy f (l.take k)) ∧ Hid (Below w.heap.size w wr)) (fun _ iv _ => l.length - (intOf iv).toNat)
  case atStart => exact ⟨0, Nat.zero_le _, rfl, rfl, Lib.hid (Below.refl _ _)⟩
  case round =>
    obtain ⟨k, hk, rfl, rfl, hI⟩ := hrel
    by_cases hlt : k < l.length
    · obtain ⟨g0, o0, rfl⟩ := HS.out.addr (by omega)
      obtain ⟨x0, x1, x2⟩ := (HS.out.below hI.out).at3 hlt
      have HT := Lib.hid (sumBy_take f l k hlt)
      have h1 := hb.out k
      have h2 := hb.out (k + 1)
      rw [HT.out] at h2
      have HX := Lib.hid (fun W (hW : Below w.heap.size w W) => HF.out W hW l[k] (List.getElem_mem hlt))
      generalize l[k] = x at *
      obtain ⟨u0, u1, u2⟩ := x
      clear HF HS
      generalize hy : f (u0, u1, u2) = y at *
      generalize hz : sumBy f (l.take k) = z at *
      have HZ := Lib.hid hz
      clear hz hy
      go_wp2_with fail
      refine (HX.out _ (hI.out.alloc hI.out.size _)).mono ?_
      rintro e w1 ⟨rfl, hb1⟩
      have hB := Lib.hid ((hI.out.alloc hI.out.size _).trans (hb1.mono (hI.out.alloc hI.out.size _).size))
      clear hb1 HX
      go_wp2
      go_roundw
      case rel => exact ⟨k + 1, by omega, by go_num, by rw [HT.out], hB⟩
      case measure => simp [intOf]; omega
    · obtain rfl : k = l.length := by omega
      go_wp2
      go_ret
      exact ⟨ret_int (by rw [List.take_length]), hI.out⟩
set_option maxHeartbeats 1000000 in
theorem total_Need (a : Option Addr) (n c : Nat) (l : List I2) (g : Nat) (cb : Array Value) (f : I2 → Int) (w : World) (hs : Sx 2 w a n c (L2 l)) (eg : EG g) (hf : Asks g cb w (fun x : I2 => .agg #[.int .i64 x.1, .int .i64 x.2]) l (Value.int .i64) f) (hb : Hid (∀ k, -9223372036854775808 ≤ sumBy f (l.take k) ∧ sumBy f (l.take k) ≤ 9223372036854775807)) :
    Calls Tryz.prog 119 #[.slice a n c, .func (.func g) #[] cb] w (Gives (.int .i64 (sumBy f l)) w) := by
  have hn := hs.n2
  have hm : l.length ≤ 9223372036854775807 := by have := hs.cap; unfold maxLen at this; omega
  have HS := Lib.hid hs
  have HF := Lib.hid hf
  obtain rfl : l.length = n := hn.symm
  clear hs hf hn
  go_enter Tryz.func119, Tryz.ntmps119
  go_wp2
  go_loopw [5, 10] (fun sv iv wr => ∃ k : Nat, k ≤ l.length ∧ iv = .int .i64 k ∧ sv = .int .i64 (sumBy f (l.take k)) ∧ Hid (Below w.heap.size w wr)) (fun _ iv _ => l.length - (intOf iv).toNat)
  case atStart => exact ⟨0, Nat.zero_le _, rfl, rfl, Lib.hid (Below.refl _ _)⟩
  case round =>
    obtain ⟨k, hk, rfl, rfl, hI⟩ := hrel
    by_cases hlt : k < l.length
    · obtain ⟨g0, o0, rfl⟩ := HS.out.addr (by omega)
      obtain ⟨x0, x1⟩ := (HS.out.below hI.out).at2 hlt
      have HT := Lib.hid (sumBy_take f l k hlt)
      have h1 := hb.out k
      have h2 := hb.out (k + 1)
      rw [HT.out] at h2
      have HX := Lib.hid (fun W (hW : Below w.heap.size w W) => HF.out W hW l[k] (List.getElem_mem hlt))
      generalize l[k] = x at *
      obtain ⟨u0, u1⟩ := x
      clear HF HS
      generalize hy : f (u0, u1) = y at *
      generalize hz : sumBy f (l.take k) = z at *
      have HZ := Lib.hid hz
      clear hz hy
      go_wp2_with fail
      refine (HX.out _ (hI.out.alloc hI.out.size _)).mono ?_
      rintro e w1 ⟨rfl, hb1⟩
      have hB := Lib.hid ((hI.out.alloc hI.out.size _).trans (hb1.mono (hI.out.alloc hI.out.size _).size))
      clear hb1 HX
      go_wp2
      go_roundw
      case rel => exact ⟨k + 1, by omega, by go_num, by rw [HT.out], hB⟩
      case measure => simp [intOf]; omega
    · obtain rfl : k = l.length := by omega
      go_wp2
      go_ret
      exact ⟨ret_int (by rw [List.take_length]), hI.out⟩
set_option maxHeartbeats 1000000 in
theorem total_int (a : Option Addr) (n c : Nat) (l : List Int) (g : Nat) (cb : Array Value) (f : Int → Int) (w : World) (hs : Sx 1 w a n c (L1 l)) (eg : EG g) (hf : Asks g cb w (fun x : Int => .int .i64 x) l (Value.int .i64) f) (hb : Hid (∀ k, -9223372036854775808 ≤ sumBy f (l.take k) ∧ sumBy f (l.take k) ≤ 9223372036854775807)) :
    Calls Tryz.prog 43 #[.slice a n c, .func (.func g) #[] cb] w (Gives (.int .i64 (sumBy f l)) w) := by
  have hn := hs.n1
  have hm : l.length ≤ 9223372036854775807 := by have := hs.cap; unfold maxLen at this; omega
  have HS := Lib.hid hs
  have HF := Lib.hid hf
  obtain rfl : l.length = n := hn.symm
  clear hs hf hn
  go_enter Tryz.func43, Tryz.ntmps43
  go_wp2
  go_loopw [5, 10] (fun sv iv wr => ∃ k : Nat, k ≤ l.length ∧ iv = .int .i64 k ∧ sv = .int .i64 (sumBy f (l.take k)) ∧ Hid (Below w.heap.size w wr)) (fun _ iv _ => l.length - (intOf iv).toNat)
  case atStart => exact ⟨0, Nat.zero_le _, rfl, rfl, Lib.hid (Below.refl _ _)⟩
  case round =>
    obtain ⟨k, hk, rfl, rfl, hI⟩ := hrel
    by_cases hlt : k < l.length
    · obtain ⟨g0, o0, rfl⟩ := HS.out.addr (by omega)
      obtain x0 := (HS.out.below hI.out).at1 hlt
      have HT := Lib.hid (sumBy_take f l k hlt)
      have h1 := hb.out k
      have h2 := hb.out (k + 1)
      rw [HT.out] at h2
      have HX := Lib.hid (fun W (hW : Below w.heap.size w W) => HF.out W hW l[k] (List.getElem_mem hlt))
      generalize l[k] = x at *
      clear HF HS
      generalize hy : f x = y at *
      generalize hz : sumBy f (l.take k) = z at *
      have HZ := Lib.hid hz
      clear hz hy
      go_wp2_with fail
      refine (HX.out _ hI.out).mono ?_
      rintro e w1 ⟨rfl, hb1⟩
      have hB := Lib.hid (hI.out.trans (hb1.mono hI.out.size))
      clear hb1 HX
      go_wp2
      go_roundw
      case rel => exact ⟨k + 1, by omega, by go_num, by rw [HT.out], hB⟩
      case measure => simp [intOf]; omega
    · obtain rfl : k = l.length := by omega
      go_wp2
      go_ret
      exact ⟨ret_int (by rw [List.take_length]), hI.out⟩

end Go.Proofs.YtchignmnnbepnaaGreat

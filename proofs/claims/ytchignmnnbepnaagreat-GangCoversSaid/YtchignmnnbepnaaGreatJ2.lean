/- the gang's data: elements and their cells -/
import Derived.Test.YtchignmnnbepnaaGreatJ1
import Derived.Test.YtchignmnnbepnaaGreatProg
import Derived.Deep.RegionHeld3
import Derived.Deep.DeepCutAuto
import Derived.IntWalk
import Derived.WalkLawsBesides
import Derived.Deep.QuietTactic
import Derived.BigQuiet
namespace Go.Proofs.YtchignmnnbepnaaGreat
open Go.RowKit

abbrev I2 := Int × Int
abbrev I3 := Int × Int × Int
abbrev WL := ByteArray × Int × Int
def c1 (x : Int) : List Value := [.int .i64 x]
def c2 (x : I2) : List Value := [.int .i64 x.1, .int .i64 x.2]
def c3 (x : I3) : List Value := [.int .i64 x.1, .int .i64 x.2.1, .int .i64 x.2.2]
def cW (x : WL) : List Value := [.string x.1, .int .i64 x.2.1, .int .i64 x.2.2]
def L1 (l : List Int) : List Value := l.map (Value.int .i64)
def L2 (l : List I2) : List Value := l.flatMap c2
def L3 (l : List I3) : List Value := l.flatMap c3
def LW (l : List WL) : List Value := l.flatMap cW
theorem L1_len (l : List Int) : (L1 l).length = l.length := List.length_map _
theorem L2_len (l : List I2) : (L2 l).length = l.length * 2 := flat_len (f := c2) (fun _ => rfl) l
theorem L3_len (l : List I3) : (L3 l).length = l.length * 3 := flat_len (f := c3) (fun _ => rfl) l
theorem LW_len (l : List WL) : (LW l).length = l.length * 3 := flat_len (f := cW) (fun _ => rfl) l
theorem L1_get (l : List Int) (i : Nat) (h : i < l.length) : (L1 l)[i]? = some (.int .i64 l[i]) := by unfold L1; rw [List.getElem?_map, List.getElem?_eq_getElem h]; rfl
theorem L1_append (l r : List Int) : L1 (l ++ r) = L1 l ++ L1 r := List.map_append
theorem L2_append (l r : List I2) : L2 (l ++ r) = L2 l ++ L2 r := List.flatMap_append
theorem L3_append (l r : List I3) : L3 (l ++ r) = L3 l ++ L3 r := List.flatMap_append
theorem LW_append (l r : List WL) : LW (l ++ r) = LW l ++ LW r := List.flatMap_append
section
variable {W : World} {n c g o : Nat}
theorem Sx.at1 {l : List Int} (h : Sx 1 W (some ⟨g, o, none⟩) n c (L1 l)) {i : Nat} (hi : i < l.length) : W.cell? ⟨g, o + i, none⟩ = some (.int .i64 l[i]) := h.cell (L1_get l i hi)
theorem Sx.at2 {l : List I2} (h : Sx 2 W (some ⟨g, o, none⟩) n c (L2 l)) {i : Nat} (hi : i < l.length) : W.cell? ⟨g, o + i * 2, none⟩ = some (.int .i64 l[i].1) ∧ W.cell? ⟨g, o + i * 2 + 1, none⟩ = some (.int .i64 l[i].2) :=
  ⟨h.cell (flat_get (k := 2) (fun _ => rfl) l i 0 hi (by omega)), h.cell (flat_get (k := 2) (fun _ => rfl) l i 1 hi (by omega))⟩
theorem Sx.at3 {l : List I3} (h : Sx 3 W (some ⟨g, o, none⟩) n c (L3 l)) {i : Nat} (hi : i < l.length) : W.cell? ⟨g, o + i * 3, none⟩ = some (.int .i64 l[i].1) ∧ W.cell? ⟨g, o + i * 3 + 1, none⟩ = some (.int .i64 l[i].2.1) ∧ W.cell? ⟨g, o + i * 3 + 2, none⟩ = some (.int .i64 l[i].2.2) :=
  ⟨h.cell (flat_get (k := 3) (fun _ => rfl) l i 0 hi (by omega)), h.cell (flat_get (k := 3) (fun _ => rfl) l i 1 hi (by omega)), h.cell (flat_get (k := 3) (fun _ => rfl) l i 2 hi (by omega))⟩
theorem Sx.atW {l : List WL} (h : Sx 3 W (some ⟨g, o, none⟩) n c (LW l)) {i : Nat} (hi : i < l.length) : W.cell? ⟨g, o + i * 3, none⟩ = some (.string l[i].1) ∧ W.cell? ⟨g, o + i * 3 + 1, none⟩ = some (.int .i64 l[i].2.1) ∧ W.cell? ⟨g, o + i * 3 + 2, none⟩ = some (.int .i64 l[i].2.2) :=
  ⟨h.cell (flat_get (k := 3) (fun _ => rfl) l i 0 hi (by omega)), h.cell (flat_get (k := 3) (fun _ => rfl) l i 1 hi (by omega)), h.cell (flat_get (k := 3) (fun _ => rfl) l i 2 hi (by omega))⟩
theorem Sx.n1 {a : Option Addr} {l : List Int} (h : Sx 1 W a n c (L1 l)) : n = l.length := by have := h.1; rw [L1_len] at this; omega
theorem Sx.n2 {a : Option Addr} {l : List I2} (h : Sx 2 W a n c (L2 l)) : n = l.length := by have := h.1; rw [L2_len] at this; omega
theorem Sx.n3 {a : Option Addr} {l : List I3} (h : Sx 3 W a n c (L3 l)) : n = l.length := by have := h.1; rw [L3_len] at this; omega
theorem Sx.nW {a : Option Addr} {l : List WL} (h : Sx 3 W a n c (LW l)) : n = l.length := by have := h.1; rw [LW_len] at this; omega
end
def inB (x lo hi : Int) : Bool := decide (lo ≤ x) && decide (x ≤ hi)
theorem inB_iff {x lo hi : Int} : inB x lo hi = true ↔ lo ≤ x ∧ x ≤ hi := by unfold inB; rw [Bool.and_eq_true, decide_eq_true_eq, decide_eq_true_eq]
/-- a call that answers v, and leaves all that was as it was -/
def Gives (v : Value) (w : World) (e : Ending) (w' : World) : Prop := e = .returned v ∧ Below w.heap.size w w'
theorem ret_int {k : IntKind} {a b : Int} (h : a = b) : Ending.returned (.int k a) = .returned (.int k b) := by rw [h]
theorem ret_bool {a b : Bool} (h : a = b) : Ending.returned (.bool a) = .returned (.bool b) := by rw [h]

set_option maxHeartbeats 400000 in
theorem within_any (x lo hi : Int) (w : World) : Calls Tryz.prog 30 #[.int .i64 x, .int .i64 lo, .int .i64 hi] w fun e w' => e = .returned (.bool (inB x lo hi)) ∧ w' = w := by
  unfold inB
  by_cases h1 : lo ≤ x <;> by_cases h2 : x ≤ hi
  all_goals
    go_enter Tryz.func30, Tryz.ntmps30
    go_wp2
    go_ret
    exact ⟨by simp [h1, h2], rfl⟩
set_option maxHeartbeats 400000 in
theorem In_any (x lo hi : Int) (w : World) : Calls Tryz.prog 13 #[.int .i64 x, .int .i64 lo, .int .i64 hi] w fun e w' => e = .returned (.bool (inB x lo hi)) ∧ w' = w := by
  unfold inB
  by_cases h1 : lo ≤ x <;> by_cases h2 : x ≤ hi
  all_goals
    go_enter Tryz.func13, Tryz.ntmps13
    go_wp2
    go_ret
    exact ⟨by simp [h1, h2], rfl⟩

end Go.Proofs.YtchignmnnbepnaaGreat

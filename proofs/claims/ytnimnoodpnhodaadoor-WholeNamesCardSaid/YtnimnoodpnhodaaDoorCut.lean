/- strings.Cut at one byte -/
import Derived.Test.YtnimnoodpnhodaaDoorParse
import Derived.Deep.DeepCutAuto
import Derived.IntWalk
namespace Go.Proofs.YtnimnoodpnhodaaDoor
open Go.RowKit Dig

set_option maxHeartbeats 1000000 in
theorem cutA_no (s : ByteArray) (w : World) (hi : Lib.indexByte s.data.toList 47 < 0) :
    Calls Tryd.prog 55 #[.string s, .string ⟨#[47]⟩] w fun e w' => e = .returned (.tuple #[.string s, .string ⟨#[]⟩, .bool false]) ∧ Below w.heap.size w w' := by
  obtain ⟨i, hx⟩ : ∃ i : Int, Lib.indexByte s.data.toList 47 = i := ⟨_, rfl⟩
  have HX := Lib.hid hx
  have h0 : i < 0 := by omega
  have d0 : decide (0 ≤ i) = false := by simp; omega
  clear hx hi
  go_enter Tryd.func55, Tryd.ntmps55
  go_wp2_with fail
  refine (Tryd.stringslite_Index_one s 47 _).mono ?_
  rintro e w1 ⟨rfl, rfl⟩
  rw [HX.out]
  go_wp2
  go_ret3
  exact ⟨rfl, Below.refl _ _⟩

set_option maxHeartbeats 1000000 in
theorem cutA_at (s : ByteArray) (k : Nat) (w : World) (hi : Lib.indexByte s.data.toList 47 = (k : Int)) (hk : k < s.size) (hs : s.size ≤ 100000) :
    Calls Tryd.prog 55 #[.string s, .string ⟨#[47]⟩] w fun e w' => e = .returned (.tuple #[.string (s.extract 0 k), .string (s.extract (k + 1) s.size), .bool true]) ∧ Below w.heap.size w w' := by
  have HX := Lib.hid hi
  have h0 : (0 : Int) ≤ (k : Int) := by omega
  have h1 : (k : Int) ≤ (s.size : Int) := by omega
  have h2 : (k : Int) + 1 ≤ (s.size : Int) := by omega
  have h3 : IntKind.i64.wrap ((k : Int) + 1) = (k : Int) + 1 := IntWalk.i64_in _ (by omega)
  have h4 : (0 : Int) ≤ (k : Int) + 1 := by omega
  have h5 : ((k : Int) + 1).toNat = k + 1 := by omega
  have h6 : (s.size : Int) ≤ 100000 := by omega
  clear hi
  go_enter Tryd.func55, Tryd.ntmps55
  go_wp2_with fail
  refine (Tryd.stringslite_Index_one s 47 _).mono ?_
  rintro e w1 ⟨rfl, rfl⟩
  rw [HX.out]
  go_wp2
  go_region_held3 (fun _ => True) (trivial) (fail)
  go_wp2
  go_ret3
  exact ⟨rfl, (Below.refl _ _).drew⟩

theorem cut_no (s : ByteArray) (w : World) (hi : Lib.indexByte s.data.toList 47 < 0) :
    Calls Tryd.prog 32 #[.string s, .string ⟨#[47]⟩] w fun e w' => e = .returned (.tuple #[.string s, .string ⟨#[]⟩, .bool false]) ∧ Below w.heap.size w w' := by
  have HX := Lib.hid hi
  clear hi
  go_enter Tryd.func32, Tryd.ntmps32
  go_wp2_with fail
  refine (cutA_no s _ HX.out).mono ?_
  rintro e w1 ⟨rfl, hb⟩
  have HB := Lib.hid hb
  clear hb
  go_wp2
  go_ret3
  exact ⟨rfl, HB.out⟩
theorem cut_at (s : ByteArray) (k : Nat) (w : World) (hi : Lib.indexByte s.data.toList 47 = (k : Int)) (hk : k < s.size) (hs : s.size ≤ 100000) :
    Calls Tryd.prog 32 #[.string s, .string ⟨#[47]⟩] w fun e w' => e = .returned (.tuple #[.string (s.extract 0 k), .string (s.extract (k + 1) s.size), .bool true]) ∧ Below w.heap.size w w' := by
  have HX := Lib.hid hi
  clear hi
  go_enter Tryd.func32, Tryd.ntmps32
  go_wp2_with fail
  refine (cutA_at s k _ HX.out hk hs).mono ?_
  rintro e w1 ⟨rfl, hb⟩
  have HB := Lib.hid hb
  clear hb
  go_wp2
  go_ret3
  exact ⟨rfl, HB.out⟩

end Go.Proofs.YtnimnoodpnhodaaDoor

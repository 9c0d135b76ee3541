/- the laws' own BothZ: an integer in both ways -/
import Derived.Test.YtmfplelodnoicaaGreatDoorWO
import Derived.Test.YtmfplelodnoicaaGreatDoorWH
import Derived.Test.YtmfplelodnoicaaGreatDoorWN
import Derived.Deep.DeepCutAuto
namespace Go.Proofs.YtmfplelodnoicaaGreatDoor
open Go.RowKit Dig

/-- the integer that is handed in -/
def big (A B C P : Int) : Int := (A * B + C) ^ ((P % 4).toNat + 1)
/-- what BothZ answers: the integer, and the reference's -/
def RetB (w : World) (z : Int) (e : Ending) (w' : World) : Prop := ∃ a n c m s a2 n2 c2, e = .returned (.tuple #[.agg #[.slice a n c, .bool m], .agg #[.int .i64 s, .slice a2 n2 c2]]) ∧ Zd w' (.slice a n c) m z ∧ Nz w' s (.slice a2 n2 c2) z ∧ Below w.heap.size w w'

theorem Bd.pow1 {n : Nat} {z : Int} (h : Bd n z) : ∀ k : Nat, Bd (n * (k + 1)) (z ^ (k + 1))
  | 0 => by rw [Int.pow_succ, Int.pow_zero, Int.one_mul]; exact h.mono (by omega)
  | k + 1 => by rw [Int.pow_succ]; exact ((Bd.pow1 h k).mul h).mono (by rw [Nat.mul_succ n (k + 1)]; omega)
theorem abc_bd {A B C : Int} (hA : -9223372036854775808 ≤ A ∧ A < 9223372036854775808) (hB : -9223372036854775808 ≤ B ∧ B < 9223372036854775808) (hC : -9223372036854775808 ≤ C ∧ C < 9223372036854775808) : Bd 193 (A * B + C) :=
  ((Bd.i64 hA).mul (Bd.i64 hB)).add (Bd.i64 hC)
theorem big_bd {A B C P : Int} (hA : -9223372036854775808 ≤ A ∧ A < 9223372036854775808) (hB : -9223372036854775808 ≤ B ∧ B < 9223372036854775808) (hC : -9223372036854775808 ≤ C ∧ C < 9223372036854775808) : Bd 772 (big A B C P) :=
  ((abc_bd hA hB hC).pow1 _).mono (by have : (P % 4).toNat + 1 ≤ 4 := by omega
                                      have := Nat.mul_le_mul_left 193 this; omega)

set_option maxRecDepth 100000 in
set_option maxHeartbeats 8000000 in
theorem bothZ_any (A B C P : Int) (w : World) (hA : -9223372036854775808 ≤ A ∧ A < 9223372036854775808) (hB : -9223372036854775808 ≤ B ∧ B < 9223372036854775808) (hC : -9223372036854775808 ≤ C ∧ C < 9223372036854775808) (hP : 0 ≤ P ∧ P < 256) :
    Calls Tryz.prog 13 #[.agg #[.int .i64 A, .int .i64 B, .int .i64 C, .int .u8 P]] w (RetB w (big A B C P)) := by
  have HA := Lib.hid hA
  have HB := Lib.hid hB
  have HC := Lib.hid hC
  have HV := Lib.hid (abc_bd hA hB hC)
  clear hA hB hC
  have hC : Hid (St w _ _ _) := Lib.hid ((((St.enter w).al w.heap.size #[.int .i64 A, .int .i64 B, .int .i64 C, .int .u8 P] 23 rfl rfl).al (w.heap.size + 1) #[.slice none 0 0, .bool false] 28 (by simp) rfl).al (w.heap.size + 2) #[.int .i64 0, .slice none 0 0] 31 (by simp) rfl)
  go_enter Tryz.func13, Tryz.ntmps13
  go_upto_region 1 with fail
  go_cut [4] (fun s4 wx => ∃ bx a7 n7 c7 m7, s4 = .pointer (some ⟨bx, 0, none⟩) ∧ Hid (St w wx [(w.heap.size, #[.int .i64 A, .int .i64 B, .int .i64 C, .int .u8 P], 23), (w.heap.size + 1, #[.slice none 0 0, .bool false], 28), (w.heap.size + 2, #[.int .i64 0, .slice none 0 0], 31), (bx, #[.slice a7 n7 c7, .bool m7], 28)] [fun V => Zd V (.slice a7 n7 c7) m7 (A * B + C)]))
  case first =>
    refine wp_gen hC.out ?_
    intro W1 hc
    clear hC
    have hC := Lib.hid hc
    clear hc
    go_region_held3 (fun w' => w'.cell? ⟨w.heap.size, 0, none⟩ = some (.int .i64 A) ∧ w'.cell? ⟨w.heap.size, 1, none⟩ = some (.int .i64 B) ∧ w'.cell? ⟨w.heap.size, 2, none⟩ = some (.int .i64 C) ∧ True)
      (first
        | (with_reducible refine And.intro (?_ : World.cell? (World.setCell (World.setCell w7 _ _) _ _) _ = _) ?_; exact (hC7.out |>.set 3 rfl |>.set 3 rfl).cell 0 0 rfl rfl; exact ⟨(hC7.out |>.set 3 rfl |>.set 3 rfl).cell 0 1 rfl rfl, (hC7.out |>.set 3 rfl |>.set 3 rfl).cell 0 2 rfl rfl, trivial⟩)
        | (with_reducible refine And.intro (?_ : World.cell? (World.alloc w7 _) _ = _) ?_; exact hC7.out.row.cell 0 0 rfl rfl; exact ⟨hC7.out.row.cell 0 1 rfl rfl, hC7.out.row.cell 0 2 rfl rfl, trivial⟩)
        | (with_reducible refine And.intro (?_ : World.cell? w7 _ = _) ?_; exact hC7.out.cell 0 0 rfl rfl; exact ⟨hC7.out.cell 0 1 rfl rfl, hC7.out.cell 0 2 rfl rfl, trivial⟩)
        | (with_reducible refine And.intro (?_ : World.cell? (World.alloc w6 _) _ = _) ?_; exact hC6.out.row.cell 0 0 rfl rfl; exact ⟨hC6.out.row.cell 0 1 rfl rfl, hC6.out.row.cell 0 2 rfl rfl, trivial⟩)
        | (with_reducible refine And.intro (?_ : World.cell? w6 _ = _) ?_; exact hC6.out.cell 0 0 rfl rfl; exact ⟨hC6.out.cell 0 1 rfl rfl, hC6.out.cell 0 2 rfl rfl, trivial⟩)
        | (with_reducible refine And.intro (?_ : World.cell? (World.alloc w5 _) _ = _) ?_; exact hC5.out.row.cell 0 0 rfl rfl; exact ⟨hC5.out.row.cell 0 1 rfl rfl, hC5.out.row.cell 0 2 rfl rfl, trivial⟩)
        | (with_reducible refine And.intro (?_ : World.cell? w5 _ = _) ?_; exact hC5.out.cell 0 0 rfl rfl; exact ⟨hC5.out.cell 0 1 rfl rfl, hC5.out.cell 0 2 rfl rfl, trivial⟩)
        | (with_reducible refine And.intro (?_ : World.cell? (World.alloc w4 _) _ = _) ?_; exact hC4.out.row.cell 0 0 rfl rfl; exact ⟨hC4.out.row.cell 0 1 rfl rfl, hC4.out.row.cell 0 2 rfl rfl, trivial⟩)
        | (with_reducible refine And.intro (?_ : World.cell? w4 _ = _) ?_; exact hC4.out.cell 0 0 rfl rfl; exact ⟨hC4.out.cell 0 1 rfl rfl, hC4.out.cell 0 2 rfl rfl, trivial⟩)
        | (with_reducible refine And.intro (?_ : World.cell? (World.alloc w3 _) _ = _) ?_; exact hC3.out.row.cell 0 0 rfl rfl; exact ⟨hC3.out.row.cell 0 1 rfl rfl, hC3.out.row.cell 0 2 rfl rfl, trivial⟩)
        | (with_reducible refine And.intro (?_ : World.cell? w3 _ = _) ?_; exact hC3.out.cell 0 0 rfl rfl; exact ⟨hC3.out.cell 0 1 rfl rfl, hC3.out.cell 0 2 rfl rfl, trivial⟩)
        | (with_reducible refine And.intro (?_ : World.cell? (World.drew (World.alloc W1 _)) _ = _) ?_; exact hC.out.row.drew.cell 0 0 rfl rfl; exact ⟨hC.out.row.drew.cell 0 1 rfl rfl, hC.out.row.drew.cell 0 2 rfl rfl, trivial⟩)
        | (with_reducible refine And.intro (?_ : World.cell? (World.drew W1) _ = _) ?_; exact hC.out.drew.cell 0 0 rfl rfl; exact ⟨hC.out.drew.cell 0 1 rfl rfl, hC.out.drew.cell 0 2 rfl rfl, trivial⟩))
      (first
        | (have _t := hC6; go_at_call 37; (first | ((with_reducible refine (add_b (hC6.out.z 2 rfl) (hC6.out.z 3 rfl) ((Bd.i64 HA.out).mul (Bd.i64 HB.out)) (Bd.i64 HC.out) (by omega) (by omega)).mono ?_); rintro e w7 ⟨a7, n7, c7, m7, rfl, hz, hb⟩; have hC7 := Lib.hid ((hC6.out.call hb).pz hz); clear hz hb) | ((with_reducible refine (add_b ((hC6.out.al (w6.heap.size) #[.slice none 0 0, .bool false] 28 rfl rfl).z 2 rfl) ((hC6.out.al (w6.heap.size) #[.slice none 0 0, .bool false] 28 rfl rfl).z 3 rfl) ((Bd.i64 HA.out).mul (Bd.i64 HB.out)) (Bd.i64 HC.out) (by omega) (by omega)).mono ?_); rintro e w7 ⟨a7, n7, c7, m7, rfl, hz, hb⟩; have hC7 := Lib.hid (((hC6.out.al (w6.heap.size) #[.slice none 0 0, .bool false] 28 rfl rfl).call hb).pz hz); clear hz hb)); (try have c30 := hC7.out.cell 3 0 rfl rfl); (try have c31 := hC7.out.cell 3 1 rfl rfl); (try have f30 := hC7.out.free 3 0 rfl); (try have f31 := hC7.out.free 3 1 rfl); clear _t hC6)
        | (have _t := hC5; go_at_call 35; (first | ((with_reducible refine (int_any C HC.out w5).mono ?_); rintro e w6 ⟨a6, n6, c6, m6, rfl, hz, hb⟩; have hC6 := Lib.hid ((hC5.out.call hb).pz hz); clear hz hb) | ((with_reducible refine (int_any C HC.out (World.alloc w5 _)).mono ?_); rintro e w6 ⟨a6, n6, c6, m6, rfl, hz, hb⟩; have hC6 := Lib.hid (((hC5.out.al (w5.heap.size) #[.slice none 0 0, .bool false] 28 rfl rfl).call hb).pz hz); clear hz hb)); clear _t hC5)
        | (have _t := hC4; go_at_call 41; (first | ((with_reducible refine (mul_b (hC4.out.z 0 rfl) (hC4.out.z 1 rfl) (Bd.i64 HA.out) (Bd.i64 HB.out) (by omega) (by omega)).mono ?_); rintro e w5 ⟨a5, n5, c5, m5, rfl, hz, hb⟩; have hC5 := Lib.hid ((hC4.out.call hb).pz hz); clear hz hb) | ((with_reducible refine (mul_b ((hC4.out.al (w4.heap.size) #[.slice none 0 0, .bool false] 28 rfl rfl).z 0 rfl) ((hC4.out.al (w4.heap.size) #[.slice none 0 0, .bool false] 28 rfl rfl).z 1 rfl) (Bd.i64 HA.out) (Bd.i64 HB.out) (by omega) (by omega)).mono ?_); rintro e w5 ⟨a5, n5, c5, m5, rfl, hz, hb⟩; have hC5 := Lib.hid (((hC4.out.al (w4.heap.size) #[.slice none 0 0, .bool false] 28 rfl rfl).call hb).pz hz); clear hz hb)); clear _t hC4)
        | (have _t := hC3; go_at_call 35; (first | ((with_reducible refine (int_any B HB.out w3).mono ?_); rintro e w4 ⟨a4, n4, c4, m4, rfl, hz, hb⟩; have hC4 := Lib.hid ((hC3.out.call hb).pz hz); clear hz hb) | ((with_reducible refine (int_any B HB.out (World.alloc w3 _)).mono ?_); rintro e w4 ⟨a4, n4, c4, m4, rfl, hz, hb⟩; have hC4 := Lib.hid (((hC3.out.al (w3.heap.size) #[.slice none 0 0, .bool false] 28 rfl rfl).call hb).pz hz); clear hz hb)); clear _t hC3)
        | (have _t := hC; go_at_call 35; (first | ((with_reducible refine (int_any A HA.out (World.drew W1)).mono ?_); rintro e w3 ⟨a3, n3, c3, m3, rfl, hz, hb⟩; have hC3 := Lib.hid ((hC.out.drew.call hb).pz hz); clear hz hb) | ((with_reducible refine (int_any A HA.out (World.drew (World.alloc W1 _))).mono ?_); rintro e w3 ⟨a3, n3, c3, m3, rfl, hz, hb⟩; have hC3 := Lib.hid (((hC.out.al (W1.heap.size) #[.slice none 0 0, .bool false] 28 rfl rfl).drew.call hb).pz hz); clear hz hb)); clear _t hC)
        | fail)
    all_goals (go_wp2_with fail; go_meet)
    all_goals (first
      | (refine ⟨_, a7, n7, c7, m7, rfl, ?_⟩; (with_reducible refine (?_ : Hid (St w (World.setCell (World.setCell w7 _ _) _ _) _ _))); exact Lib.hid (St.pick (hC7.out |>.set 3 rfl |>.set 3 rfl) [4] rfl))
      | (refine ⟨_, a7, n7, c7, m7, rfl, ?_⟩; (with_reducible refine (?_ : Hid (St w (World.alloc w7 _) _ _))); exact Lib.hid (St.pick (hC7.out.al w7.heap.size #[.slice a7 n7 c7, .bool m7] 28 rfl rfl) [4] rfl)))
  case rest =>
    obtain ⟨b4, a7, n7, c7, m7, rfl, hD⟩ := hcut
    clear hC
    have hC := hD
    clear hD
    go_upto_region 2 with fail
    go_cut [5] (fun s5 wx => ∃ bx s17 a17 n17 c17, s5 = .pointer (some ⟨bx, 0, none⟩) ∧ Hid (St w wx [(w.heap.size, #[.int .i64 A, .int .i64 B, .int .i64 C, .int .u8 P], 23), (w.heap.size + 1, #[.slice none 0 0, .bool false], 28), (w.heap.size + 2, #[.int .i64 0, .slice none 0 0], 31), (b4, #[.slice a7 n7 c7, .bool m7], 28), (bx, #[.int .i64 s17, .slice a17 n17 c17], 31)] [fun V => Zd V (.slice a7 n7 c7) m7 (A * B + C), fun V => Nz V s17 (.slice a17 n17 c17) (A * B + C)]))
    case first =>
      refine wp_gen hC.out ?_
      intro W1 hc
      clear hC
      have hC := Lib.hid hc
      clear hc
      go_region_held3 (fun w' => w'.cell? ⟨w.heap.size, 0, none⟩ = some (.int .i64 A) ∧ w'.cell? ⟨w.heap.size, 1, none⟩ = some (.int .i64 B) ∧ w'.cell? ⟨w.heap.size, 2, none⟩ = some (.int .i64 C) ∧ True)
        (first
          | (with_reducible refine And.intro (?_ : World.cell? (World.setCell (World.setCell w17 _ _) _ _) _ = _) ?_; exact (hC17.out |>.set 4 rfl |>.set 4 rfl).cell 0 0 rfl rfl; exact ⟨(hC17.out |>.set 4 rfl |>.set 4 rfl).cell 0 1 rfl rfl, (hC17.out |>.set 4 rfl |>.set 4 rfl).cell 0 2 rfl rfl, trivial⟩)
          | (with_reducible refine And.intro (?_ : World.cell? (World.alloc w17 _) _ = _) ?_; exact hC17.out.row.cell 0 0 rfl rfl; exact ⟨hC17.out.row.cell 0 1 rfl rfl, hC17.out.row.cell 0 2 rfl rfl, trivial⟩)
          | (with_reducible refine And.intro (?_ : World.cell? w17 _ = _) ?_; exact hC17.out.cell 0 0 rfl rfl; exact ⟨hC17.out.cell 0 1 rfl rfl, hC17.out.cell 0 2 rfl rfl, trivial⟩)
          | (with_reducible refine And.intro (?_ : World.cell? (World.alloc w16 _) _ = _) ?_; exact hC16.out.row.cell 0 0 rfl rfl; exact ⟨hC16.out.row.cell 0 1 rfl rfl, hC16.out.row.cell 0 2 rfl rfl, trivial⟩)
          | (with_reducible refine And.intro (?_ : World.cell? w16 _ = _) ?_; exact hC16.out.cell 0 0 rfl rfl; exact ⟨hC16.out.cell 0 1 rfl rfl, hC16.out.cell 0 2 rfl rfl, trivial⟩)
          | (with_reducible refine And.intro (?_ : World.cell? (World.alloc w15 _) _ = _) ?_; exact hC15.out.row.cell 0 0 rfl rfl; exact ⟨hC15.out.row.cell 0 1 rfl rfl, hC15.out.row.cell 0 2 rfl rfl, trivial⟩)
          | (with_reducible refine And.intro (?_ : World.cell? w15 _ = _) ?_; exact hC15.out.cell 0 0 rfl rfl; exact ⟨hC15.out.cell 0 1 rfl rfl, hC15.out.cell 0 2 rfl rfl, trivial⟩)
          | (with_reducible refine And.intro (?_ : World.cell? (World.alloc w14 _) _ = _) ?_; exact hC14.out.row.cell 0 0 rfl rfl; exact ⟨hC14.out.row.cell 0 1 rfl rfl, hC14.out.row.cell 0 2 rfl rfl, trivial⟩)
          | (with_reducible refine And.intro (?_ : World.cell? w14 _ = _) ?_; exact hC14.out.cell 0 0 rfl rfl; exact ⟨hC14.out.cell 0 1 rfl rfl, hC14.out.cell 0 2 rfl rfl, trivial⟩)
          | (with_reducible refine And.intro (?_ : World.cell? (World.alloc w13 _) _ = _) ?_; exact hC13.out.row.cell 0 0 rfl rfl; exact ⟨hC13.out.row.cell 0 1 rfl rfl, hC13.out.row.cell 0 2 rfl rfl, trivial⟩)
          | (with_reducible refine And.intro (?_ : World.cell? w13 _ = _) ?_; exact hC13.out.cell 0 0 rfl rfl; exact ⟨hC13.out.cell 0 1 rfl rfl, hC13.out.cell 0 2 rfl rfl, trivial⟩)
          | (with_reducible refine And.intro (?_ : World.cell? (World.drew (World.alloc W1 _)) _ = _) ?_; exact hC.out.row.drew.cell 0 0 rfl rfl; exact ⟨hC.out.row.drew.cell 0 1 rfl rfl, hC.out.row.drew.cell 0 2 rfl rfl, trivial⟩)
          | (with_reducible refine And.intro (?_ : World.cell? (World.drew W1) _ = _) ?_; exact hC.out.drew.cell 0 0 rfl rfl; exact ⟨hC.out.drew.cell 0 1 rfl rfl, hC.out.drew.cell 0 2 rfl rfl, trivial⟩))
        (first
          | (have _t := hC16; go_at_call 38; (first | ((with_reducible refine (addN_b (hC16.out.n 3 rfl) (hC16.out.n 4 rfl) ((Bd.i64 HA.out).mul (Bd.i64 HB.out)) (Bd.i64 HC.out) (by omega) (by omega)).mono ?_); rintro e w17 ⟨s17, a17, n17, c17, rfl, hz, hb⟩; have hC17 := Lib.hid ((hC16.out.call hb).pn hz); clear hz hb) | ((with_reducible refine (addN_b ((hC16.out.al (w16.heap.size) #[.int .i64 0, .slice none 0 0] 31 rfl rfl).n 3 rfl) ((hC16.out.al (w16.heap.size) #[.int .i64 0, .slice none 0 0] 31 rfl rfl).n 4 rfl) ((Bd.i64 HA.out).mul (Bd.i64 HB.out)) (Bd.i64 HC.out) (by omega) (by omega)).mono ?_); rintro e w17 ⟨s17, a17, n17, c17, rfl, hz, hb⟩; have hC17 := Lib.hid (((hC16.out.al (w16.heap.size) #[.int .i64 0, .slice none 0 0] 31 rfl rfl).call hb).pn hz); clear hz hb)); (try have c40 := hC17.out.cell 4 0 rfl rfl); (try have c41 := hC17.out.cell 4 1 rfl rfl); (try have f40 := hC17.out.free 4 0 rfl); (try have f41 := hC17.out.free 4 1 rfl); clear _t hC16)
          | (have _t := hC15; go_at_call 36; (first | ((with_reducible refine (zint_any C HC.out w15).mono ?_); rintro e w16 ⟨s16, a16, n16, c16, rfl, hz, hb⟩; have hC16 := Lib.hid ((hC15.out.call hb).pn hz); clear hz hb) | ((with_reducible refine (zint_any C HC.out (World.alloc w15 _)).mono ?_); rintro e w16 ⟨s16, a16, n16, c16, rfl, hz, hb⟩; have hC16 := Lib.hid (((hC15.out.al (w15.heap.size) #[.int .i64 0, .slice none 0 0] 31 rfl rfl).call hb).pn hz); clear hz hb)); clear _t hC15)
          | (have _t := hC14; go_at_call 42; (first | ((with_reducible refine (mulN_b (hC14.out.n 1 rfl) (hC14.out.n 2 rfl) (Bd.i64 HA.out) (Bd.i64 HB.out) (by omega) (by omega)).mono ?_); rintro e w15 ⟨s15, a15, n15, c15, rfl, hz, hb⟩; have hC15 := Lib.hid ((hC14.out.call hb).pn hz); clear hz hb) | ((with_reducible refine (mulN_b ((hC14.out.al (w14.heap.size) #[.int .i64 0, .slice none 0 0] 31 rfl rfl).n 1 rfl) ((hC14.out.al (w14.heap.size) #[.int .i64 0, .slice none 0 0] 31 rfl rfl).n 2 rfl) (Bd.i64 HA.out) (Bd.i64 HB.out) (by omega) (by omega)).mono ?_); rintro e w15 ⟨s15, a15, n15, c15, rfl, hz, hb⟩; have hC15 := Lib.hid (((hC14.out.al (w14.heap.size) #[.int .i64 0, .slice none 0 0] 31 rfl rfl).call hb).pn hz); clear hz hb)); clear _t hC14)
          | (have _t := hC13; go_at_call 36; (first | ((with_reducible refine (zint_any B HB.out w13).mono ?_); rintro e w14 ⟨s14, a14, n14, c14, rfl, hz, hb⟩; have hC14 := Lib.hid ((hC13.out.call hb).pn hz); clear hz hb) | ((with_reducible refine (zint_any B HB.out (World.alloc w13 _)).mono ?_); rintro e w14 ⟨s14, a14, n14, c14, rfl, hz, hb⟩; have hC14 := Lib.hid (((hC13.out.al (w13.heap.size) #[.int .i64 0, .slice none 0 0] 31 rfl rfl).call hb).pn hz); clear hz hb)); clear _t hC13)
          | (have _t := hC; go_at_call 36; (first | ((with_reducible refine (zint_any A HA.out (World.drew W1)).mono ?_); rintro e w13 ⟨s13, a13, n13, c13, rfl, hz, hb⟩; have hC13 := Lib.hid ((hC.out.drew.call hb).pn hz); clear hz hb) | ((with_reducible refine (zint_any A HA.out (World.drew (World.alloc W1 _))).mono ?_); rintro e w13 ⟨s13, a13, n13, c13, rfl, hz, hb⟩; have hC13 := Lib.hid (((hC.out.al (W1.heap.size) #[.int .i64 0, .slice none 0 0] 31 rfl rfl).drew.call hb).pn hz); clear hz hb)); clear _t hC)
          | fail)
      all_goals (go_wp2_with fail; go_meet)
      all_goals (first
        | (refine ⟨_, s17, a17, n17, c17, rfl, ?_⟩; (with_reducible refine (?_ : Hid (St w (World.setCell (World.setCell w17 _ _) _ _) _ _))); exact Lib.hid (St.pick (hC17.out |>.set 4 rfl |>.set 4 rfl) [0, 5] rfl))
        | (refine ⟨_, s17, a17, n17, c17, rfl, ?_⟩; (with_reducible refine (?_ : Hid (St w (World.alloc w17 _) _ _))); exact Lib.hid (St.pick (hC17.out.al w17.heap.size #[.int .i64 s17, .slice a17 n17 c17] 31 rfl rfl) [0, 5] rfl)))
    case rest =>
      obtain ⟨b5, s17, a17, n17, c17, rfl, hD⟩ := hcut
      clear hC
      have hC := hD
      clear hD
      go_upto_region 3 with fail
      go_cut [6, 7] (fun s6 s7 wx => ∃ b6 b7, s6 = .pointer (some ⟨b6, 0, none⟩) ∧ s7 = .pointer (some ⟨b7, 0, none⟩) ∧ Hid (St w wx [(w.heap.size, #[.int .i64 A, .int .i64 B, .int .i64 C, .int .u8 P], 23), (w.heap.size + 1, #[.slice none 0 0, .bool false], 28), (w.heap.size + 2, #[.int .i64 0, .slice none 0 0], 31), (b4, #[.slice a7 n7 c7, .bool m7], 28), (b5, #[.int .i64 s17, .slice a17 n17 c17], 31), (b6, #[.slice a7 n7 c7, .bool m7], 28), (b7, #[.int .i64 s17, .slice a17 n17 c17], 31)] [fun V => Zd V (.slice a7 n7 c7) m7 (A * B + C), fun V => Nz V s17 (.slice a17 n17 c17) (A * B + C)]))
      case first =>
        refine wp_gen hC.out ?_
        intro W1 hc
        clear hC
        have hC := Lib.hid hc
        clear hc
        go_region_held3 (fun w' => w'.cell? ⟨b4, 0, none⟩ = some (.slice a7 n7 c7) ∧ w'.cell? ⟨b4, 1, none⟩ = some (.bool m7) ∧ w'.cell? ⟨b5, 0, none⟩ = some (.int .i64 s17) ∧ w'.cell? ⟨b5, 1, none⟩ = some (.slice a17 n17 c17) ∧ True)
          (first
            | (with_reducible refine And.intro (?_ : World.cell? (World.drew (World.alloc (World.alloc W1 _) _)) _ = _) ?_; exact hC.out.row.row.drew.cell 3 0 rfl rfl; exact ⟨hC.out.row.row.drew.cell 3 1 rfl rfl, hC.out.row.row.drew.cell 4 0 rfl rfl, hC.out.row.row.drew.cell 4 1 rfl rfl, trivial⟩)
            | (with_reducible refine And.intro (?_ : World.cell? (World.drew (World.alloc W1 _)) _ = _) ?_; exact hC.out.row.drew.cell 3 0 rfl rfl; exact ⟨hC.out.row.drew.cell 3 1 rfl rfl, hC.out.row.drew.cell 4 0 rfl rfl, hC.out.row.drew.cell 4 1 rfl rfl, trivial⟩)
            | (with_reducible refine And.intro (?_ : World.cell? (World.drew W1) _ = _) ?_; exact hC.out.drew.cell 3 0 rfl rfl; exact ⟨hC.out.drew.cell 3 1 rfl rfl, hC.out.drew.cell 4 0 rfl rfl, hC.out.drew.cell 4 1 rfl rfl, trivial⟩))
          (first
            | (fail)
            | fail)
        all_goals (go_wp2_with fail; go_meet)
        all_goals (first
          | (refine ⟨_, _, rfl, rfl, ?_⟩; (with_reducible refine (?_ : Hid (St w (World.drew (World.alloc (World.alloc W1 _) _)) _ _))); exact Lib.hid (St.bpick ((hC.out.al W1.heap.size #[.slice a7 n7 c7, .bool m7] 28 rfl rfl).al (W1.heap.size + 1) #[.int .i64 s17, .slice a17 n17 c17] 31 (by simp) rfl).drew [0, 1, 2, 3, 4, 5, 6] (by decide) rfl))
          | (refine ⟨_, _, rfl, rfl, ?_⟩; (with_reducible refine (?_ : Hid (St w (World.drew (World.alloc (World.alloc W1 _) _)) _ _))); exact Lib.hid (St.bpick ((hC.out.al W1.heap.size #[.int .i64 s17, .slice a17 n17 c17] 31 rfl rfl).al (W1.heap.size + 1) #[.slice a7 n7 c7, .bool m7] 28 (by simp) rfl).drew [0, 1, 2, 3, 4, 6, 5] (by decide) rfl)))
      case rest =>
        obtain ⟨b6, b7, rfl, rfl, hD⟩ := hcut
        clear hC
        have hC := hD
        clear hD
        have hP0 := hP.1
        have hP1 := hP.2
        have hK : 0 ≤ P % 4 ∧ P % 4 < 4 := by omega
        obtain ⟨K, hKe⟩ : ∃ K : Nat, P % 4 = (K : Int) := ⟨(P % 4).toNat, by omega⟩
        have hK4 : K < 4 := by omega
        have HKE := Lib.hid hKe
        have HBIG := Lib.hid (show big A B C P = (A * B + C) ^ (K + 1) from by unfold big; rw [hKe, Int.toNat_natCast])
        clear hP hK
        go_wp2_with fail
        go_loopw [8] (fun iv wr => ∃ (i : Nat) (a8 : Option Addr) (n8 c8 : Nat) (m8 : Bool) (s18 : Int) (a18 : Option Addr) (n18 c18 : Nat), iv = .int .u8 (i : Int) ∧ i ≤ K ∧ Hid (St w wr [(w.heap.size, #[.int .i64 A, .int .i64 B, .int .i64 C, .int .u8 P], 23), (w.heap.size + 1, #[.slice none 0 0, .bool false], 28), (w.heap.size + 2, #[.int .i64 0, .slice none 0 0], 31), (b4, #[.slice a7 n7 c7, .bool m7], 28), (b5, #[.int .i64 s17, .slice a17 n17 c17], 31), (b6, #[.slice a8 n8 c8, .bool m8], 28), (b7, #[.int .i64 s18, .slice a18 n18 c18], 31)] [fun V => Zd V (.slice a7 n7 c7) m7 (A * B + C), fun V => Nz V s17 (.slice a17 n17 c17) (A * B + C), fun V => Zd V (.slice a8 n8 c8) m8 ((A * B + C) ^ (i + 1)), fun V => Nz V s18 (.slice a18 n18 c18) ((A * B + C) ^ (i + 1))])) (fun iv _ => K - (intOf iv).toNat)
        case atStart =>
          refine ⟨0, a7, n7, c7, m7, s17, a17, n17, c17, rfl, Nat.zero_le _, Lib.hid ?_⟩
          have h1 := (hC.out.z 0 rfl)
          have h2 := (hC.out.n 1 rfl)
          have := (hC.out.pz h1).pn h2
          have e : (A * B + C) ^ (0 + 1) = A * B + C := by rw [Int.pow_succ, Int.pow_zero, Int.one_mul]
          rw [e]
          exact this
        case round =>
          clear hC
          obtain ⟨i, a8, n8, c8, m8, s18, a18, n18, c18, rfl, hi, hC⟩ := hrel
          have x03 := hC.out.cell 0 3 rfl rfl
          by_cases hlt : i < K
          · have HBP := Lib.hid ((HV.out.pow1 i).mono (show 193 * (i + 1) ≤ 772 by omega))
            have d1 : decide ((i : Int) < P % 4) = true := by rw [hKe]; simp; omega
            clear hKe
            go_wp2
            clear x03
            have hC_c50 := hC.out.cell 5 0 rfl rfl
            have hC_f50 := hC.out.free 5 0 rfl
            have hC_c51 := hC.out.cell 5 1 rfl rfl
            have hC_f51 := hC.out.free 5 1 rfl
            have hC_c60 := hC.out.cell 6 0 rfl rfl
            have hC_f60 := hC.out.free 6 0 rfl
            have hC_c61 := hC.out.cell 6 1 rfl rfl
            have hC_f61 := hC.out.free 6 1 rfl
            refine wp_region_noPanic ?_
            refine wp_region_held_drew (S := (fun w' => w'.cell? ⟨b4, 0, none⟩ = some (.slice a7 n7 c7) ∧ w'.cell? ⟨b4, 1, none⟩ = some (.bool m7) ∧ w'.cell? ⟨b5, 0, none⟩ = some (.int .i64 s17) ∧ w'.cell? ⟨b5, 1, none⟩ = some (.slice a17 n17 c17) ∧ True)) (by kernel_rfl) ?_ (fun hH0 => ?_)
            · (try dsimp only); (first
                  | (with_reducible refine And.intro (?_ : World.cell? (World.setCell (World.setCell (World.setCell (World.setCell w19 _ _) _ _) _ _) _ _) _ = _) ?_; exact ((hC19.out |>.set 5 rfl |>.set 5 rfl) |>.set 6 rfl |>.set 6 rfl).cell 3 0 rfl rfl; exact ⟨((hC19.out |>.set 5 rfl |>.set 5 rfl) |>.set 6 rfl |>.set 6 rfl).cell 3 1 rfl rfl, ((hC19.out |>.set 5 rfl |>.set 5 rfl) |>.set 6 rfl |>.set 6 rfl).cell 4 0 rfl rfl, ((hC19.out |>.set 5 rfl |>.set 5 rfl) |>.set 6 rfl |>.set 6 rfl).cell 4 1 rfl rfl, trivial⟩)
                  | (with_reducible refine And.intro (?_ : World.cell? (World.setCell (World.setCell w19 _ _) _ _) _ = _) ?_; exact (hC19.out |>.set 5 rfl |>.set 5 rfl).cell 3 0 rfl rfl; exact ⟨(hC19.out |>.set 5 rfl |>.set 5 rfl).cell 3 1 rfl rfl, (hC19.out |>.set 5 rfl |>.set 5 rfl).cell 4 0 rfl rfl, (hC19.out |>.set 5 rfl |>.set 5 rfl).cell 4 1 rfl rfl, trivial⟩)
                  | (with_reducible refine And.intro (?_ : World.cell? w19 _ = _) ?_; exact hC19.out.cell 3 0 rfl rfl; exact ⟨hC19.out.cell 3 1 rfl rfl, hC19.out.cell 4 0 rfl rfl, hC19.out.cell 4 1 rfl rfl, trivial⟩)
                  | (with_reducible refine And.intro (?_ : World.cell? w9 _ = _) ?_; exact hC9.out.cell 3 0 rfl rfl; exact ⟨hC9.out.cell 3 1 rfl rfl, hC9.out.cell 4 0 rfl rfl, hC9.out.cell 4 1 rfl rfl, trivial⟩)
                  | (with_reducible refine And.intro (?_ : World.cell? (World.drew wr) _ = _) ?_; exact hC.out.drew.cell 3 0 rfl rfl; exact ⟨hC.out.drew.cell 3 1 rfl rfl, hC.out.drew.cell 4 0 rfl rfl, hC.out.drew.cell 4 1 rfl rfl, trivial⟩))
            refine wpAnyH_take (i := 1) (oi := ⟨_, _, _, _, _, _⟩) (v := ?_) rfl (by kernel_rfl) (by kernel_rfl) (by kernel_rfl) (fun _ _ _ h => h) (Or.inl ⟨by rfl, ?_⟩) hH0 ?_
            rotate_left
            · intro wS hSw; (try dsimp only at hSw); go_simp; try with_reducible rfl
            try simp only [Act.put, List.setIfInBounds_toArray, List.set_cons_zero, List.set_cons_succ]
            refine wpAnyH_take (i := 4) (oi := ⟨_, _, _, _, _, _⟩) (v := ?_) rfl (by kernel_rfl) (by kernel_rfl) (by kernel_rfl) (fun _ _ _ h => h) (Or.inl ⟨by rfl, ?_⟩) hH0 ?_
            rotate_left
            · intro wS hSw; (try dsimp only at hSw); go_simp; try with_reducible rfl
            try simp only [Act.put, List.setIfInBounds_toArray, List.set_cons_zero, List.set_cons_succ]
            refine wpAnyH_ready (rs := [0, 3]) (by kernel_rfl) (by simp) ?_
            refine AllReadyH.cons (o := ⟨_, _, _, _, _, _⟩) rfl (fun K hK => ?_) ?_
            · go_simp
              refine hK.out _ _ ?_ (fun hH1 => ?_)
              · (try dsimp only); (first
                    | (with_reducible refine And.intro (?_ : World.cell? (World.setCell (World.setCell (World.setCell (World.setCell w19 _ _) _ _) _ _) _ _) _ = _) ?_; exact ((hC19.out |>.set 5 rfl |>.set 5 rfl) |>.set 6 rfl |>.set 6 rfl).cell 3 0 rfl rfl; exact ⟨((hC19.out |>.set 5 rfl |>.set 5 rfl) |>.set 6 rfl |>.set 6 rfl).cell 3 1 rfl rfl, ((hC19.out |>.set 5 rfl |>.set 5 rfl) |>.set 6 rfl |>.set 6 rfl).cell 4 0 rfl rfl, ((hC19.out |>.set 5 rfl |>.set 5 rfl) |>.set 6 rfl |>.set 6 rfl).cell 4 1 rfl rfl, trivial⟩)
                    | (with_reducible refine And.intro (?_ : World.cell? (World.setCell (World.setCell w19 _ _) _ _) _ = _) ?_; exact (hC19.out |>.set 5 rfl |>.set 5 rfl).cell 3 0 rfl rfl; exact ⟨(hC19.out |>.set 5 rfl |>.set 5 rfl).cell 3 1 rfl rfl, (hC19.out |>.set 5 rfl |>.set 5 rfl).cell 4 0 rfl rfl, (hC19.out |>.set 5 rfl |>.set 5 rfl).cell 4 1 rfl rfl, trivial⟩)
                    | (with_reducible refine And.intro (?_ : World.cell? w19 _ = _) ?_; exact hC19.out.cell 3 0 rfl rfl; exact ⟨hC19.out.cell 3 1 rfl rfl, hC19.out.cell 4 0 rfl rfl, hC19.out.cell 4 1 rfl rfl, trivial⟩)
                    | (with_reducible refine And.intro (?_ : World.cell? w9 _ = _) ?_; exact hC9.out.cell 3 0 rfl rfl; exact ⟨hC9.out.cell 3 1 rfl rfl, hC9.out.cell 4 0 rfl rfl, hC9.out.cell 4 1 rfl rfl, trivial⟩)
                    | (with_reducible refine And.intro (?_ : World.cell? (World.drew wr) _ = _) ?_; exact hC.out.drew.cell 3 0 rfl rfl; exact ⟨hC.out.drew.cell 3 1 rfl rfl, hC.out.drew.cell 4 0 rfl rfl, hC.out.drew.cell 4 1 rfl rfl, trivial⟩))
              clear hK K hH0
              try simp only [Act.put, List.setIfInBounds_toArray, List.set_cons_zero, List.set_cons_succ]
              refine wpAnyH_ready (rs := [2, 3]) (by kernel_rfl) (by simp) ?_
              refine AllReadyH.cons (o := ⟨_, _, _, _, _, _⟩) rfl (fun K hK => ?_) ?_
              · go_simp
                (have _t := hC; go_at_call 41; refine (mul_b (hC.out.drew.z 2 rfl) (hC.out.drew.z 0 rfl) HBP.out HV.out (by omega) (by omega)).mono ?_; rintro e w9 ⟨a9, n9, c9, m9, rfl, hz, hb⟩; have hC9 := Lib.hid ((hC.out.drew.call hb).pz hz); clear hz hb; clear hC_c50 hC_c51 hC_c60 hC_c61 hC_f50 hC_f51 hC_f60 hC_f61; have hC9_c50 := hC9.out.cell 5 0 rfl rfl; have hC9_f50 := hC9.out.free 5 0 rfl; have hC9_c51 := hC9.out.cell 5 1 rfl rfl; have hC9_f51 := hC9.out.free 5 1 rfl; have hC9_c60 := hC9.out.cell 6 0 rfl rfl; have hC9_f60 := hC9.out.free 6 0 rfl; have hC9_c61 := hC9.out.cell 6 1 rfl rfl; have hC9_f61 := hC9.out.free 6 1 rfl; clear _t hC)
                (try go_wp2_with fail)
                refine hK.out _ _ ?_ (fun hH2 => ?_)
                · (try dsimp only); (first
                      | (with_reducible refine And.intro (?_ : World.cell? (World.setCell (World.setCell (World.setCell (World.setCell w19 _ _) _ _) _ _) _ _) _ = _) ?_; exact ((hC19.out |>.set 5 rfl |>.set 5 rfl) |>.set 6 rfl |>.set 6 rfl).cell 3 0 rfl rfl; exact ⟨((hC19.out |>.set 5 rfl |>.set 5 rfl) |>.set 6 rfl |>.set 6 rfl).cell 3 1 rfl rfl, ((hC19.out |>.set 5 rfl |>.set 5 rfl) |>.set 6 rfl |>.set 6 rfl).cell 4 0 rfl rfl, ((hC19.out |>.set 5 rfl |>.set 5 rfl) |>.set 6 rfl |>.set 6 rfl).cell 4 1 rfl rfl, trivial⟩)
                      | (with_reducible refine And.intro (?_ : World.cell? (World.setCell (World.setCell w19 _ _) _ _) _ = _) ?_; exact (hC19.out |>.set 5 rfl |>.set 5 rfl).cell 3 0 rfl rfl; exact ⟨(hC19.out |>.set 5 rfl |>.set 5 rfl).cell 3 1 rfl rfl, (hC19.out |>.set 5 rfl |>.set 5 rfl).cell 4 0 rfl rfl, (hC19.out |>.set 5 rfl |>.set 5 rfl).cell 4 1 rfl rfl, trivial⟩)
                      | (with_reducible refine And.intro (?_ : World.cell? w19 _ = _) ?_; exact hC19.out.cell 3 0 rfl rfl; exact ⟨hC19.out.cell 3 1 rfl rfl, hC19.out.cell 4 0 rfl rfl, hC19.out.cell 4 1 rfl rfl, trivial⟩)
                      | (with_reducible refine And.intro (?_ : World.cell? w9 _ = _) ?_; exact hC9.out.cell 3 0 rfl rfl; exact ⟨hC9.out.cell 3 1 rfl rfl, hC9.out.cell 4 0 rfl rfl, hC9.out.cell 4 1 rfl rfl, trivial⟩)
                      | (with_reducible refine And.intro (?_ : World.cell? (World.drew wr) _ = _) ?_; exact hC.out.drew.cell 3 0 rfl rfl; exact ⟨hC.out.drew.cell 3 1 rfl rfl, hC.out.drew.cell 4 0 rfl rfl, hC.out.drew.cell 4 1 rfl rfl, trivial⟩))
                clear hK K hH1
                try simp only [Act.put, List.setIfInBounds_toArray, List.set_cons_zero, List.set_cons_succ]
                refine wpAnyH_ready (rs := [3]) (by kernel_rfl) (by simp) ?_
                refine AllReadyH.cons (o := ⟨_, _, _, _, _, _⟩) rfl (fun K hK => ?_) ?_
                · go_simp
                  refine hK.out _ _ ?_ (fun hH3 => ?_)
                  · (try dsimp only); (first
                        | (with_reducible refine And.intro (?_ : World.cell? (World.setCell (World.setCell (World.setCell (World.setCell w19 _ _) _ _) _ _) _ _) _ = _) ?_; exact ((hC19.out |>.set 5 rfl |>.set 5 rfl) |>.set 6 rfl |>.set 6 rfl).cell 3 0 rfl rfl; exact ⟨((hC19.out |>.set 5 rfl |>.set 5 rfl) |>.set 6 rfl |>.set 6 rfl).cell 3 1 rfl rfl, ((hC19.out |>.set 5 rfl |>.set 5 rfl) |>.set 6 rfl |>.set 6 rfl).cell 4 0 rfl rfl, ((hC19.out |>.set 5 rfl |>.set 5 rfl) |>.set 6 rfl |>.set 6 rfl).cell 4 1 rfl rfl, trivial⟩)
                        | (with_reducible refine And.intro (?_ : World.cell? (World.setCell (World.setCell w19 _ _) _ _) _ = _) ?_; exact (hC19.out |>.set 5 rfl |>.set 5 rfl).cell 3 0 rfl rfl; exact ⟨(hC19.out |>.set 5 rfl |>.set 5 rfl).cell 3 1 rfl rfl, (hC19.out |>.set 5 rfl |>.set 5 rfl).cell 4 0 rfl rfl, (hC19.out |>.set 5 rfl |>.set 5 rfl).cell 4 1 rfl rfl, trivial⟩)
                        | (with_reducible refine And.intro (?_ : World.cell? w19 _ = _) ?_; exact hC19.out.cell 3 0 rfl rfl; exact ⟨hC19.out.cell 3 1 rfl rfl, hC19.out.cell 4 0 rfl rfl, hC19.out.cell 4 1 rfl rfl, trivial⟩)
                        | (with_reducible refine And.intro (?_ : World.cell? w9 _ = _) ?_; exact hC9.out.cell 3 0 rfl rfl; exact ⟨hC9.out.cell 3 1 rfl rfl, hC9.out.cell 4 0 rfl rfl, hC9.out.cell 4 1 rfl rfl, trivial⟩)
                        | (with_reducible refine And.intro (?_ : World.cell? (World.drew wr) _ = _) ?_; exact hC.out.drew.cell 3 0 rfl rfl; exact ⟨hC.out.drew.cell 3 1 rfl rfl, hC.out.drew.cell 4 0 rfl rfl, hC.out.drew.cell 4 1 rfl rfl, trivial⟩))
                  clear hK K hH2
                  try simp only [Act.put, List.setIfInBounds_toArray, List.set_cons_zero, List.set_cons_succ]
                  refine wpAnyH_ready (rs := [5]) (by kernel_rfl) (by simp) ?_
                  refine AllReadyH.cons (o := ⟨_, _, _, _, _, _⟩) rfl (fun K hK => ?_) ?_
                  · go_simp
                    (have _t := hC9; go_at_call 42; refine (mulN_b (hC9.out.n 3 rfl) (hC9.out.n 1 rfl) HBP.out HV.out (by omega) (by omega)).mono ?_; rintro e w19 ⟨s19, a19, n19, c19, rfl, hz, hb⟩; have hC19 := Lib.hid ((hC9.out.call hb).pn hz); clear hz hb; clear hC9_c50 hC9_c51 hC9_c60 hC9_c61 hC9_f50 hC9_f51 hC9_f60 hC9_f61; have hC19_c50 := hC19.out.cell 5 0 rfl rfl; have hC19_f50 := hC19.out.free 5 0 rfl; have hC19_c51 := hC19.out.cell 5 1 rfl rfl; have hC19_f51 := hC19.out.free 5 1 rfl; have hC19_c60 := hC19.out.cell 6 0 rfl rfl; have hC19_f60 := hC19.out.free 6 0 rfl; have hC19_c61 := hC19.out.cell 6 1 rfl rfl; have hC19_f61 := hC19.out.free 6 1 rfl; have h56 := hC19.out.apart 5 6 rfl rfl (by omega); have h65 := h56.symm; clear _t hC9)
                    (try go_wp2_with fail)
                    refine hK.out _ _ ?_ (fun hH4 => ?_)
                    · (try dsimp only); (first
                          | (with_reducible refine And.intro (?_ : World.cell? (World.setCell (World.setCell (World.setCell (World.setCell w19 _ _) _ _) _ _) _ _) _ = _) ?_; exact ((hC19.out |>.set 5 rfl |>.set 5 rfl) |>.set 6 rfl |>.set 6 rfl).cell 3 0 rfl rfl; exact ⟨((hC19.out |>.set 5 rfl |>.set 5 rfl) |>.set 6 rfl |>.set 6 rfl).cell 3 1 rfl rfl, ((hC19.out |>.set 5 rfl |>.set 5 rfl) |>.set 6 rfl |>.set 6 rfl).cell 4 0 rfl rfl, ((hC19.out |>.set 5 rfl |>.set 5 rfl) |>.set 6 rfl |>.set 6 rfl).cell 4 1 rfl rfl, trivial⟩)
                          | (with_reducible refine And.intro (?_ : World.cell? (World.setCell (World.setCell w19 _ _) _ _) _ = _) ?_; exact (hC19.out |>.set 5 rfl |>.set 5 rfl).cell 3 0 rfl rfl; exact ⟨(hC19.out |>.set 5 rfl |>.set 5 rfl).cell 3 1 rfl rfl, (hC19.out |>.set 5 rfl |>.set 5 rfl).cell 4 0 rfl rfl, (hC19.out |>.set 5 rfl |>.set 5 rfl).cell 4 1 rfl rfl, trivial⟩)
                          | (with_reducible refine And.intro (?_ : World.cell? w19 _ = _) ?_; exact hC19.out.cell 3 0 rfl rfl; exact ⟨hC19.out.cell 3 1 rfl rfl, hC19.out.cell 4 0 rfl rfl, hC19.out.cell 4 1 rfl rfl, trivial⟩)
                          | (with_reducible refine And.intro (?_ : World.cell? w9 _ = _) ?_; exact hC9.out.cell 3 0 rfl rfl; exact ⟨hC9.out.cell 3 1 rfl rfl, hC9.out.cell 4 0 rfl rfl, hC9.out.cell 4 1 rfl rfl, trivial⟩)
                          | (with_reducible refine And.intro (?_ : World.cell? (World.drew wr) _ = _) ?_; exact hC.out.drew.cell 3 0 rfl rfl; exact ⟨hC.out.drew.cell 3 1 rfl rfl, hC.out.drew.cell 4 0 rfl rfl, hC.out.drew.cell 4 1 rfl rfl, trivial⟩))
                    clear hK K hH3
                    try simp only [Act.put, List.setIfInBounds_toArray, List.set_cons_zero, List.set_cons_succ]
                    refine wpAnyH_ready (rs := [6]) (by kernel_rfl) (by simp) ?_
                    refine AllReadyH.cons (o := ⟨_, _, _, _, _, _⟩) rfl (fun K hK => ?_) ?_
                    · go_simp
                      refine hK.out _ _ ?_ (fun hH5 => ?_)
                      · (try dsimp only); (first
                            | (with_reducible refine And.intro (?_ : World.cell? (World.setCell (World.setCell (World.setCell (World.setCell w19 _ _) _ _) _ _) _ _) _ = _) ?_; exact ((hC19.out |>.set 5 rfl |>.set 5 rfl) |>.set 6 rfl |>.set 6 rfl).cell 3 0 rfl rfl; exact ⟨((hC19.out |>.set 5 rfl |>.set 5 rfl) |>.set 6 rfl |>.set 6 rfl).cell 3 1 rfl rfl, ((hC19.out |>.set 5 rfl |>.set 5 rfl) |>.set 6 rfl |>.set 6 rfl).cell 4 0 rfl rfl, ((hC19.out |>.set 5 rfl |>.set 5 rfl) |>.set 6 rfl |>.set 6 rfl).cell 4 1 rfl rfl, trivial⟩)
                            | (with_reducible refine And.intro (?_ : World.cell? (World.setCell (World.setCell w19 _ _) _ _) _ = _) ?_; exact (hC19.out |>.set 5 rfl |>.set 5 rfl).cell 3 0 rfl rfl; exact ⟨(hC19.out |>.set 5 rfl |>.set 5 rfl).cell 3 1 rfl rfl, (hC19.out |>.set 5 rfl |>.set 5 rfl).cell 4 0 rfl rfl, (hC19.out |>.set 5 rfl |>.set 5 rfl).cell 4 1 rfl rfl, trivial⟩)
                            | (with_reducible refine And.intro (?_ : World.cell? w19 _ = _) ?_; exact hC19.out.cell 3 0 rfl rfl; exact ⟨hC19.out.cell 3 1 rfl rfl, hC19.out.cell 4 0 rfl rfl, hC19.out.cell 4 1 rfl rfl, trivial⟩)
                            | (with_reducible refine And.intro (?_ : World.cell? w9 _ = _) ?_; exact hC9.out.cell 3 0 rfl rfl; exact ⟨hC9.out.cell 3 1 rfl rfl, hC9.out.cell 4 0 rfl rfl, hC9.out.cell 4 1 rfl rfl, trivial⟩)
                            | (with_reducible refine And.intro (?_ : World.cell? (World.drew wr) _ = _) ?_; exact hC.out.drew.cell 3 0 rfl rfl; exact ⟨hC.out.drew.cell 3 1 rfl rfl, hC.out.drew.cell 4 0 rfl rfl, hC.out.drew.cell 4 1 rfl rfl, trivial⟩))
                      clear hK K hH4
                      try simp only [Act.put, List.setIfInBounds_toArray, List.set_cons_zero, List.set_cons_succ]
                      refine wpAnyH_ready (rs := [7]) (by kernel_rfl) (by simp) ?_
                      refine AllReadyH.cons (o := ⟨_, _, _, _, _, _⟩) rfl (fun K hK => ?_) ?_
                      · go_simp
                        refine hK.out _ _ ?_ (fun hH6 => ?_)
                        · (try dsimp only); (first
                              | (with_reducible refine And.intro (?_ : World.cell? (World.setCell (World.setCell (World.setCell (World.setCell w19 _ _) _ _) _ _) _ _) _ = _) ?_; exact ((hC19.out |>.set 5 rfl |>.set 5 rfl) |>.set 6 rfl |>.set 6 rfl).cell 3 0 rfl rfl; exact ⟨((hC19.out |>.set 5 rfl |>.set 5 rfl) |>.set 6 rfl |>.set 6 rfl).cell 3 1 rfl rfl, ((hC19.out |>.set 5 rfl |>.set 5 rfl) |>.set 6 rfl |>.set 6 rfl).cell 4 0 rfl rfl, ((hC19.out |>.set 5 rfl |>.set 5 rfl) |>.set 6 rfl |>.set 6 rfl).cell 4 1 rfl rfl, trivial⟩)
                              | (with_reducible refine And.intro (?_ : World.cell? (World.setCell (World.setCell w19 _ _) _ _) _ = _) ?_; exact (hC19.out |>.set 5 rfl |>.set 5 rfl).cell 3 0 rfl rfl; exact ⟨(hC19.out |>.set 5 rfl |>.set 5 rfl).cell 3 1 rfl rfl, (hC19.out |>.set 5 rfl |>.set 5 rfl).cell 4 0 rfl rfl, (hC19.out |>.set 5 rfl |>.set 5 rfl).cell 4 1 rfl rfl, trivial⟩)
                              | (with_reducible refine And.intro (?_ : World.cell? w19 _ = _) ?_; exact hC19.out.cell 3 0 rfl rfl; exact ⟨hC19.out.cell 3 1 rfl rfl, hC19.out.cell 4 0 rfl rfl, hC19.out.cell 4 1 rfl rfl, trivial⟩)
                              | (with_reducible refine And.intro (?_ : World.cell? w9 _ = _) ?_; exact hC9.out.cell 3 0 rfl rfl; exact ⟨hC9.out.cell 3 1 rfl rfl, hC9.out.cell 4 0 rfl rfl, hC9.out.cell 4 1 rfl rfl, trivial⟩)
                              | (with_reducible refine And.intro (?_ : World.cell? (World.drew wr) _ = _) ?_; exact hC.out.drew.cell 3 0 rfl rfl; exact ⟨hC.out.drew.cell 3 1 rfl rfl, hC.out.drew.cell 4 0 rfl rfl, hC.out.drew.cell 4 1 rfl rfl, trivial⟩))
                        clear hK K hH5
                        try simp only [Act.put, List.setIfInBounds_toArray, List.set_cons_zero, List.set_cons_succ]
                        refine wpAnyH_done (by kernel_rfl) ?_ _
                        refine NoPanic.normal ?_
                        go_wp2
                        go_roundw
                        case rel =>
                          refine ⟨i + 1, a9, n9, c9, m9, s19, a19, n19, c19, by go_num, by omega, ?_⟩
                          rw [Int.pow_succ (A * B + C) (i + 1)]
                          exact Lib.hid (St.pick ((hC19.out |>.set 5 rfl |>.set 5 rfl) |>.set 6 rfl |>.set 6 rfl) [0, 1, 4, 5] rfl)
                        case measure => simp [intOf]; omega
                      exact AllReadyH.nil
                    exact AllReadyH.nil
                  exact AllReadyH.nil
                exact AllReadyH.nil
              refine AllReadyH.cons (o := ⟨_, _, _, _, _, _⟩) rfl (fun K hK => ?_) ?_
              · go_simp
                refine hK.out _ _ ?_ (fun hH2 => ?_)
                · (try dsimp only); (first
                      | (with_reducible refine And.intro (?_ : World.cell? (World.setCell (World.setCell (World.setCell (World.setCell w19 _ _) _ _) _ _) _ _) _ = _) ?_; exact ((hC19.out |>.set 5 rfl |>.set 5 rfl) |>.set 6 rfl |>.set 6 rfl).cell 3 0 rfl rfl; exact ⟨((hC19.out |>.set 5 rfl |>.set 5 rfl) |>.set 6 rfl |>.set 6 rfl).cell 3 1 rfl rfl, ((hC19.out |>.set 5 rfl |>.set 5 rfl) |>.set 6 rfl |>.set 6 rfl).cell 4 0 rfl rfl, ((hC19.out |>.set 5 rfl |>.set 5 rfl) |>.set 6 rfl |>.set 6 rfl).cell 4 1 rfl rfl, trivial⟩)
                      | (with_reducible refine And.intro (?_ : World.cell? (World.setCell (World.setCell w19 _ _) _ _) _ = _) ?_; exact (hC19.out |>.set 5 rfl |>.set 5 rfl).cell 3 0 rfl rfl; exact ⟨(hC19.out |>.set 5 rfl |>.set 5 rfl).cell 3 1 rfl rfl, (hC19.out |>.set 5 rfl |>.set 5 rfl).cell 4 0 rfl rfl, (hC19.out |>.set 5 rfl |>.set 5 rfl).cell 4 1 rfl rfl, trivial⟩)
                      | (with_reducible refine And.intro (?_ : World.cell? w19 _ = _) ?_; exact hC19.out.cell 3 0 rfl rfl; exact ⟨hC19.out.cell 3 1 rfl rfl, hC19.out.cell 4 0 rfl rfl, hC19.out.cell 4 1 rfl rfl, trivial⟩)
                      | (with_reducible refine And.intro (?_ : World.cell? w9 _ = _) ?_; exact hC9.out.cell 3 0 rfl rfl; exact ⟨hC9.out.cell 3 1 rfl rfl, hC9.out.cell 4 0 rfl rfl, hC9.out.cell 4 1 rfl rfl, trivial⟩)
                      | (with_reducible refine And.intro (?_ : World.cell? (World.drew wr) _ = _) ?_; exact hC.out.drew.cell 3 0 rfl rfl; exact ⟨hC.out.drew.cell 3 1 rfl rfl, hC.out.drew.cell 4 0 rfl rfl, hC.out.drew.cell 4 1 rfl rfl, trivial⟩))
                clear hK K hH1
                try simp only [Act.put, List.setIfInBounds_toArray, List.set_cons_zero, List.set_cons_succ]
                refine wpAnyH_ready (rs := [2]) (by kernel_rfl) (by simp) ?_
                refine AllReadyH.cons (o := ⟨_, _, _, _, _, _⟩) rfl (fun K hK => ?_) ?_
                · go_simp
                  (have _t := hC; go_at_call 41; refine (mul_b (hC.out.drew.z 2 rfl) (hC.out.drew.z 0 rfl) HBP.out HV.out (by omega) (by omega)).mono ?_; rintro e w9 ⟨a9, n9, c9, m9, rfl, hz, hb⟩; have hC9 := Lib.hid ((hC.out.drew.call hb).pz hz); clear hz hb; clear hC_c50 hC_c51 hC_c60 hC_c61 hC_f50 hC_f51 hC_f60 hC_f61; have hC9_c50 := hC9.out.cell 5 0 rfl rfl; have hC9_f50 := hC9.out.free 5 0 rfl; have hC9_c51 := hC9.out.cell 5 1 rfl rfl; have hC9_f51 := hC9.out.free 5 1 rfl; have hC9_c60 := hC9.out.cell 6 0 rfl rfl; have hC9_f60 := hC9.out.free 6 0 rfl; have hC9_c61 := hC9.out.cell 6 1 rfl rfl; have hC9_f61 := hC9.out.free 6 1 rfl; clear _t hC)
                  (try go_wp2_with fail)
                  refine hK.out _ _ ?_ (fun hH3 => ?_)
                  · (try dsimp only); (first
                        | (with_reducible refine And.intro (?_ : World.cell? (World.setCell (World.setCell (World.setCell (World.setCell w19 _ _) _ _) _ _) _ _) _ = _) ?_; exact ((hC19.out |>.set 5 rfl |>.set 5 rfl) |>.set 6 rfl |>.set 6 rfl).cell 3 0 rfl rfl; exact ⟨((hC19.out |>.set 5 rfl |>.set 5 rfl) |>.set 6 rfl |>.set 6 rfl).cell 3 1 rfl rfl, ((hC19.out |>.set 5 rfl |>.set 5 rfl) |>.set 6 rfl |>.set 6 rfl).cell 4 0 rfl rfl, ((hC19.out |>.set 5 rfl |>.set 5 rfl) |>.set 6 rfl |>.set 6 rfl).cell 4 1 rfl rfl, trivial⟩)
                        | (with_reducible refine And.intro (?_ : World.cell? (World.setCell (World.setCell w19 _ _) _ _) _ = _) ?_; exact (hC19.out |>.set 5 rfl |>.set 5 rfl).cell 3 0 rfl rfl; exact ⟨(hC19.out |>.set 5 rfl |>.set 5 rfl).cell 3 1 rfl rfl, (hC19.out |>.set 5 rfl |>.set 5 rfl).cell 4 0 rfl rfl, (hC19.out |>.set 5 rfl |>.set 5 rfl).cell 4 1 rfl rfl, trivial⟩)
                        | (with_reducible refine And.intro (?_ : World.cell? w19 _ = _) ?_; exact hC19.out.cell 3 0 rfl rfl; exact ⟨hC19.out.cell 3 1 rfl rfl, hC19.out.cell 4 0 rfl rfl, hC19.out.cell 4 1 rfl rfl, trivial⟩)
                        | (with_reducible refine And.intro (?_ : World.cell? w9 _ = _) ?_; exact hC9.out.cell 3 0 rfl rfl; exact ⟨hC9.out.cell 3 1 rfl rfl, hC9.out.cell 4 0 rfl rfl, hC9.out.cell 4 1 rfl rfl, trivial⟩)
                        | (with_reducible refine And.intro (?_ : World.cell? (World.drew wr) _ = _) ?_; exact hC.out.drew.cell 3 0 rfl rfl; exact ⟨hC.out.drew.cell 3 1 rfl rfl, hC.out.drew.cell 4 0 rfl rfl, hC.out.drew.cell 4 1 rfl rfl, trivial⟩))
                  clear hK K hH2
                  try simp only [Act.put, List.setIfInBounds_toArray, List.set_cons_zero, List.set_cons_succ]
                  refine wpAnyH_ready (rs := [5]) (by kernel_rfl) (by simp) ?_
                  refine AllReadyH.cons (o := ⟨_, _, _, _, _, _⟩) rfl (fun K hK => ?_) ?_
                  · go_simp
                    (have _t := hC9; go_at_call 42; refine (mulN_b (hC9.out.n 3 rfl) (hC9.out.n 1 rfl) HBP.out HV.out (by omega) (by omega)).mono ?_; rintro e w19 ⟨s19, a19, n19, c19, rfl, hz, hb⟩; have hC19 := Lib.hid ((hC9.out.call hb).pn hz); clear hz hb; clear hC9_c50 hC9_c51 hC9_c60 hC9_c61 hC9_f50 hC9_f51 hC9_f60 hC9_f61; have hC19_c50 := hC19.out.cell 5 0 rfl rfl; have hC19_f50 := hC19.out.free 5 0 rfl; have hC19_c51 := hC19.out.cell 5 1 rfl rfl; have hC19_f51 := hC19.out.free 5 1 rfl; have hC19_c60 := hC19.out.cell 6 0 rfl rfl; have hC19_f60 := hC19.out.free 6 0 rfl; have hC19_c61 := hC19.out.cell 6 1 rfl rfl; have hC19_f61 := hC19.out.free 6 1 rfl; have h56 := hC19.out.apart 5 6 rfl rfl (by omega); have h65 := h56.symm; clear _t hC9)
                    (try go_wp2_with fail)
                    refine hK.out _ _ ?_ (fun hH4 => ?_)
                    · (try dsimp only); (first
                          | (with_reducible refine And.intro (?_ : World.cell? (World.setCell (World.setCell (World.setCell (World.setCell w19 _ _) _ _) _ _) _ _) _ = _) ?_; exact ((hC19.out |>.set 5 rfl |>.set 5 rfl) |>.set 6 rfl |>.set 6 rfl).cell 3 0 rfl rfl; exact ⟨((hC19.out |>.set 5 rfl |>.set 5 rfl) |>.set 6 rfl |>.set 6 rfl).cell 3 1 rfl rfl, ((hC19.out |>.set 5 rfl |>.set 5 rfl) |>.set 6 rfl |>.set 6 rfl).cell 4 0 rfl rfl, ((hC19.out |>.set 5 rfl |>.set 5 rfl) |>.set 6 rfl |>.set 6 rfl).cell 4 1 rfl rfl, trivial⟩)
                          | (with_reducible refine And.intro (?_ : World.cell? (World.setCell (World.setCell w19 _ _) _ _) _ = _) ?_; exact (hC19.out |>.set 5 rfl |>.set 5 rfl).cell 3 0 rfl rfl; exact ⟨(hC19.out |>.set 5 rfl |>.set 5 rfl).cell 3 1 rfl rfl, (hC19.out |>.set 5 rfl |>.set 5 rfl).cell 4 0 rfl rfl, (hC19.out |>.set 5 rfl |>.set 5 rfl).cell 4 1 rfl rfl, trivial⟩)
                          | (with_reducible refine And.intro (?_ : World.cell? w19 _ = _) ?_; exact hC19.out.cell 3 0 rfl rfl; exact ⟨hC19.out.cell 3 1 rfl rfl, hC19.out.cell 4 0 rfl rfl, hC19.out.cell 4 1 rfl rfl, trivial⟩)
                          | (with_reducible refine And.intro (?_ : World.cell? w9 _ = _) ?_; exact hC9.out.cell 3 0 rfl rfl; exact ⟨hC9.out.cell 3 1 rfl rfl, hC9.out.cell 4 0 rfl rfl, hC9.out.cell 4 1 rfl rfl, trivial⟩)
                          | (with_reducible refine And.intro (?_ : World.cell? (World.drew wr) _ = _) ?_; exact hC.out.drew.cell 3 0 rfl rfl; exact ⟨hC.out.drew.cell 3 1 rfl rfl, hC.out.drew.cell 4 0 rfl rfl, hC.out.drew.cell 4 1 rfl rfl, trivial⟩))
                    clear hK K hH3
                    try simp only [Act.put, List.setIfInBounds_toArray, List.set_cons_zero, List.set_cons_succ]
                    refine wpAnyH_ready (rs := [6]) (by kernel_rfl) (by simp) ?_
                    refine AllReadyH.cons (o := ⟨_, _, _, _, _, _⟩) rfl (fun K hK => ?_) ?_
                    · go_simp
                      refine hK.out _ _ ?_ (fun hH5 => ?_)
                      · (try dsimp only); (first
                            | (with_reducible refine And.intro (?_ : World.cell? (World.setCell (World.setCell (World.setCell (World.setCell w19 _ _) _ _) _ _) _ _) _ = _) ?_; exact ((hC19.out |>.set 5 rfl |>.set 5 rfl) |>.set 6 rfl |>.set 6 rfl).cell 3 0 rfl rfl; exact ⟨((hC19.out |>.set 5 rfl |>.set 5 rfl) |>.set 6 rfl |>.set 6 rfl).cell 3 1 rfl rfl, ((hC19.out |>.set 5 rfl |>.set 5 rfl) |>.set 6 rfl |>.set 6 rfl).cell 4 0 rfl rfl, ((hC19.out |>.set 5 rfl |>.set 5 rfl) |>.set 6 rfl |>.set 6 rfl).cell 4 1 rfl rfl, trivial⟩)
                            | (with_reducible refine And.intro (?_ : World.cell? (World.setCell (World.setCell w19 _ _) _ _) _ = _) ?_; exact (hC19.out |>.set 5 rfl |>.set 5 rfl).cell 3 0 rfl rfl; exact ⟨(hC19.out |>.set 5 rfl |>.set 5 rfl).cell 3 1 rfl rfl, (hC19.out |>.set 5 rfl |>.set 5 rfl).cell 4 0 rfl rfl, (hC19.out |>.set 5 rfl |>.set 5 rfl).cell 4 1 rfl rfl, trivial⟩)
                            | (with_reducible refine And.intro (?_ : World.cell? w19 _ = _) ?_; exact hC19.out.cell 3 0 rfl rfl; exact ⟨hC19.out.cell 3 1 rfl rfl, hC19.out.cell 4 0 rfl rfl, hC19.out.cell 4 1 rfl rfl, trivial⟩)
                            | (with_reducible refine And.intro (?_ : World.cell? w9 _ = _) ?_; exact hC9.out.cell 3 0 rfl rfl; exact ⟨hC9.out.cell 3 1 rfl rfl, hC9.out.cell 4 0 rfl rfl, hC9.out.cell 4 1 rfl rfl, trivial⟩)
                            | (with_reducible refine And.intro (?_ : World.cell? (World.drew wr) _ = _) ?_; exact hC.out.drew.cell 3 0 rfl rfl; exact ⟨hC.out.drew.cell 3 1 rfl rfl, hC.out.drew.cell 4 0 rfl rfl, hC.out.drew.cell 4 1 rfl rfl, trivial⟩))
                      clear hK K hH4
                      try simp only [Act.put, List.setIfInBounds_toArray, List.set_cons_zero, List.set_cons_succ]
                      refine wpAnyH_ready (rs := [7]) (by kernel_rfl) (by simp) ?_
                      refine AllReadyH.cons (o := ⟨_, _, _, _, _, _⟩) rfl (fun K hK => ?_) ?_
                      · go_simp
                        refine hK.out _ _ ?_ (fun hH6 => ?_)
                        · (try dsimp only); (first
                              | (with_reducible refine And.intro (?_ : World.cell? (World.setCell (World.setCell (World.setCell (World.setCell w19 _ _) _ _) _ _) _ _) _ = _) ?_; exact ((hC19.out |>.set 5 rfl |>.set 5 rfl) |>.set 6 rfl |>.set 6 rfl).cell 3 0 rfl rfl; exact ⟨((hC19.out |>.set 5 rfl |>.set 5 rfl) |>.set 6 rfl |>.set 6 rfl).cell 3 1 rfl rfl, ((hC19.out |>.set 5 rfl |>.set 5 rfl) |>.set 6 rfl |>.set 6 rfl).cell 4 0 rfl rfl, ((hC19.out |>.set 5 rfl |>.set 5 rfl) |>.set 6 rfl |>.set 6 rfl).cell 4 1 rfl rfl, trivial⟩)
                              | (with_reducible refine And.intro (?_ : World.cell? (World.setCell (World.setCell w19 _ _) _ _) _ = _) ?_; exact (hC19.out |>.set 5 rfl |>.set 5 rfl).cell 3 0 rfl rfl; exact ⟨(hC19.out |>.set 5 rfl |>.set 5 rfl).cell 3 1 rfl rfl, (hC19.out |>.set 5 rfl |>.set 5 rfl).cell 4 0 rfl rfl, (hC19.out |>.set 5 rfl |>.set 5 rfl).cell 4 1 rfl rfl, trivial⟩)
                              | (with_reducible refine And.intro (?_ : World.cell? w19 _ = _) ?_; exact hC19.out.cell 3 0 rfl rfl; exact ⟨hC19.out.cell 3 1 rfl rfl, hC19.out.cell 4 0 rfl rfl, hC19.out.cell 4 1 rfl rfl, trivial⟩)
                              | (with_reducible refine And.intro (?_ : World.cell? w9 _ = _) ?_; exact hC9.out.cell 3 0 rfl rfl; exact ⟨hC9.out.cell 3 1 rfl rfl, hC9.out.cell 4 0 rfl rfl, hC9.out.cell 4 1 rfl rfl, trivial⟩)
                              | (with_reducible refine And.intro (?_ : World.cell? (World.drew wr) _ = _) ?_; exact hC.out.drew.cell 3 0 rfl rfl; exact ⟨hC.out.drew.cell 3 1 rfl rfl, hC.out.drew.cell 4 0 rfl rfl, hC.out.drew.cell 4 1 rfl rfl, trivial⟩))
                        clear hK K hH5
                        try simp only [Act.put, List.setIfInBounds_toArray, List.set_cons_zero, List.set_cons_succ]
                        refine wpAnyH_done (by kernel_rfl) ?_ _
                        refine NoPanic.normal ?_
                        go_wp2
                        go_roundw
                        case rel =>
                          refine ⟨i + 1, a9, n9, c9, m9, s19, a19, n19, c19, by go_num, by omega, ?_⟩
                          rw [Int.pow_succ (A * B + C) (i + 1)]
                          exact Lib.hid (St.pick ((hC19.out |>.set 5 rfl |>.set 5 rfl) |>.set 6 rfl |>.set 6 rfl) [0, 1, 4, 5] rfl)
                        case measure => simp [intOf]; omega
                      exact AllReadyH.nil
                    exact AllReadyH.nil
                  exact AllReadyH.nil
                exact AllReadyH.nil
              exact AllReadyH.nil
            refine AllReadyH.cons (o := ⟨_, _, _, _, _, _⟩) rfl (fun K hK => ?_) ?_
            · go_simp
              refine hK.out _ _ ?_ (fun hH1 => ?_)
              · (try dsimp only); (first
                    | (with_reducible refine And.intro (?_ : World.cell? (World.setCell (World.setCell (World.setCell (World.setCell w19 _ _) _ _) _ _) _ _) _ = _) ?_; exact ((hC19.out |>.set 5 rfl |>.set 5 rfl) |>.set 6 rfl |>.set 6 rfl).cell 3 0 rfl rfl; exact ⟨((hC19.out |>.set 5 rfl |>.set 5 rfl) |>.set 6 rfl |>.set 6 rfl).cell 3 1 rfl rfl, ((hC19.out |>.set 5 rfl |>.set 5 rfl) |>.set 6 rfl |>.set 6 rfl).cell 4 0 rfl rfl, ((hC19.out |>.set 5 rfl |>.set 5 rfl) |>.set 6 rfl |>.set 6 rfl).cell 4 1 rfl rfl, trivial⟩)
                    | (with_reducible refine And.intro (?_ : World.cell? (World.setCell (World.setCell w19 _ _) _ _) _ = _) ?_; exact (hC19.out |>.set 5 rfl |>.set 5 rfl).cell 3 0 rfl rfl; exact ⟨(hC19.out |>.set 5 rfl |>.set 5 rfl).cell 3 1 rfl rfl, (hC19.out |>.set 5 rfl |>.set 5 rfl).cell 4 0 rfl rfl, (hC19.out |>.set 5 rfl |>.set 5 rfl).cell 4 1 rfl rfl, trivial⟩)
                    | (with_reducible refine And.intro (?_ : World.cell? w19 _ = _) ?_; exact hC19.out.cell 3 0 rfl rfl; exact ⟨hC19.out.cell 3 1 rfl rfl, hC19.out.cell 4 0 rfl rfl, hC19.out.cell 4 1 rfl rfl, trivial⟩)
                    | (with_reducible refine And.intro (?_ : World.cell? w9 _ = _) ?_; exact hC9.out.cell 3 0 rfl rfl; exact ⟨hC9.out.cell 3 1 rfl rfl, hC9.out.cell 4 0 rfl rfl, hC9.out.cell 4 1 rfl rfl, trivial⟩)
                    | (with_reducible refine And.intro (?_ : World.cell? (World.drew wr) _ = _) ?_; exact hC.out.drew.cell 3 0 rfl rfl; exact ⟨hC.out.drew.cell 3 1 rfl rfl, hC.out.drew.cell 4 0 rfl rfl, hC.out.drew.cell 4 1 rfl rfl, trivial⟩))
              clear hK K hH0
              try simp only [Act.put, List.setIfInBounds_toArray, List.set_cons_zero, List.set_cons_succ]
              refine wpAnyH_ready (rs := [0]) (by kernel_rfl) (by simp) ?_
              refine AllReadyH.cons (o := ⟨_, _, _, _, _, _⟩) rfl (fun K hK => ?_) ?_
              · go_simp
                refine hK.out _ _ ?_ (fun hH2 => ?_)
                · (try dsimp only); (first
                      | (with_reducible refine And.intro (?_ : World.cell? (World.setCell (World.setCell (World.setCell (World.setCell w19 _ _) _ _) _ _) _ _) _ = _) ?_; exact ((hC19.out |>.set 5 rfl |>.set 5 rfl) |>.set 6 rfl |>.set 6 rfl).cell 3 0 rfl rfl; exact ⟨((hC19.out |>.set 5 rfl |>.set 5 rfl) |>.set 6 rfl |>.set 6 rfl).cell 3 1 rfl rfl, ((hC19.out |>.set 5 rfl |>.set 5 rfl) |>.set 6 rfl |>.set 6 rfl).cell 4 0 rfl rfl, ((hC19.out |>.set 5 rfl |>.set 5 rfl) |>.set 6 rfl |>.set 6 rfl).cell 4 1 rfl rfl, trivial⟩)
                      | (with_reducible refine And.intro (?_ : World.cell? (World.setCell (World.setCell w19 _ _) _ _) _ = _) ?_; exact (hC19.out |>.set 5 rfl |>.set 5 rfl).cell 3 0 rfl rfl; exact ⟨(hC19.out |>.set 5 rfl |>.set 5 rfl).cell 3 1 rfl rfl, (hC19.out |>.set 5 rfl |>.set 5 rfl).cell 4 0 rfl rfl, (hC19.out |>.set 5 rfl |>.set 5 rfl).cell 4 1 rfl rfl, trivial⟩)
                      | (with_reducible refine And.intro (?_ : World.cell? w19 _ = _) ?_; exact hC19.out.cell 3 0 rfl rfl; exact ⟨hC19.out.cell 3 1 rfl rfl, hC19.out.cell 4 0 rfl rfl, hC19.out.cell 4 1 rfl rfl, trivial⟩)
                      | (with_reducible refine And.intro (?_ : World.cell? w9 _ = _) ?_; exact hC9.out.cell 3 0 rfl rfl; exact ⟨hC9.out.cell 3 1 rfl rfl, hC9.out.cell 4 0 rfl rfl, hC9.out.cell 4 1 rfl rfl, trivial⟩)
                      | (with_reducible refine And.intro (?_ : World.cell? (World.drew wr) _ = _) ?_; exact hC.out.drew.cell 3 0 rfl rfl; exact ⟨hC.out.drew.cell 3 1 rfl rfl, hC.out.drew.cell 4 0 rfl rfl, hC.out.drew.cell 4 1 rfl rfl, trivial⟩))
                clear hK K hH1
                try simp only [Act.put, List.setIfInBounds_toArray, List.set_cons_zero, List.set_cons_succ]
                refine wpAnyH_ready (rs := [2]) (by kernel_rfl) (by simp) ?_
                refine AllReadyH.cons (o := ⟨_, _, _, _, _, _⟩) rfl (fun K hK => ?_) ?_
                · go_simp
                  (have _t := hC; go_at_call 41; refine (mul_b (hC.out.drew.z 2 rfl) (hC.out.drew.z 0 rfl) HBP.out HV.out (by omega) (by omega)).mono ?_; rintro e w9 ⟨a9, n9, c9, m9, rfl, hz, hb⟩; have hC9 := Lib.hid ((hC.out.drew.call hb).pz hz); clear hz hb; clear hC_c50 hC_c51 hC_c60 hC_c61 hC_f50 hC_f51 hC_f60 hC_f61; have hC9_c50 := hC9.out.cell 5 0 rfl rfl; have hC9_f50 := hC9.out.free 5 0 rfl; have hC9_c51 := hC9.out.cell 5 1 rfl rfl; have hC9_f51 := hC9.out.free 5 1 rfl; have hC9_c60 := hC9.out.cell 6 0 rfl rfl; have hC9_f60 := hC9.out.free 6 0 rfl; have hC9_c61 := hC9.out.cell 6 1 rfl rfl; have hC9_f61 := hC9.out.free 6 1 rfl; clear _t hC)
                  (try go_wp2_with fail)
                  refine hK.out _ _ ?_ (fun hH3 => ?_)
                  · (try dsimp only); (first
                        | (with_reducible refine And.intro (?_ : World.cell? (World.setCell (World.setCell (World.setCell (World.setCell w19 _ _) _ _) _ _) _ _) _ = _) ?_; exact ((hC19.out |>.set 5 rfl |>.set 5 rfl) |>.set 6 rfl |>.set 6 rfl).cell 3 0 rfl rfl; exact ⟨((hC19.out |>.set 5 rfl |>.set 5 rfl) |>.set 6 rfl |>.set 6 rfl).cell 3 1 rfl rfl, ((hC19.out |>.set 5 rfl |>.set 5 rfl) |>.set 6 rfl |>.set 6 rfl).cell 4 0 rfl rfl, ((hC19.out |>.set 5 rfl |>.set 5 rfl) |>.set 6 rfl |>.set 6 rfl).cell 4 1 rfl rfl, trivial⟩)
                        | (with_reducible refine And.intro (?_ : World.cell? (World.setCell (World.setCell w19 _ _) _ _) _ = _) ?_; exact (hC19.out |>.set 5 rfl |>.set 5 rfl).cell 3 0 rfl rfl; exact ⟨(hC19.out |>.set 5 rfl |>.set 5 rfl).cell 3 1 rfl rfl, (hC19.out |>.set 5 rfl |>.set 5 rfl).cell 4 0 rfl rfl, (hC19.out |>.set 5 rfl |>.set 5 rfl).cell 4 1 rfl rfl, trivial⟩)
                        | (with_reducible refine And.intro (?_ : World.cell? w19 _ = _) ?_; exact hC19.out.cell 3 0 rfl rfl; exact ⟨hC19.out.cell 3 1 rfl rfl, hC19.out.cell 4 0 rfl rfl, hC19.out.cell 4 1 rfl rfl, trivial⟩)
                        | (with_reducible refine And.intro (?_ : World.cell? w9 _ = _) ?_; exact hC9.out.cell 3 0 rfl rfl; exact ⟨hC9.out.cell 3 1 rfl rfl, hC9.out.cell 4 0 rfl rfl, hC9.out.cell 4 1 rfl rfl, trivial⟩)
                        | (with_reducible refine And.intro (?_ : World.cell? (World.drew wr) _ = _) ?_; exact hC.out.drew.cell 3 0 rfl rfl; exact ⟨hC.out.drew.cell 3 1 rfl rfl, hC.out.drew.cell 4 0 rfl rfl, hC.out.drew.cell 4 1 rfl rfl, trivial⟩))
                  clear hK K hH2
                  try simp only [Act.put, List.setIfInBounds_toArray, List.set_cons_zero, List.set_cons_succ]
                  refine wpAnyH_ready (rs := [5]) (by kernel_rfl) (by simp) ?_
                  refine AllReadyH.cons (o := ⟨_, _, _, _, _, _⟩) rfl (fun K hK => ?_) ?_
                  · go_simp
                    (have _t := hC9; go_at_call 42; refine (mulN_b (hC9.out.n 3 rfl) (hC9.out.n 1 rfl) HBP.out HV.out (by omega) (by omega)).mono ?_; rintro e w19 ⟨s19, a19, n19, c19, rfl, hz, hb⟩; have hC19 := Lib.hid ((hC9.out.call hb).pn hz); clear hz hb; clear hC9_c50 hC9_c51 hC9_c60 hC9_c61 hC9_f50 hC9_f51 hC9_f60 hC9_f61; have hC19_c50 := hC19.out.cell 5 0 rfl rfl; have hC19_f50 := hC19.out.free 5 0 rfl; have hC19_c51 := hC19.out.cell 5 1 rfl rfl; have hC19_f51 := hC19.out.free 5 1 rfl; have hC19_c60 := hC19.out.cell 6 0 rfl rfl; have hC19_f60 := hC19.out.free 6 0 rfl; have hC19_c61 := hC19.out.cell 6 1 rfl rfl; have hC19_f61 := hC19.out.free 6 1 rfl; have h56 := hC19.out.apart 5 6 rfl rfl (by omega); have h65 := h56.symm; clear _t hC9)
                    (try go_wp2_with fail)
                    refine hK.out _ _ ?_ (fun hH4 => ?_)
                    · (try dsimp only); (first
                          | (with_reducible refine And.intro (?_ : World.cell? (World.setCell (World.setCell (World.setCell (World.setCell w19 _ _) _ _) _ _) _ _) _ = _) ?_; exact ((hC19.out |>.set 5 rfl |>.set 5 rfl) |>.set 6 rfl |>.set 6 rfl).cell 3 0 rfl rfl; exact ⟨((hC19.out |>.set 5 rfl |>.set 5 rfl) |>.set 6 rfl |>.set 6 rfl).cell 3 1 rfl rfl, ((hC19.out |>.set 5 rfl |>.set 5 rfl) |>.set 6 rfl |>.set 6 rfl).cell 4 0 rfl rfl, ((hC19.out |>.set 5 rfl |>.set 5 rfl) |>.set 6 rfl |>.set 6 rfl).cell 4 1 rfl rfl, trivial⟩)
                          | (with_reducible refine And.intro (?_ : World.cell? (World.setCell (World.setCell w19 _ _) _ _) _ = _) ?_; exact (hC19.out |>.set 5 rfl |>.set 5 rfl).cell 3 0 rfl rfl; exact ⟨(hC19.out |>.set 5 rfl |>.set 5 rfl).cell 3 1 rfl rfl, (hC19.out |>.set 5 rfl |>.set 5 rfl).cell 4 0 rfl rfl, (hC19.out |>.set 5 rfl |>.set 5 rfl).cell 4 1 rfl rfl, trivial⟩)
                          | (with_reducible refine And.intro (?_ : World.cell? w19 _ = _) ?_; exact hC19.out.cell 3 0 rfl rfl; exact ⟨hC19.out.cell 3 1 rfl rfl, hC19.out.cell 4 0 rfl rfl, hC19.out.cell 4 1 rfl rfl, trivial⟩)
                          | (with_reducible refine And.intro (?_ : World.cell? w9 _ = _) ?_; exact hC9.out.cell 3 0 rfl rfl; exact ⟨hC9.out.cell 3 1 rfl rfl, hC9.out.cell 4 0 rfl rfl, hC9.out.cell 4 1 rfl rfl, trivial⟩)
                          | (with_reducible refine And.intro (?_ : World.cell? (World.drew wr) _ = _) ?_; exact hC.out.drew.cell 3 0 rfl rfl; exact ⟨hC.out.drew.cell 3 1 rfl rfl, hC.out.drew.cell 4 0 rfl rfl, hC.out.drew.cell 4 1 rfl rfl, trivial⟩))
                    clear hK K hH3
                    try simp only [Act.put, List.setIfInBounds_toArray, List.set_cons_zero, List.set_cons_succ]
                    refine wpAnyH_ready (rs := [6]) (by kernel_rfl) (by simp) ?_
                    refine AllReadyH.cons (o := ⟨_, _, _, _, _, _⟩) rfl (fun K hK => ?_) ?_
                    · go_simp
                      refine hK.out _ _ ?_ (fun hH5 => ?_)
                      · (try dsimp only); (first
                            | (with_reducible refine And.intro (?_ : World.cell? (World.setCell (World.setCell (World.setCell (World.setCell w19 _ _) _ _) _ _) _ _) _ = _) ?_; exact ((hC19.out |>.set 5 rfl |>.set 5 rfl) |>.set 6 rfl |>.set 6 rfl).cell 3 0 rfl rfl; exact ⟨((hC19.out |>.set 5 rfl |>.set 5 rfl) |>.set 6 rfl |>.set 6 rfl).cell 3 1 rfl rfl, ((hC19.out |>.set 5 rfl |>.set 5 rfl) |>.set 6 rfl |>.set 6 rfl).cell 4 0 rfl rfl, ((hC19.out |>.set 5 rfl |>.set 5 rfl) |>.set 6 rfl |>.set 6 rfl).cell 4 1 rfl rfl, trivial⟩)
                            | (with_reducible refine And.intro (?_ : World.cell? (World.setCell (World.setCell w19 _ _) _ _) _ = _) ?_; exact (hC19.out |>.set 5 rfl |>.set 5 rfl).cell 3 0 rfl rfl; exact ⟨(hC19.out |>.set 5 rfl |>.set 5 rfl).cell 3 1 rfl rfl, (hC19.out |>.set 5 rfl |>.set 5 rfl).cell 4 0 rfl rfl, (hC19.out |>.set 5 rfl |>.set 5 rfl).cell 4 1 rfl rfl, trivial⟩)
                            | (with_reducible refine And.intro (?_ : World.cell? w19 _ = _) ?_; exact hC19.out.cell 3 0 rfl rfl; exact ⟨hC19.out.cell 3 1 rfl rfl, hC19.out.cell 4 0 rfl rfl, hC19.out.cell 4 1 rfl rfl, trivial⟩)
                            | (with_reducible refine And.intro (?_ : World.cell? w9 _ = _) ?_; exact hC9.out.cell 3 0 rfl rfl; exact ⟨hC9.out.cell 3 1 rfl rfl, hC9.out.cell 4 0 rfl rfl, hC9.out.cell 4 1 rfl rfl, trivial⟩)
                            | (with_reducible refine And.intro (?_ : World.cell? (World.drew wr) _ = _) ?_; exact hC.out.drew.cell 3 0 rfl rfl; exact ⟨hC.out.drew.cell 3 1 rfl rfl, hC.out.drew.cell 4 0 rfl rfl, hC.out.drew.cell 4 1 rfl rfl, trivial⟩))
                      clear hK K hH4
                      try simp only [Act.put, List.setIfInBounds_toArray, List.set_cons_zero, List.set_cons_succ]
                      refine wpAnyH_ready (rs := [7]) (by kernel_rfl) (by simp) ?_
                      refine AllReadyH.cons (o := ⟨_, _, _, _, _, _⟩) rfl (fun K hK => ?_) ?_
                      · go_simp
                        refine hK.out _ _ ?_ (fun hH6 => ?_)
                        · (try dsimp only); (first
                              | (with_reducible refine And.intro (?_ : World.cell? (World.setCell (World.setCell (World.setCell (World.setCell w19 _ _) _ _) _ _) _ _) _ = _) ?_; exact ((hC19.out |>.set 5 rfl |>.set 5 rfl) |>.set 6 rfl |>.set 6 rfl).cell 3 0 rfl rfl; exact ⟨((hC19.out |>.set 5 rfl |>.set 5 rfl) |>.set 6 rfl |>.set 6 rfl).cell 3 1 rfl rfl, ((hC19.out |>.set 5 rfl |>.set 5 rfl) |>.set 6 rfl |>.set 6 rfl).cell 4 0 rfl rfl, ((hC19.out |>.set 5 rfl |>.set 5 rfl) |>.set 6 rfl |>.set 6 rfl).cell 4 1 rfl rfl, trivial⟩)
                              | (with_reducible refine And.intro (?_ : World.cell? (World.setCell (World.setCell w19 _ _) _ _) _ = _) ?_; exact (hC19.out |>.set 5 rfl |>.set 5 rfl).cell 3 0 rfl rfl; exact ⟨(hC19.out |>.set 5 rfl |>.set 5 rfl).cell 3 1 rfl rfl, (hC19.out |>.set 5 rfl |>.set 5 rfl).cell 4 0 rfl rfl, (hC19.out |>.set 5 rfl |>.set 5 rfl).cell 4 1 rfl rfl, trivial⟩)
                              | (with_reducible refine And.intro (?_ : World.cell? w19 _ = _) ?_; exact hC19.out.cell 3 0 rfl rfl; exact ⟨hC19.out.cell 3 1 rfl rfl, hC19.out.cell 4 0 rfl rfl, hC19.out.cell 4 1 rfl rfl, trivial⟩)
                              | (with_reducible refine And.intro (?_ : World.cell? w9 _ = _) ?_; exact hC9.out.cell 3 0 rfl rfl; exact ⟨hC9.out.cell 3 1 rfl rfl, hC9.out.cell 4 0 rfl rfl, hC9.out.cell 4 1 rfl rfl, trivial⟩)
                              | (with_reducible refine And.intro (?_ : World.cell? (World.drew wr) _ = _) ?_; exact hC.out.drew.cell 3 0 rfl rfl; exact ⟨hC.out.drew.cell 3 1 rfl rfl, hC.out.drew.cell 4 0 rfl rfl, hC.out.drew.cell 4 1 rfl rfl, trivial⟩))
                        clear hK K hH5
                        try simp only [Act.put, List.setIfInBounds_toArray, List.set_cons_zero, List.set_cons_succ]
                        refine wpAnyH_done (by kernel_rfl) ?_ _
                        refine NoPanic.normal ?_
                        go_wp2
                        go_roundw
                        case rel =>
                          refine ⟨i + 1, a9, n9, c9, m9, s19, a19, n19, c19, by go_num, by omega, ?_⟩
                          rw [Int.pow_succ (A * B + C) (i + 1)]
                          exact Lib.hid (St.pick ((hC19.out |>.set 5 rfl |>.set 5 rfl) |>.set 6 rfl |>.set 6 rfl) [0, 1, 4, 5] rfl)
                        case measure => simp [intOf]; omega
                      exact AllReadyH.nil
                    exact AllReadyH.nil
                  exact AllReadyH.nil
                exact AllReadyH.nil
              exact AllReadyH.nil
            exact AllReadyH.nil
          · obtain rfl : i = K := by omega
            have d1 : decide ((i : Int) < P % 4) = false := by rw [hKe]; simp
            clear hKe
            go_wp2
            clear x03
            have hC_c10 := hC.out.cell 1 0 rfl rfl
            have hC_f10 := hC.out.free 1 0 rfl
            have hC_c11 := hC.out.cell 1 1 rfl rfl
            have hC_f11 := hC.out.free 1 1 rfl
            have hC_c20 := hC.out.cell 2 0 rfl rfl
            have hC_f20 := hC.out.free 2 0 rfl
            have hC_c21 := hC.out.cell 2 1 rfl rfl
            have hC_f21 := hC.out.free 2 1 rfl
            go_region_held3 (fun w' => w'.cell? ⟨b6, 0, none⟩ = some (.slice a8 n8 c8) ∧ w'.cell? ⟨b6, 1, none⟩ = some (.bool m8) ∧ w'.cell? ⟨b7, 0, none⟩ = some (.int .i64 s18) ∧ w'.cell? ⟨b7, 1, none⟩ = some (.slice a18 n18 c18) ∧ True)
              (first
                | (with_reducible refine And.intro (?_ : World.cell? (World.drew (World.setCell (World.setCell (World.setCell (World.setCell wr _ _) _ _) _ _) _ _)) _ = _) ?_; exact ((hC.out |>.set 1 rfl |>.set 1 rfl) |>.set 2 rfl |>.set 2 rfl).drew.cell 5 0 rfl rfl; exact ⟨((hC.out |>.set 1 rfl |>.set 1 rfl) |>.set 2 rfl |>.set 2 rfl).drew.cell 5 1 rfl rfl, ((hC.out |>.set 1 rfl |>.set 1 rfl) |>.set 2 rfl |>.set 2 rfl).drew.cell 6 0 rfl rfl, ((hC.out |>.set 1 rfl |>.set 1 rfl) |>.set 2 rfl |>.set 2 rfl).drew.cell 6 1 rfl rfl, trivial⟩)
                | (with_reducible refine And.intro (?_ : World.cell? (World.drew (World.setCell (World.setCell wr _ _) _ _)) _ = _) ?_; exact (hC.out |>.set 1 rfl |>.set 1 rfl).drew.cell 5 0 rfl rfl; exact ⟨(hC.out |>.set 1 rfl |>.set 1 rfl).drew.cell 5 1 rfl rfl, (hC.out |>.set 1 rfl |>.set 1 rfl).drew.cell 6 0 rfl rfl, (hC.out |>.set 1 rfl |>.set 1 rfl).drew.cell 6 1 rfl rfl, trivial⟩)
                | (with_reducible refine And.intro (?_ : World.cell? (World.drew wr) _ = _) ?_; exact hC.out.drew.cell 5 0 rfl rfl; exact ⟨hC.out.drew.cell 5 1 rfl rfl, hC.out.drew.cell 6 0 rfl rfl, hC.out.drew.cell 6 1 rfl rfl, trivial⟩))
              (first
                | (fail)
                | fail)
            go_wp2
            refine ret_st ((hC.out |>.set 1 rfl |>.set 1 rfl) |>.set 2 rfl |>.set 2 rfl).drew (v := .tuple #[.agg #[.slice a8 n8 c8, .bool m8], .agg #[.int .i64 s18, .slice a18 n18 c18]]) (fun hF => ?_) rfl (fun hF => ⟨_, _, _, _, _, _, _, _, rfl, by rw [HBIG.out]; exact hF.z 2 rfl, by rw [HBIG.out]; exact hF.n 3 rfl, hF.be⟩)
            · have e0 := hF.cell 1 0 rfl rfl
              have e1 := hF.cell 1 1 rfl rfl
              have e2 := hF.cell 2 0 rfl rfl
              have e3 := hF.cell 2 1 rfl rfl
              simp [results, Tryz.results13, go_sem, e0, e1, e2, e3]

end Go.Proofs.YtmfplelodnoicaaGreatDoor

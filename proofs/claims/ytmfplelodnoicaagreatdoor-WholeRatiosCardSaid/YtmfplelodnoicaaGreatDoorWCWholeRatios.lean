/- the law WholeRatios: for every input it returns true, and its input reads as before; the two tables of unicode/utf8 as the program's text lays them: the row, and the tied card -/
import Derived.Test.YtmfplelodnoicaaGreatDoorWB16
import Derived.Test.YtmfplelodnoicaaGreatDoorWRd1
import Derived.Test.YtmfplelodnoicaaGreatDoorTie
import Derived.Test.YtmfplelodnoicaaGreatDoorCards
namespace Go.Proofs.YtmfplelodnoicaaGreatDoor
open Go.ChangeShapes Go.WideShapes Go.RowKit

set_option maxRecDepth 100000 in
theorem wholeRatios_lifted (os : Os) (started : os.Started) (H : Type) (enc : TypeId × Value → H) :
    ReturnsInHanded {} Tryz.checked os 7 .any (fun w args => (Rows.wholeRatiosSpec.pre enc Tryz.prog Tryz.f7 [] false w args ∧ laidMetH Tryz.prog Rows.wholeRatiosRow.laid w) ∧ sizedMet enc Tryz.prog Tryz.f7 (OpenSpec.ofChange Rows.wholeRatiosSpec) false w args)
      (Rows.wholeRatiosSpec.post enc Tryz.prog Tryz.f7 false true false false) := by
  refine returnsInHanded_of_change_and (C := Tryz.checked) (X := fun w _ => laidMetH Tryz.prog Rows.wholeRatiosRow.laid w) (fun _ _ _ hh h => h.of_heap hh) own started (by kernel_rfl) Tryz.func7
    (ChangeSpec.witness_shaped (enc := enc) (C := Tryz.checked) (os := os) (X := fun w _ => laidMetH Tryz.prog Rows.wholeRatiosRow.laid w) false (World.laidAll Tryz.prog os Rows.wholeRatiosRow.laid) #[.agg #[.int .i64 0, .int .i64 0, .int .i64 0, .int .u8 0], .agg #[.int .i64 0, .int .i64 0, .int .i64 0, .int .u8 0], .int .i64 0, .int .i64 0] 8 (World.laidAll_os _ _ _)
      (World.shaped_of_ZipB (by kernel_rfl) (by kernel_rfl)) (by kernel_rfl) (by kernel_rfl) (by kernel_rfl)
      (by rw [MakeChecks.laidMetH_plain _ _ _ (by kernel_rfl)]; exact laidMet_laidAll _ (by kernel_rfl) (by kernel_rfl))) ?_
  intro W base args ds gs before hval0 hW _ _ _ _
  have hval : ∀ (j : Nat) t v, Tryz.f7.params[j]? = some t → args[j]? = some v → Value.okWide Tryz.prog W .any base t v := hval0
  have hW' := hW
  obtain ⟨p, q, hA0, hV, rfl, _, _⟩ := hW
  have hA : DataW.TrodAll enc Tryz.prog W 0 (fun _ => true) true Tryz.f7.params.toList args.toList ds p := hA0
  rw [Tryz.params7] at hA hval
  obtain ⟨v1, v2, v3, v4, d1, d2, d3, d4, p1, p2, p3, p4, rfl, rfl, rfl, h1, h2, h3, h4⟩ := open_4 hA
  obtain ⟨rfl, rfl⟩ := trodVars_none hV
  obtain ⟨A1, B1, C1, P1, rfl, rfl, rfl, hA1, hB1, hC1, hP1, r1⟩ := open_Big (hval 0 23 v1 rfl rfl) h1
  obtain ⟨A2, B2, C2, P2, rfl, rfl, rfl, hA2, hB2, hC2, hP2, r2⟩ := open_Big (hval 1 23 v2 rfl rfl) h2
  obtain ⟨N3, rfl, rfl, rfl, hN3, r3⟩ := open_i64 (hval 2 2 v3 rfl rfl) h3
  obtain ⟨N4, rfl, rfl, rfl, hN4, r4⟩ := open_i64 (hval 3 2 v4 rfl rfl) h4
  simp only [List.append_nil] at hW'
  refine (wholeRatios_walk A1 B1 C1 P1 A2 B2 C2 P2 N3 N4 W hA1 hB1 hC1 hP1 hA2 hB2 hC2 hP2 hN3 hN4).mono fun e W' ⟨he, hb⟩ => ?_
  subst he
  exact ⟨_, rfl, _, _, _, [], [], [], hW', trodAll_mk1 (shut_bool Tryz.underlying4 true), ⟨[], [], r1 _ _, ⟨[], [], r2 _ _, ⟨[], [], r3 _ _, ⟨[], [], r4 _ _, rfl, rfl⟩, rfl⟩, rfl⟩, rfl⟩, rfl, hb.frame _, fun h => by cases h⟩

theorem wholeRatios_holds : Rows.WholeRatiosSaid :=
  OpenClaim.holds_of_wide 7 Tryz.f7 rfl rfl rfl rfl rfl rfl rfl ⟨rfl, rfl, rfl, rfl, rfl⟩ rfl rfl rfl rfl rfl (by kernel_rfl) Tryz.func7 (by kernel_rfl)
    (of_decide_eq_true (by kernel_rfl)) (by unfold Func.isWrapper; first | (rw [if_pos (by decide +kernel)]; kernel_rfl) | (rw [if_neg (by decide +kernel)]; exact ⟨rfl, rfl⟩))
    (fun os started H enc _ => wholeRatios_lifted os started H enc)

theorem wholeRatios_card : Rows.WholeRatiosCardSaid :=
  Claim7.holds_tied_plain_at .later [] [.data, .pinned] true Rows.wholeRatiosCard.stood.harness false
    wholeRatios_holds (fun _ h => by cases h) (by kernel_rfl) (fun _ h => by cases h) wholeRatios_row_tie rfl ⟨rfl, rfl⟩ (by kernel_rfl) rfl
    (fun f fn hf hfn => by
      obtain rfl : f = 7 := Option.some.inj ((show Tryz.prog.funcNamed Rows.wholeRatiosRow.func = some 7 by kernel_rfl).symm.trans hf) |>.symm
      obtain rfl : fn = Tryz.f7 := (Option.some.inj (Tryz.func7.symm.trans hfn)).symm
      exact ⟨by kernel_rfl, fun j t ht => by
        rw [Tryz.params7] at ht
        have hm : t ∈ ([23, 23, 2, 2] : List Nat) := by simpa using Array.mem_of_getElem? ht
        have hall : (([23, 23, 2, 2] : List Nat).all fun u => !Tryz.prog.wantsStandIn u) = true := by kernel_rfl
        exact (show Tryz.prog.wantsStandIn t = false by simpa using List.all_eq_true.1 hall t hm)⟩)
    (by kernel_rfl)

end Go.Proofs.YtmfplelodnoicaaGreatDoor

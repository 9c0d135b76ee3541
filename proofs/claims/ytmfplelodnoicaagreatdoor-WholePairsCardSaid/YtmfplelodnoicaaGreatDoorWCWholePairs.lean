/- the law WholePairs: for every input it returns true, and its input reads as before; the two tables of unicode/utf8 as the program's text lays them: the row, and the tied card -/
import Derived.Test.YtmfplelodnoicaaGreatDoorWB14
import Derived.Test.YtmfplelodnoicaaGreatDoorWRd1
import Derived.Test.YtmfplelodnoicaaGreatDoorTie
import Derived.Test.YtmfplelodnoicaaGreatDoorCards
namespace Go.Proofs.YtmfplelodnoicaaGreatDoor
open Go.ChangeShapes Go.WideShapes Go.RowKit

set_option maxRecDepth 100000 in
theorem wholePairs_lifted (os : Os) (started : os.Started) (H : Type) (enc : TypeId × Value → H) :
    ReturnsInHanded {} Tryz.checked os 11 .any (fun w args => (Rows.wholePairsSpec.pre enc Tryz.prog Tryz.f11 [] false w args ∧ laidMetH Tryz.prog Rows.wholePairsRow.laid w) ∧ sizedMet enc Tryz.prog Tryz.f11 (OpenSpec.ofChange Rows.wholePairsSpec) false w args)
      (Rows.wholePairsSpec.post enc Tryz.prog Tryz.f11 false true false false) := by
  refine returnsInHanded_of_change_and (C := Tryz.checked) (X := fun w _ => laidMetH Tryz.prog Rows.wholePairsRow.laid w) (fun _ _ _ hh h => h.of_heap hh) own started (by kernel_rfl) Tryz.func11
    (ChangeSpec.witness_shaped (enc := enc) (C := Tryz.checked) (os := os) (X := fun w _ => laidMetH Tryz.prog Rows.wholePairsRow.laid w) false (World.laidAll Tryz.prog os Rows.wholePairsRow.laid) #[.agg #[.int .i64 0, .int .i64 0], .agg #[.int .i64 0, .int .i64 0], .agg #[.int .i64 0, .int .i64 0], .agg #[.int .i64 0, .int .i64 0], .agg #[.int .i64 0, .int .i64 0]] 8 (World.laidAll_os _ _ _)
      (World.shaped_of_ZipB (by kernel_rfl) (by kernel_rfl)) (by kernel_rfl) (by kernel_rfl) (by kernel_rfl)
      (by rw [MakeChecks.laidMetH_plain _ _ _ (by kernel_rfl)]; exact laidMet_laidAll _ (by kernel_rfl) (by kernel_rfl))) ?_
  intro W base args ds gs before hval0 hW _ _ _ _
  have hval : ∀ (j : Nat) t v, Tryz.f11.params[j]? = some t → args[j]? = some v → Value.okWide Tryz.prog W .any base t v := hval0
  have hW' := hW
  obtain ⟨p, q, hA0, hV, rfl, _, _⟩ := hW
  have hA : DataW.TrodAll enc Tryz.prog W 0 (fun _ => true) true Tryz.f11.params.toList args.toList ds p := hA0
  rw [Tryz.params11] at hA hval
  obtain ⟨v1, v2, v3, v4, v5, d1, d2, d3, d4, d5, p1, p2, p3, p4, p5, rfl, rfl, rfl, h1, h2, h3, h4, h5⟩ := open_5 hA
  obtain ⟨rfl, rfl⟩ := trodVars_none hV
  obtain ⟨N1, D1, rfl, rfl, rfl, hN1, hD1, r1⟩ := open_Num (hval 0 60 v1 rfl rfl) h1
  obtain ⟨N2, D2, rfl, rfl, rfl, hN2, hD2, r2⟩ := open_Num (hval 1 60 v2 rfl rfl) h2
  obtain ⟨N3, D3, rfl, rfl, rfl, hN3, hD3, r3⟩ := open_Num (hval 2 60 v3 rfl rfl) h3
  obtain ⟨N4, D4, rfl, rfl, rfl, hN4, hD4, r4⟩ := open_Num (hval 3 60 v4 rfl rfl) h4
  obtain ⟨N5, D5, rfl, rfl, rfl, hN5, hD5, r5⟩ := open_Num (hval 4 60 v5 rfl rfl) h5
  simp only [List.append_nil] at hW'
  refine (wholePairs_walk N1 D1 N2 D2 N3 D3 N4 D4 N5 D5 W hN1 hD1 hN2 hD2 hN3 hD3 hN4 hD4 hN5 hD5).mono fun e W' ⟨he, hb⟩ => ?_
  subst he
  exact ⟨_, rfl, _, _, _, [], [], [], hW', trodAll_mk1 (shut_bool Tryz.underlying4 true), ⟨[], [], r1 _ _, ⟨[], [], r2 _ _, ⟨[], [], r3 _ _, ⟨[], [], r4 _ _, ⟨[], [], r5 _ _, rfl, rfl⟩, rfl⟩, rfl⟩, rfl⟩, rfl⟩, rfl, hb.frame _, fun h => by cases h⟩

theorem wholePairs_holds : Rows.WholePairsSaid :=
  OpenClaim.holds_of_wide 11 Tryz.f11 rfl rfl rfl rfl rfl rfl rfl ⟨rfl, rfl, rfl, rfl, rfl⟩ rfl rfl rfl rfl rfl (by kernel_rfl) Tryz.func11 (by kernel_rfl)
    (of_decide_eq_true (by kernel_rfl)) (by unfold Func.isWrapper; first | (rw [if_pos (by decide +kernel)]; kernel_rfl) | (rw [if_neg (by decide +kernel)]; exact ⟨rfl, rfl⟩))
    (fun os started H enc _ => wholePairs_lifted os started H enc)

theorem wholePairs_card : Rows.WholePairsCardSaid :=
  Claim7.holds_tied_plain_at .later [] [.data, .pinned] true Rows.wholePairsCard.stood.harness false
    wholePairs_holds (fun _ h => by cases h) (by kernel_rfl) (fun _ h => by cases h) wholePairs_row_tie rfl ⟨rfl, rfl⟩ (by kernel_rfl) rfl
    (fun f fn hf hfn => by
      obtain rfl : f = 11 := Option.some.inj ((show Tryz.prog.funcNamed Rows.wholePairsRow.func = some 11 by kernel_rfl).symm.trans hf) |>.symm
      obtain rfl : fn = Tryz.f11 := (Option.some.inj (Tryz.func11.symm.trans hfn)).symm
      exact ⟨by kernel_rfl, fun j t ht => by
        rw [Tryz.params11] at ht
        have hm : t ∈ ([60, 60, 60, 60, 60] : List Nat) := by simpa using Array.mem_of_getElem? ht
        have hall : (([60, 60, 60, 60, 60] : List Nat).all fun u => !Tryz.prog.wantsStandIn u) = true := by kernel_rfl
        exact (show Tryz.prog.wantsStandIn t = false by simpa using List.all_eq_true.1 hall t hm)⟩)
    (by kernel_rfl)

end Go.Proofs.YtmfplelodnoicaaGreatDoor

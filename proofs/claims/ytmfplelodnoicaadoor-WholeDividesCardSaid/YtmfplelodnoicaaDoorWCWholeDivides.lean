/- the law WholeDivides: for every input it returns true, and its input reads as before; the two tables of unicode/utf8 as the program's text lays them: the row, and the tied card -/
import Derived.Test.YtmfplelodnoicaaDoorWB4
import Derived.Test.YtmfplelodnoicaaDoorWRd1
import Derived.Test.YtmfplelodnoicaaDoorTie
import Derived.Test.YtmfplelodnoicaaDoorCards
namespace Go.Proofs.YtmfplelodnoicaaDoor
open Go.ChangeShapes Go.WideShapes Go.RowKit

set_option maxRecDepth 100000 in
theorem wholeDivides_lifted (os : Os) (started : os.Started) (H : Type) (enc : TypeId × Value → H) :
    ReturnsInHanded {} Tryd.checked os 4 .any (fun w args => (Rows.wholeDividesSpec.pre enc Tryd.prog Tryd.f4 [] false w args ∧ laidMetH Tryd.prog Rows.wholeDividesRow.laid w) ∧ sizedMet enc Tryd.prog Tryd.f4 (OpenSpec.ofChange Rows.wholeDividesSpec) false w args)
      (Rows.wholeDividesSpec.post enc Tryd.prog Tryd.f4 false true false false) := by
  refine returnsInHanded_of_change_and (C := Tryd.checked) (X := fun w _ => laidMetH Tryd.prog Rows.wholeDividesRow.laid w) (fun _ _ _ hh h => h.of_heap hh) own started (by kernel_rfl) Tryd.func4
    (ChangeSpec.witness_shaped (enc := enc) (C := Tryd.checked) (os := os) (X := fun w _ => laidMetH Tryd.prog Rows.wholeDividesRow.laid w) false (World.laidAll Tryd.prog os Rows.wholeDividesRow.laid) #[.agg #[.int .i64 0, .int .i64 0, .int .i64 0, .int .u8 0], .agg #[.int .i64 0, .int .i64 0, .int .i64 0, .int .u8 0], .agg #[.int .i64 0, .int .i64 0, .int .i64 0, .int .u8 0]] 8 (World.laidAll_os _ _ _)
      (World.shaped_of_ZipB (by kernel_rfl) (by kernel_rfl)) (by kernel_rfl) (by kernel_rfl) (by kernel_rfl)
      (by rw [MakeChecks.laidMetH_plain _ _ _ (by kernel_rfl)]; exact laidMet_laidAll _ (by kernel_rfl) (by kernel_rfl))) ?_
  intro W base args ds gs before hval0 hW _ _ _ _
  have hval : ∀ (j : Nat) t v, Tryd.f4.params[j]? = some t → args[j]? = some v → Value.okWide Tryd.prog W .any base t v := hval0
  have hW' := hW
  obtain ⟨p, q, hA0, hV, rfl, _, _⟩ := hW
  have hA : DataW.TrodAll enc Tryd.prog W 0 (fun _ => true) true Tryd.f4.params.toList args.toList ds p := hA0
  rw [Tryd.params4] at hA hval
  obtain ⟨v1, v2, v3, d1, d2, d3, p1, p2, p3, rfl, rfl, rfl, h1, h2, h3⟩ := open_3 hA
  obtain ⟨rfl, rfl⟩ := trodVars_none hV
  obtain ⟨A1, B1, C1, P1, rfl, rfl, rfl, hA1, hB1, hC1, hP1, r1⟩ := open_Big (hval 0 23 v1 rfl rfl) h1
  obtain ⟨A2, B2, C2, P2, rfl, rfl, rfl, hA2, hB2, hC2, hP2, r2⟩ := open_Big (hval 1 23 v2 rfl rfl) h2
  obtain ⟨A3, B3, C3, P3, rfl, rfl, rfl, hA3, hB3, hC3, hP3, r3⟩ := open_Big (hval 2 23 v3 rfl rfl) h3
  simp only [List.append_nil] at hW'
  refine (wholeDivides_walk A1 B1 C1 P1 A2 B2 C2 P2 A3 B3 C3 P3 W hA1 hB1 hC1 hP1 hA2 hB2 hC2 hP2 hA3 hB3 hC3 hP3).mono fun e W' ⟨he, hb⟩ => ?_
  subst he
  exact ⟨_, rfl, _, _, _, [], [], [], hW', trodAll_mk1 (shut_bool Tryd.underlying4 true), ⟨[], [], r1 _ _, ⟨[], [], r2 _ _, ⟨[], [], r3 _ _, rfl, rfl⟩, rfl⟩, rfl⟩, rfl, hb.frame _, fun h => by cases h⟩

theorem wholeDivides_holds : Rows.WholeDividesSaid :=
  OpenClaim.holds_of_wide 4 Tryd.f4 rfl rfl rfl rfl rfl rfl rfl ⟨rfl, rfl, rfl, rfl, rfl⟩ rfl rfl rfl rfl rfl (by kernel_rfl) Tryd.func4 (by kernel_rfl)
    (of_decide_eq_true (by kernel_rfl)) (by unfold Func.isWrapper; first | (rw [if_pos (by decide +kernel)]; kernel_rfl) | (rw [if_neg (by decide +kernel)]; exact ⟨rfl, rfl⟩))
    (fun os started H enc _ => wholeDivides_lifted os started H enc)

theorem wholeDivides_card : Rows.WholeDividesCardSaid :=
  Claim7.holds_tied_plain_at .later [] [.data, .pinned] true Rows.wholeDividesCard.stood.harness false
    wholeDivides_holds (fun _ h => by cases h) (by kernel_rfl) (fun _ h => by cases h) wholeDivides_row_tie rfl ⟨rfl, rfl⟩ (by kernel_rfl) rfl
    (fun f fn hf hfn => by
      obtain rfl : f = 4 := Option.some.inj ((show Tryd.prog.funcNamed Rows.wholeDividesRow.func = some 4 by kernel_rfl).symm.trans hf) |>.symm
      obtain rfl : fn = Tryd.f4 := (Option.some.inj (Tryd.func4.symm.trans hfn)).symm
      exact ⟨by kernel_rfl, fun j t ht => by
        rw [Tryd.params4] at ht
        have hm : t ∈ ([23, 23, 23] : List Nat) := by simpa using Array.mem_of_getElem? ht
        have hall : (([23, 23, 23] : List Nat).all fun u => !Tryd.prog.wantsStandIn u) = true := by kernel_rfl
        exact (show Tryd.prog.wantsStandIn t = false by simpa using List.all_eq_true.1 hall t hm)⟩)
    (by kernel_rfl)

end Go.Proofs.YtmfplelodnoicaaDoor

/- the law GangCovers: for every input it returns true, and its input reads as before -/
import Derived.Test.YtchignmnnbepnaaGreatJ53
import Derived.Test.YtchignmnnbepnaaGreatJ50
namespace Go.Proofs.YtchignmnnbepnaaGreat
open Go.ChangeShapes Go.WideShapes Go.RowKit

set_option maxRecDepth 100000 in
theorem gangCovers_lifted (os : Os) (started : os.Started) (H : Type) (enc : TypeId × Value → H) :
    ReturnsInHanded {} Tryz.checked os 4 .any (Rows.gangCoversSpec.pre6 enc Tryz.prog Tryz.f4 [] false) (Rows.gangCoversSpec.post enc Tryz.prog Tryz.f4 false true false false) := by
  refine returnsInHanded_of_change (C := Tryz.checked) own started (by kernel_rfl) Tryz.func4
    (ChangeSpec.witness6 (enc := enc) (C := Tryz.checked) false ⟨#[], #[.agg #[.slice none 0 0, .slice none 0 0], .string ⟨#[]⟩, .int .i64 0, .slice none 0 0, .agg #[.int .i64 0, .int .i64 0, .int .i64 0, .int .i64 0]], []⟩ 8 (by kernel_rfl) (by kernel_rfl) (by kernel_rfl) (by kernel_rfl)) ?_
  intro W base args ds gs before hval0 hW _ _
  have hval : ∀ (j : Nat) t v, Tryz.f4.params[j]? = some t → args[j]? = some v → Value.okWide Tryz.prog W .any base t v := hval0
  have hW' := hW
  obtain ⟨p, q, hA0, hV, rfl, _, _⟩ := hW
  have hA : DataW.TrodAll enc Tryz.prog W 0 (fun _ => true) true Tryz.f4.params.toList args.toList ds p := hA0
  have hlt := DataW.TrodAll.lt hA0
  rw [Tryz.params4] at hA hval
  obtain ⟨v1, v2, v3, v4, v5, d1, d2, d3, d4, d5, p1, p2, p3, p4, p5, rfl, rfl, rfl, h1, h2, h3, h4, h5⟩ := open_5 hA
  obtain ⟨rfl, rfl⟩ := trodVars_none hV
  have k1 := h1
  obtain ⟨sa1, wa1, S1, L1, sc1, wc1, rfl, hS1, hL1⟩ := open_Plan (hval 0 25 v1 rfl rfl) h1
  have k2 := h2
  obtain ⟨s2, rfl, m2⟩ := open_Text (hval 1 9 v2 rfl rfl) h2
  have k3 := h3
  obtain ⟨N3, rfl, rfl, rfl, hN3, r3⟩ := open_int_ (hval 2 3 v3 rfl rfl) h3
  have k4 := h4
  obtain ⟨a4, l4, c4, rfl, hs4, hb4⟩ := open_Ints (hval 3 31 v4 rfl rfl) h4
  have k5 := h5
  obtain ⟨q0, q1, q2, q3, rfl⟩ := open_Prices (hval 4 28 v5 rfl rfl) h5
  simp only [List.append_nil] at hW'
  refine (gangCovers_walk W sa1 wa1 S1 L1 sc1 wc1 s2 N3 a4 _ c4 l4 q0 q1 q2 q3 hS1 hL1 hs4).mono fun e W' ⟨he, hb⟩ => ?_
  subst he
  exact ⟨_, rfl, _, _, _, _, _, _, hW', trodAll_mk1 (shut_bool Tryz.underlying4 true), ⟨_, _, Below.trod laidOut (by kernel_rfl) (of_decide_eq_true (by kernel_rfl)) k1 hb (fun x hx => hlt x (by simp [hx])), ⟨_, _, Below.trod laidOut (by kernel_rfl) (of_decide_eq_true (by kernel_rfl)) k2 hb (fun x hx => hlt x (by simp [hx])), ⟨[], _, r3 _ _, ⟨_, _, Below.trod laidOut (by kernel_rfl) (of_decide_eq_true (by kernel_rfl)) k4 hb (fun x hx => hlt x (by simp [hx])), ⟨_, _, Below.trod laidOut (by kernel_rfl) (of_decide_eq_true (by kernel_rfl)) k5 hb (fun x hx => hlt x (by simp [hx])), rfl, rfl⟩, rfl⟩, rfl⟩, rfl⟩, rfl⟩, rfl, hb.frame _, fun h => by cases h⟩

theorem gangCovers_holds : Rows.GangCoversSaid :=
  OpenClaim.holds_of_wide 4 Tryz.f4 rfl rfl rfl rfl rfl rfl rfl ⟨rfl, rfl, rfl, rfl, rfl⟩ rfl rfl rfl rfl rfl (by kernel_rfl) Tryz.func4 (by kernel_rfl)
    (of_decide_eq_true (by kernel_rfl)) (by unfold Func.isWrapper; first | (rw [if_pos (by decide +kernel)]; kernel_rfl) | (rw [if_neg (by decide +kernel)]; exact ⟨rfl, rfl⟩))
    (fun os started H enc _ => gangCovers_lifted os started H enc)
end Go.Proofs.YtchignmnnbepnaaGreat

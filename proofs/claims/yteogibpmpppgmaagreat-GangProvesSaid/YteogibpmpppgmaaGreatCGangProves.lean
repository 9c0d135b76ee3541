/- the law GangProves: for every input it returns true, and its input reads as before -/
import Derived.Test.YteogibpmpppgmaaGreatK25
import Derived.Test.YteogibpmpppgmaaGreatRe1
namespace Go.Proofs.YteogibpmpppgmaaGreat
open Go.ChangeShapes Go.WideShapes Go.RowKit

set_option maxRecDepth 100000 in
theorem gangProves_lifted (os : Os) (started : os.Started) (H : Type) (enc : TypeId × Value → H) :
    ReturnsInHanded {} Tryz.checked os 4 .any (Rows.gangProvesSpec.pre6 enc Tryz.prog Tryz.f4 [] false) (Rows.gangProvesSpec.post enc Tryz.prog Tryz.f4 false true false false) := by
  refine returnsInHanded_of_change (C := Tryz.checked) own started (by kernel_rfl) Tryz.func4
    (ChangeSpec.witness6 (enc := enc) (C := Tryz.checked) false ⟨#[], #[.int .i64 0, .slice none 0 0, .slice none 0 0, .int .i64 0, .slice none 0 0], []⟩ 8 (by kernel_rfl) (by kernel_rfl) (by kernel_rfl) (by kernel_rfl)) ?_
  intro W base args ds gs before hval0 hW _ _
  have hval : ∀ (j : Nat) t v, Tryz.f4.params[j]? = some t → args[j]? = some v → Value.okWide Tryz.prog W .any base t v := hval0
  have hW' := hW
  obtain ⟨p, q, hA0, hV, rfl, _, _⟩ := hW
  have hA : DataW.TrodAll enc Tryz.prog W 0 (fun _ => true) true Tryz.f4.params.toList args.toList ds p := hA0
  have hlt := DataW.TrodAll.lt hA0
  rw [Tryz.params4] at hA hval
  obtain ⟨v1, v2, v3, v4, v5, d1, d2, d3, d4, d5, p1, p2, p3, p4, p5, rfl, rfl, rfl, h1, h2, h3, h4, h5⟩ := open_5 hA
  obtain ⟨rfl, rfl⟩ := trodVars_none hV
  obtain ⟨N1, rfl, rfl, rfl, hN1, r1⟩ := open_int_ (hval 0 3 v1 rfl rfl) h1
  have k2 := h2
  obtain ⟨a2, l2, c2, rfl, hs2, hb2⟩ := open_Ints (hval 1 22 v2 rfl rfl) h2
  have k3 := h3
  obtain ⟨a3, l3, c3, rfl, hs3, hb3⟩ := open_Wallers (hval 2 23 v3 rfl rfl) h3
  obtain ⟨N4, rfl, rfl, rfl, hN4, r4⟩ := open_int_ (hval 3 3 v4 rfl rfl) h4
  have k5 := h5
  obtain ⟨a5, l5, c5, rfl, hs5, hb5⟩ := open_Stints (hval 4 35 v5 rfl rfl) h5
  simp only [List.append_nil] at hW'
  refine (gangProves_walk W a2 a3 a5 _ c2 _ c3 _ c5 N1 N4 l2 l3 l5 hs2 hs3 hs5 (fun x hx => (hb3 x hx).1)).mono fun e W' ⟨he, hb⟩ => ?_
  subst he
  exact ⟨_, rfl, _, _, _, _, _, _, hW', trodAll_mk1 (shut_bool Tryz.underlying4 true), ⟨[], _, r1 _ _, ⟨_, _, Below.trod laidOut (by kernel_rfl) (of_decide_eq_true (by kernel_rfl)) k2 hb (fun x hx => hlt x (by simp [hx])), ⟨_, _, Below.trod laidOut (by kernel_rfl) (of_decide_eq_true (by kernel_rfl)) k3 hb (fun x hx => hlt x (by simp [hx])), ⟨[], _, r4 _ _, ⟨_, _, Below.trod laidOut (by kernel_rfl) (of_decide_eq_true (by kernel_rfl)) k5 hb (fun x hx => hlt x (by simp [hx])), rfl, rfl⟩, rfl⟩, rfl⟩, rfl⟩, rfl⟩, rfl, hb.frame _, fun h => by cases h⟩

theorem gangProves_holds : Rows.GangProvesSaid :=
  OpenClaim.holds_of_wide 4 Tryz.f4 rfl rfl rfl rfl rfl rfl rfl ⟨rfl, rfl, rfl, rfl, rfl⟩ rfl rfl rfl rfl rfl (by kernel_rfl) Tryz.func4 (by kernel_rfl)
    (of_decide_eq_true (by kernel_rfl)) (by unfold Func.isWrapper; first | (rw [if_pos (by decide +kernel)]; kernel_rfl) | (rw [if_neg (by decide +kernel)]; exact ⟨rfl, rfl⟩))
    (fun os started H enc _ => gangProves_lifted os started H enc)
end Go.Proofs.YteogibpmpppgmaaGreat

/- the law GangDays: for every input it returns true, and its input reads as before -/
import Derived.Test.YteogibpmpppgmaaGreatK22
import Derived.Test.YteogibpmpppgmaaGreatRe1
namespace Go.Proofs.YteogibpmpppgmaaGreat
open Go.ChangeShapes Go.WideShapes Go.RowKit

set_option maxRecDepth 100000 in
theorem gangDays_lifted (os : Os) (started : os.Started) (H : Type) (enc : TypeId × Value → H) :
    ReturnsInHanded {} Tryz.checked os 3 .any (Rows.gangDaysSpec.pre6 enc Tryz.prog Tryz.f3 [] false) (Rows.gangDaysSpec.post enc Tryz.prog Tryz.f3 false true false false) := by
  refine returnsInHanded_of_change (C := Tryz.checked) own started (by kernel_rfl) Tryz.func3
    (ChangeSpec.witness6 (enc := enc) (C := Tryz.checked) false ⟨#[], #[.int .i64 0, .slice none 0 0, .slice none 0 0], []⟩ 8 (by kernel_rfl) (by kernel_rfl) (by kernel_rfl) (by kernel_rfl)) ?_
  intro W base args ds gs before hval0 hW _ _
  have hval : ∀ (j : Nat) t v, Tryz.f3.params[j]? = some t → args[j]? = some v → Value.okWide Tryz.prog W .any base t v := hval0
  have hW' := hW
  obtain ⟨p, q, hA0, hV, rfl, _, _⟩ := hW
  have hA : DataW.TrodAll enc Tryz.prog W 0 (fun _ => true) true Tryz.f3.params.toList args.toList ds p := hA0
  have hlt := DataW.TrodAll.lt hA0
  rw [Tryz.params3] at hA hval
  obtain ⟨v1, v2, v3, d1, d2, d3, p1, p2, p3, rfl, rfl, rfl, h1, h2, h3⟩ := open_3 hA
  obtain ⟨rfl, rfl⟩ := trodVars_none hV
  obtain ⟨N1, rfl, rfl, rfl, hN1, r1⟩ := open_int_ (hval 0 3 v1 rfl rfl) h1
  have k2 := h2
  obtain ⟨a2, l2, c2, rfl, hs2, hb2⟩ := open_Ints (hval 1 22 v2 rfl rfl) h2
  have k3 := h3
  obtain ⟨a3, l3, c3, rfl, hs3, hb3⟩ := open_Wallers (hval 2 23 v3 rfl rfl) h3
  simp only [List.append_nil] at hW'
  refine (gangDays_walk W a2 a3 _ c2 _ c3 N1 l2 l3 hs2 hs3 (fun x hx => (hb3 x hx).1)).mono fun e W' ⟨he, hb⟩ => ?_
  subst he
  exact ⟨_, rfl, _, _, _, _, _, _, hW', trodAll_mk1 (shut_bool Tryz.underlying4 true), ⟨[], _, r1 _ _, ⟨_, _, Below.trod laidOut (by kernel_rfl) (of_decide_eq_true (by kernel_rfl)) k2 hb (fun x hx => hlt x (by simp [hx])), ⟨_, _, Below.trod laidOut (by kernel_rfl) (of_decide_eq_true (by kernel_rfl)) k3 hb (fun x hx => hlt x (by simp [hx])), rfl, rfl⟩, rfl⟩, rfl⟩, rfl, hb.frame _, fun h => by cases h⟩

theorem gangDays_holds : Rows.GangDaysSaid :=
  OpenClaim.holds_of_wide 3 Tryz.f3 rfl rfl rfl rfl rfl rfl rfl ⟨rfl, rfl, rfl, rfl, rfl⟩ rfl rfl rfl rfl rfl (by kernel_rfl) Tryz.func3 (by kernel_rfl)
    (of_decide_eq_true (by kernel_rfl)) (by unfold Func.isWrapper; first | (rw [if_pos (by decide +kernel)]; kernel_rfl) | (rw [if_neg (by decide +kernel)]; exact ⟨rfl, rfl⟩))
    (fun os started H enc _ => gangDays_lifted os started H enc)
end Go.Proofs.YteogibpmpppgmaaGreat

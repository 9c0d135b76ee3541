/- the law GangFair: for every input it returns true, and its input reads as before -/
import Derived.Test.YteogibpmpppgmaaK8
import Derived.Test.YteogibpmpppgmaaRe1
namespace Go.Proofs.Yteogibpmpppgmaa
open Go.ChangeShapes Go.WideShapes Go.RowKit

set_option maxRecDepth 100000 in
theorem gangFair_lifted (os : Os) (started : os.Started) (H : Type) (enc : TypeId × Value → H) :
    ReturnsInHanded {} Try.checked os 6 .any (Rows.gangFairSpec.pre6 enc Try.prog Try.f6 [] false) (Rows.gangFairSpec.post enc Try.prog Try.f6 false true false false) := by
  refine returnsInHanded_of_change (C := Try.checked) own started (by kernel_rfl) Try.func6
    (ChangeSpec.witness6 (enc := enc) (C := Try.checked) false ⟨#[], #[.int .i64 0, .slice none 0 0], []⟩ 8 (by kernel_rfl) (by kernel_rfl) (by kernel_rfl) (by kernel_rfl)) ?_
  intro W base args ds gs before hval0 hW _ _
  have hval : ∀ (j : Nat) t v, Try.f6.params[j]? = some t → args[j]? = some v → Value.okWide Try.prog W .any base t v := hval0
  have hW' := hW
  obtain ⟨p, q, hA0, hV, rfl, _, _⟩ := hW
  have hA : DataW.TrodAll enc Try.prog W 0 (fun _ => true) true Try.f6.params.toList args.toList ds p := hA0
  have hlt := DataW.TrodAll.lt hA0
  rw [Try.params6] at hA hval
  obtain ⟨v1, v2, d1, d2, p1, p2, rfl, rfl, rfl, h1, h2⟩ := open_2 hA
  obtain ⟨rfl, rfl⟩ := trodVars_none hV
  obtain ⟨N1, rfl, rfl, rfl, hN1, r1⟩ := open_int_ (hval 0 3 v1 rfl rfl) h1
  have k2 := h2
  obtain ⟨a2, l2, c2, rfl, hs2, hb2⟩ := open_Ints (hval 1 22 v2 rfl rfl) h2
  simp only [List.append_nil] at hW'
  refine (gangFair_walk W N1 a2 _ c2 l2 hs2 hN1).mono fun e W' ⟨he, hb⟩ => ?_
  subst he
  exact ⟨_, rfl, _, _, _, _, _, _, hW', trodAll_mk1 (shut_bool Try.underlying4 true), ⟨[], _, r1 _ _, ⟨_, _, Below.trod laidOut (by kernel_rfl) (of_decide_eq_true (by kernel_rfl)) k2 hb (fun x hx => hlt x (by simp [hx])), rfl, rfl⟩, rfl⟩, rfl, hb.frame _, fun h => by cases h⟩

theorem gangFair_holds : Rows.GangFairSaid :=
  OpenClaim.holds_of_wide 6 Try.f6 rfl rfl rfl rfl rfl rfl rfl ⟨rfl, rfl, rfl, rfl, rfl⟩ rfl rfl rfl rfl rfl (by kernel_rfl) Try.func6 (by kernel_rfl)
    (of_decide_eq_true (by kernel_rfl)) (by unfold Func.isWrapper; first | (rw [if_pos (by decide +kernel)]; kernel_rfl) | (rw [if_neg (by decide +kernel)]; exact ⟨rfl, rfl⟩))
    (fun os started H enc _ => gangFair_lifted os started H enc)
end Go.Proofs.Yteogibpmpppgmaa

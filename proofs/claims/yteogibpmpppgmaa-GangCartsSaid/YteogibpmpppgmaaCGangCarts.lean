/- the law GangCarts: for every input it returns true, and its input reads as before -/
import Derived.Test.YteogibpmpppgmaaK3
import Derived.Test.YteogibpmpppgmaaRe1
namespace Go.Proofs.Yteogibpmpppgmaa
open Go.ChangeShapes Go.WideShapes Go.RowKit

set_option maxRecDepth 100000 in
theorem gangCarts_lifted (os : Os) (started : os.Started) (H : Type) (enc : TypeId × Value → H) :
    ReturnsInHanded {} Try.checked os 8 .any (Rows.gangCartsSpec.pre6 enc Try.prog Try.f8 [] false) (Rows.gangCartsSpec.post enc Try.prog Try.f8 false true false false) := by
  refine returnsInHanded_of_change (C := Try.checked) own started (by kernel_rfl) Try.func8
    (ChangeSpec.witness6 (enc := enc) (C := Try.checked) false ⟨#[], #[.slice none 0 0, .int .u16 0, .int .u16 0], []⟩ 8 (by kernel_rfl) (by kernel_rfl) (by kernel_rfl) (by kernel_rfl)) ?_
  intro W base args ds gs before hval0 hW _ _
  have hval : ∀ (j : Nat) t v, Try.f8.params[j]? = some t → args[j]? = some v → Value.okWide Try.prog W .any base t v := hval0
  have hW' := hW
  obtain ⟨p, q, hA0, hV, rfl, _, _⟩ := hW
  have hA : DataW.TrodAll enc Try.prog W 0 (fun _ => true) true Try.f8.params.toList args.toList ds p := hA0
  have hlt := DataW.TrodAll.lt hA0
  rw [Try.params8] at hA hval
  obtain ⟨v1, v2, v3, d1, d2, d3, p1, p2, p3, rfl, rfl, rfl, h1, h2, h3⟩ := open_3 hA
  obtain ⟨rfl, rfl⟩ := trodVars_none hV
  have k1 := h1
  obtain ⟨a1, l1, c1, rfl, hs1, hb1⟩ := open_Loads (hval 0 31 v1 rfl rfl) h1
  obtain ⟨N2, rfl, rfl, rfl, hN2, r2⟩ := open_u16 (hval 1 64 v2 rfl rfl) h2
  obtain ⟨N3, rfl, rfl, rfl, hN3, r3⟩ := open_u16 (hval 2 64 v3 rfl rfl) h3
  simp only [List.append_nil] at hW'
  refine (gangCarts_walk W a1 _ c1 l1 N2 N3 hs1 hN2 hN3).mono fun e W' ⟨he, hb⟩ => ?_
  subst he
  exact ⟨_, rfl, _, _, _, _, _, _, hW', trodAll_mk1 (shut_bool Try.underlying4 true), ⟨_, _, Below.trod laidOut (by kernel_rfl) (of_decide_eq_true (by kernel_rfl)) k1 hb (fun x hx => hlt x (by simp [hx])), ⟨[], _, r2 _ _, ⟨[], _, r3 _ _, rfl, rfl⟩, rfl⟩, rfl⟩, rfl, hb.frame _, fun h => by cases h⟩

theorem gangCarts_holds : Rows.GangCartsSaid :=
  OpenClaim.holds_of_wide 8 Try.f8 rfl rfl rfl rfl rfl rfl rfl ⟨rfl, rfl, rfl, rfl, rfl⟩ rfl rfl rfl rfl rfl (by kernel_rfl) Try.func8 (by kernel_rfl)
    (of_decide_eq_true (by kernel_rfl)) (by unfold Func.isWrapper; first | (rw [if_pos (by decide +kernel)]; kernel_rfl) | (rw [if_neg (by decide +kernel)]; exact ⟨rfl, rfl⟩))
    (fun os started H enc _ => gangCarts_lifted os started H enc)
end Go.Proofs.Yteogibpmpppgmaa

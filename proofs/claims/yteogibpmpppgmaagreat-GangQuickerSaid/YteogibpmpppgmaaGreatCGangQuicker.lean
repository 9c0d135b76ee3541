/- the law GangQuicker: for every input it returns true, and its input reads as before -/
import Derived.Test.YteogibpmpppgmaaGreatK26
import Derived.Test.YteogibpmpppgmaaGreatRe1
namespace Go.Proofs.YteogibpmpppgmaaGreat
open Go.ChangeShapes Go.WideShapes Go.RowKit Go.Joins
section
variable {H : Type} {enc : TypeId × Value → H} {W : World} {P : Program} {base' : Nat} {spare : Nat → Bool} {held : Bool} {args : Array Value} {ds : List (DataW H)} {ps : List MemPlace} {t1 t2 t3 t4 t5 : TypeId}

theorem open_6 {t6 : TypeId} (h : DataW.TrodAll enc P W base' spare held [t1, t2, t3, t4, t5, t6] args.toList ds ps) :
    ∃ v1 v2 v3 v4 v5 v6 d1 d2 d3 d4 d5 d6 p1 p2 p3 p4 p5 p6, args = #[v1, v2, v3, v4, v5, v6] ∧ ds = [d1, d2, d3, d4, d5, d6] ∧ ps = p1 ++ p2 ++ p3 ++ p4 ++ p5 ++ p6 ∧ DataW.Trod enc P W base' spare held t1 v1 d1 p1 ∧ DataW.Trod enc P W base' spare held t2 v2 d2 p2 ∧ DataW.Trod enc P W base' spare held t3 v3 d3 p3 ∧ DataW.Trod enc P W base' spare held t4 v4 d4 p4 ∧ DataW.Trod enc P W base' spare held t5 v5 d5 p5 ∧ DataW.Trod enc P W base' spare held t6 v6 d6 p6 := by
  obtain ⟨v, vs, d, ds', p, q, hargs, rfl, rfl, hd, hrest⟩ := trodAll_cons h
  obtain ⟨v', vs', d', ds'', p', q', rfl, rfl, rfl, hd', hrest'⟩ := trodAll_cons hrest
  obtain ⟨v'', vs'', d'', ds''', p'', q'', rfl, rfl, rfl, hd'', hrest''⟩ := trodAll_cons hrest'
  obtain ⟨v3, vs3, d3, ds3, p3, q3, rfl, rfl, rfl, hd3, hrest3⟩ := trodAll_cons hrest''
  obtain ⟨v4, vs4, d4, ds4, p4, q4, rfl, rfl, rfl, hd4, hrest4⟩ := trodAll_cons hrest3
  obtain ⟨v5, vs5, d5, ds5, p5, q5, rfl, rfl, rfl, hd5, hrest5⟩ := trodAll_cons hrest4
  obtain ⟨rfl, rfl, rfl⟩ := trodAll_nil hrest5
  exact ⟨v, v', v'', v3, v4, v5, d, d', d'', d3, d4, d5, p, p', p'', p3, p4, p5, by cases args; simp_all, rfl, by simp, hd, hd', hd'', hd3, hd4, hd5⟩
end

set_option maxRecDepth 100000 in
theorem gangQuicker_lifted (os : Os) (started : os.Started) (H : Type) (enc : TypeId × Value → H) :
    ReturnsInHanded {} Tryz.checked os 5 .any (Rows.gangQuickerSpec.pre6 enc Tryz.prog Tryz.f5 [] false) (Rows.gangQuickerSpec.post enc Tryz.prog Tryz.f5 false true false false) := by
  refine returnsInHanded_of_change (C := Tryz.checked) own started (by kernel_rfl) Tryz.func5
    (ChangeSpec.witness6 (enc := enc) (C := Tryz.checked) false ⟨#[], #[.int .i64 0, .slice none 0 0, .slice none 0 0, .slice none 0 0, .int .u8 0, .int .u8 0], []⟩ 8 (by kernel_rfl) (by kernel_rfl) (by kernel_rfl) (by kernel_rfl)) ?_
  intro W base args ds gs before hval0 hW _ _
  have hval : ∀ (j : Nat) t v, Tryz.f5.params[j]? = some t → args[j]? = some v → Value.okWide Tryz.prog W .any base t v := hval0
  have hW' := hW
  obtain ⟨p, q, hA0, hV, rfl, _, _⟩ := hW
  have hA : DataW.TrodAll enc Tryz.prog W 0 (fun _ => true) true Tryz.f5.params.toList args.toList ds p := hA0
  have hlt := DataW.TrodAll.lt hA0
  rw [Tryz.params5] at hA hval
  obtain ⟨v1, v2, v3, v4, v5, v6, d1, d2, d3, d4, d5, d6, p1, p2, p3, p4, p5, p6, rfl, rfl, rfl, h1, h2, h3, h4, h5, h6⟩ := open_6 hA
  obtain ⟨rfl, rfl⟩ := trodVars_none hV
  obtain ⟨N1, rfl, rfl, rfl, hN1, r1⟩ := open_int_ (hval 0 3 v1 rfl rfl) h1
  have k2 := h2
  obtain ⟨a2, l2, c2, rfl, hs2, hb2⟩ := open_Ints (hval 1 22 v2 rfl rfl) h2
  have k3 := h3
  obtain ⟨a3, l3, c3, rfl, hs3, hb3⟩ := open_Wallers (hval 2 23 v3 rfl rfl) h3
  have k4 := h4
  obtain ⟨a4, l4, c4, rfl, hs4, hb4⟩ := open_Stints (hval 3 35 v4 rfl rfl) h4
  obtain ⟨N5, rfl, rfl, rfl, hN5, r5⟩ := open_u8 (hval 4 5 v5 rfl rfl) h5
  obtain ⟨N6, rfl, rfl, rfl, hN6, r6⟩ := open_u8 (hval 5 5 v6 rfl rfl) h6
  simp only [List.append_nil] at hW'
  refine (gangQuicker_walk W a2 a3 a4 _ c2 _ c3 _ c4 N1 N5 N6 l2 l3 l4 hs2 hs3 hs4 (fun x hx => (hb3 x hx).1) hN5 hN6).mono fun e W' ⟨he, hb⟩ => ?_
  subst he
  exact ⟨_, rfl, _, _, _, _, _, _, hW', trodAll_mk1 (shut_bool Tryz.underlying4 true), ⟨[], _, r1 _ _, ⟨_, _, Below.trod laidOut (by kernel_rfl) (of_decide_eq_true (by kernel_rfl)) k2 hb (fun x hx => hlt x (by simp [hx])), ⟨_, _, Below.trod laidOut (by kernel_rfl) (of_decide_eq_true (by kernel_rfl)) k3 hb (fun x hx => hlt x (by simp [hx])), ⟨_, _, Below.trod laidOut (by kernel_rfl) (of_decide_eq_true (by kernel_rfl)) k4 hb (fun x hx => hlt x (by simp [hx])), ⟨[], _, r5 _ _, ⟨[], _, r6 _ _, rfl, rfl⟩, rfl⟩, rfl⟩, rfl⟩, rfl⟩, rfl⟩, rfl, hb.frame _, fun h => by cases h⟩

theorem gangQuicker_holds : Rows.GangQuickerSaid :=
  OpenClaim.holds_of_wide 5 Tryz.f5 rfl rfl rfl rfl rfl rfl rfl ⟨rfl, rfl, rfl, rfl, rfl⟩ rfl rfl rfl rfl rfl (by kernel_rfl) Tryz.func5 (by kernel_rfl)
    (of_decide_eq_true (by kernel_rfl)) (by unfold Func.isWrapper; first | (rw [if_pos (by decide +kernel)]; kernel_rfl) | (rw [if_neg (by decide +kernel)]; exact ⟨rfl, rfl⟩))
    (fun os started H enc _ => gangQuicker_lifted os started H enc)
end Go.Proofs.YteogibpmpppgmaaGreat

/- the laws' arguments, as data -/
import Derived.Test.YtnimnoodpnhodaaDoorRows
import Derived.Lib.SmallJoins
import Derived.ProofKit
import Derived.WalkKit
import Derived.Lay
import Derived.LaidOnce
import Derived.SevenTiedAt
namespace Go.Proofs.YtnimnoodpnhodaaDoor
open Go.ChangeShapes Go.WideShapes Go.RowKit Go.Joins

theorem own : ownKnob Tryd.prog.godebug = none := by kernel_rfl

section
variable {H : Type} {enc : TypeId × Value → H} {W : World} {base : Nat}

theorem int_wf {k : IntKind} {n : Int} (h : (Lit.int k n).wf = true) : k.min ≤ n ∧ n ≤ k.max := by simpa [Lit.wf] using h
theorem i64_wf {n : Int} (h : (Lit.int .i64 n).wf = true) : -9223372036854775808 ≤ n ∧ n < 9223372036854775808 := by
  have := int_wf h
  simp [IntKind.min, IntKind.max, IntKind.signed, IntKind.bits] at this
  omega
theorem u8_wf {n : Int} (h : (Lit.int .u8 n).wf = true) : 0 ≤ n ∧ n < 256 := by
  have := int_wf h
  simp [IntKind.min, IntKind.max, IntKind.signed, IntKind.bits] at this
  omega

set_option maxRecDepth 100000 in
theorem open_i64 {v : Value} {d : DataW H} {p : List MemPlace} (hv : Value.okWide Tryd.prog W .any base 2 v) (h : DataW.Trod enc Tryd.prog W 0 (fun _ => true) true 2 v d p) :
    ∃ A : Int, v = .int .i64 A ∧ d = .lit (.int .i64 A) ∧ p = [] ∧ (-9223372036854775808 ≤ A ∧ A < 9223372036854775808) ∧
      (∀ (W' : World) (sp : Nat → Bool), DataW.Trod enc Tryd.prog W' 0 sp true 2 v d []) := by
  obtain ⟨a, rfl, rfl, rfl, wa⟩ := open_int Tryd.underlying2 hv h
  exact ⟨a, rfl, rfl, rfl, i64_wf wa, fun W' sp => shut_int Tryd.underlying2 wa⟩

variable {P : Program} {base' : Nat} {spare : Nat → Bool} {held : Bool} {args : Array Value} {ds : List (DataW H)} {ps : List MemPlace} {t1 t2 t3 t4 t5 : TypeId}
theorem open_1 (h : DataW.TrodAll enc P W base' spare held [t1] args.toList ds ps) :
    ∃ v1 d1 p1, args = #[v1] ∧ ds = [d1] ∧ ps = p1 ∧ DataW.Trod enc P W base' spare held t1 v1 d1 p1 := by
  obtain ⟨v, d, h1, h2, h3⟩ := trodAll_one h
  exact ⟨v, d, _, h1, h2, rfl, h3⟩
theorem open_2 (h : DataW.TrodAll enc P W base' spare held [t1, t2] args.toList ds ps) :
    ∃ v1 v2 d1 d2 p1 p2, args = #[v1, v2] ∧ ds = [d1, d2] ∧ ps = p1 ++ p2 ∧ DataW.Trod enc P W base' spare held t1 v1 d1 p1 ∧ DataW.Trod enc P W base' spare held t2 v2 d2 p2 := by
  obtain ⟨v, v', d, d', p, p', h1, h2, h3, h4⟩ := trodAll_two h
  exact ⟨v, v', d, d', p, p', h1, h2, h3, h4⟩
theorem open_3 (h : DataW.TrodAll enc P W base' spare held [t1, t2, t3] args.toList ds ps) :
    ∃ v1 v2 v3 d1 d2 d3 p1 p2 p3, args = #[v1, v2, v3] ∧ ds = [d1, d2, d3] ∧ ps = p1 ++ p2 ++ p3 ∧ DataW.Trod enc P W base' spare held t1 v1 d1 p1 ∧ DataW.Trod enc P W base' spare held t2 v2 d2 p2 ∧ DataW.Trod enc P W base' spare held t3 v3 d3 p3 := trodAll_three h
theorem open_4 (h : DataW.TrodAll enc P W base' spare held [t1, t2, t3, t4] args.toList ds ps) :
    ∃ v1 v2 v3 v4 d1 d2 d3 d4 p1 p2 p3 p4, args = #[v1, v2, v3, v4] ∧ ds = [d1, d2, d3, d4] ∧ ps = p1 ++ p2 ++ p3 ++ p4 ∧ DataW.Trod enc P W base' spare held t1 v1 d1 p1 ∧ DataW.Trod enc P W base' spare held t2 v2 d2 p2 ∧ DataW.Trod enc P W base' spare held t3 v3 d3 p3 ∧ DataW.Trod enc P W base' spare held t4 v4 d4 p4 := by
  obtain ⟨v, vs, d, ds', p, q, hargs, rfl, rfl, hd, hrest⟩ := trodAll_cons h
  obtain ⟨v', vs', d', ds'', p', q', rfl, rfl, rfl, hd', hrest'⟩ := trodAll_cons hrest
  obtain ⟨v'', vs'', d'', ds''', p'', q'', rfl, rfl, rfl, hd'', hrest''⟩ := trodAll_cons hrest'
  obtain ⟨v3, vs3, d3, ds3, p3, q3, rfl, rfl, rfl, hd3, hrest3⟩ := trodAll_cons hrest''
  obtain ⟨rfl, rfl, rfl⟩ := trodAll_nil hrest3
  exact ⟨v, v', v'', v3, d, d', d'', d3, p, p', p'', p3, by cases args; simp_all, rfl, by simp, hd, hd', hd'', hd3⟩
theorem open_5 (h : DataW.TrodAll enc P W base' spare held [t1, t2, t3, t4, t5] args.toList ds ps) :
    ∃ v1 v2 v3 v4 v5 d1 d2 d3 d4 d5 p1 p2 p3 p4 p5, args = #[v1, v2, v3, v4, v5] ∧ ds = [d1, d2, d3, d4, d5] ∧ ps = p1 ++ p2 ++ p3 ++ p4 ++ p5 ∧ DataW.Trod enc P W base' spare held t1 v1 d1 p1 ∧ DataW.Trod enc P W base' spare held t2 v2 d2 p2 ∧ DataW.Trod enc P W base' spare held t3 v3 d3 p3 ∧ DataW.Trod enc P W base' spare held t4 v4 d4 p4 ∧ DataW.Trod enc P W base' spare held t5 v5 d5 p5 := by
  obtain ⟨v, vs, d, ds', p, q, hargs, rfl, rfl, hd, hrest⟩ := trodAll_cons h
  obtain ⟨v', vs', d', ds'', p', q', rfl, rfl, rfl, hd', hrest'⟩ := trodAll_cons hrest
  obtain ⟨v'', vs'', d'', ds''', p'', q'', rfl, rfl, rfl, hd'', hrest''⟩ := trodAll_cons hrest'
  obtain ⟨v3, vs3, d3, ds3, p3, q3, rfl, rfl, rfl, hd3, hrest3⟩ := trodAll_cons hrest''
  obtain ⟨v4, vs4, d4, ds4, p4, q4, rfl, rfl, rfl, hd4, hrest4⟩ := trodAll_cons hrest3
  obtain ⟨rfl, rfl, rfl⟩ := trodAll_nil hrest4
  exact ⟨v, v', v'', v3, v4, d, d', d'', d3, d4, p, p', p'', p3, p4, by cases args; simp_all, rfl, by simp, hd, hd', hd'', hd3, hd4⟩
end

end Go.Proofs.YtnimnoodpnhodaaDoor

/- the laws' arguments, as data -/
/- an argument that is a string, opened -/
import Derived.Test.YtmfplelodnoicaaGreatDoorRows
import Derived.Lib.SmallJoins
import Derived.ProofKit
import Derived.WalkKit
import Derived.Lay
import Derived.LaidOnce
import Derived.SevenTiedAt
import Derived.ChangeMaps5
namespace Go.Proofs.YtmfplelodnoicaaGreatDoor
open Go.ChangeShapes Go.WideShapes Go.RowKit Go.Joins

theorem own : ownKnob Tryz.prog.godebug = none := by kernel_rfl

section
variable {H : Type} {enc : TypeId × Value → H} {W : World} {base : Nat}

theorem int_wf {k : IntKind} {n : Int} (h : (Lit.int k n).wf = true) : k.min ≤ n ∧ n ≤ k.max := by simpa [Lit.wf] using h
theorem i64_wf {n : Int} (h : (Lit.int .i64 n).wf = true) : -9223372036854775808 ≤ n ∧ n < 9223372036854775808 := by
  have := int_wf h
  simp [IntKind.min, IntKind.max, IntKind.signed, IntKind.bits] at this
  omega
theorem u8_wf {n : Int} (h : (Lit.int .u8 n).wf = true) : 0 ≤ n ∧ n < 256 := by
  have := int_wf h
  simp [IntKind.min, IntKind.max, IntKind.signed, IntKind.bits] at this
  omega

theorem big_cells : Tryz.prog.cellsOf 23 = 4 := by kernel_rfl
set_option maxRecDepth 100000 in
theorem open_Big {v : Value} {d : DataW H} {p : List MemPlace} (hv : Value.okWide Tryz.prog W .any base 23 v) (h : DataW.Trod enc Tryz.prog W 0 (fun _ => true) true 23 v d p) :
    ∃ A B C P : Int, v = .agg #[.int .i64 A, .int .i64 B, .int .i64 C, .int .u8 P] ∧ d = .agg [.lit (.int .i64 A), .lit (.int .i64 B), .lit (.int .i64 C), .lit (.int .u8 P)] ∧ p = [] ∧
      (-9223372036854775808 ≤ A ∧ A < 9223372036854775808) ∧ (-9223372036854775808 ≤ B ∧ B < 9223372036854775808) ∧ (-9223372036854775808 ≤ C ∧ C < 9223372036854775808) ∧ (0 ≤ P ∧ P < 256) ∧
      (∀ (W' : World) (sp : Nat → Bool), DataW.Trod enc Tryz.prog W' 0 sp true 23 v d []) := by
  obtain ⟨c0, c1, c2, c3, y0, y1, y2, y3, m, rfl, rfl, rfl, h0, h1, h2, h3⟩ := open_agg4 Tryz.underlying23 (by kernel_rfl) big_cells hv h
  obtain ⟨a, e0, rfl, wa⟩ := DataW.trod_int Tryz.underlying2 h0
  obtain ⟨b, e1, rfl, wb⟩ := DataW.trod_int Tryz.underlying2 h1
  obtain ⟨c, e2, rfl, wc⟩ := DataW.trod_int Tryz.underlying2 h2
  obtain ⟨q, e3, rfl, wq⟩ := DataW.trod_int Tryz.underlying5 h3
  simp at e0 e1 e2 e3
  subst e0 e1 e2 e3
  refine ⟨a, b, c, q, rfl, rfl, rfl, i64_wf wa, i64_wf wb, i64_wf wc, u8_wf wq, fun W' sp => ?_⟩
  exact shut_agg4 (y0 := (.lit (.int .i64 a), [])) (y1 := (.lit (.int .i64 b), [])) (y2 := (.lit (.int .i64 c), [])) (y3 := (.lit (.int .u8 q), [])) Tryz.underlying23 (by kernel_rfl) big_cells
    ⟨1, by simp [DataW.trod, Tryz.underlying2, wa]⟩ ⟨1, by simp [DataW.trod, Tryz.underlying2, wb]⟩ ⟨1, by simp [DataW.trod, Tryz.underlying2, wc]⟩ ⟨1, by simp [DataW.trod, Tryz.underlying5, wq]⟩

theorem num_cells : Tryz.prog.cellsOf 60 = 2 := by kernel_rfl
set_option maxRecDepth 100000 in
theorem open_Num {v : Value} {d : DataW H} {p : List MemPlace} (hv : Value.okWide Tryz.prog W .any base 60 v) (h : DataW.Trod enc Tryz.prog W 0 (fun _ => true) true 60 v d p) :
    ∃ A B : Int, v = .agg #[.int .i64 A, .int .i64 B] ∧ d = .agg [.lit (.int .i64 A), .lit (.int .i64 B)] ∧ p = [] ∧
      (-9223372036854775808 ≤ A ∧ A < 9223372036854775808) ∧ (-9223372036854775808 ≤ B ∧ B < 9223372036854775808) ∧
      (∀ (W' : World) (sp : Nat → Bool), DataW.Trod enc Tryz.prog W' 0 sp true 60 v d []) := by
  obtain ⟨c0, c1, y0, y1, m, rfl, rfl, rfl, h0, h1⟩ := open_agg2 Tryz.underlying60 (by kernel_rfl) num_cells hv h
  obtain ⟨a, e0, rfl, wa⟩ := DataW.trod_int Tryz.underlying2 h0
  obtain ⟨b, e1, rfl, wb⟩ := DataW.trod_int Tryz.underlying2 h1
  simp at e0 e1
  subst e0 e1
  refine ⟨a, b, rfl, rfl, rfl, i64_wf wa, i64_wf wb, fun W' sp => ?_⟩
  exact shut_agg2 (y0 := (.lit (.int .i64 a), [])) (y1 := (.lit (.int .i64 b), [])) Tryz.underlying60 (by kernel_rfl) num_cells
    ⟨1, by simp [DataW.trod, Tryz.underlying2, wa]⟩ ⟨1, by simp [DataW.trod, Tryz.underlying2, wb]⟩

set_option maxRecDepth 100000 in
theorem open_i64 {v : Value} {d : DataW H} {p : List MemPlace} (hv : Value.okWide Tryz.prog W .any base 2 v) (h : DataW.Trod enc Tryz.prog W 0 (fun _ => true) true 2 v d p) :
    ∃ A : Int, v = .int .i64 A ∧ d = .lit (.int .i64 A) ∧ p = [] ∧ (-9223372036854775808 ≤ A ∧ A < 9223372036854775808) ∧
      (∀ (W' : World) (sp : Nat → Bool), DataW.Trod enc Tryz.prog W' 0 sp true 2 v d []) := by
  obtain ⟨a, rfl, rfl, rfl, wa⟩ := open_int Tryz.underlying2 hv h
  exact ⟨a, rfl, rfl, rfl, i64_wf wa, fun W' sp => shut_int Tryz.underlying2 wa⟩

variable {P : Program} {base' : Nat} {spare : Nat → Bool} {held : Bool} {args : Array Value} {ds : List (DataW H)} {ps : List MemPlace} {t1 t2 t3 t4 t5 : TypeId}
theorem open_1 (h : DataW.TrodAll enc P W base' spare held [t1] args.toList ds ps) :
    ∃ v1 d1 p1, args = #[v1] ∧ ds = [d1] ∧ ps = p1 ∧ DataW.Trod enc P W base' spare held t1 v1 d1 p1 := by
  obtain ⟨v, d, h1, h2, h3⟩ := trodAll_one h
  exact ⟨v, d, _, h1, h2, rfl, h3⟩
theorem open_2 (h : DataW.TrodAll enc P W base' spare held [t1, t2] args.toList ds ps) :
    ∃ v1 v2 d1 d2 p1 p2, args = #[v1, v2] ∧ ds = [d1, d2] ∧ ps = p1 ++ p2 ∧ DataW.Trod enc P W base' spare held t1 v1 d1 p1 ∧ DataW.Trod enc P W base' spare held t2 v2 d2 p2 := by
  obtain ⟨v, v', d, d', p, p', h1, h2, h3, h4⟩ := trodAll_two h
  exact ⟨v, v', d, d', p, p', h1, h2, h3, h4⟩
theorem open_3 (h : DataW.TrodAll enc P W base' spare held [t1, t2, t3] args.toList ds ps) :
    ∃ v1 v2 v3 d1 d2 d3 p1 p2 p3, args = #[v1, v2, v3] ∧ ds = [d1, d2, d3] ∧ ps = p1 ++ p2 ++ p3 ∧ DataW.Trod enc P W base' spare held t1 v1 d1 p1 ∧ DataW.Trod enc P W base' spare held t2 v2 d2 p2 ∧ DataW.Trod enc P W base' spare held t3 v3 d3 p3 := trodAll_three h
theorem open_4 (h : DataW.TrodAll enc P W base' spare held [t1, t2, t3, t4] args.toList ds ps) :
    ∃ v1 v2 v3 v4 d1 d2 d3 d4 p1 p2 p3 p4, args = #[v1, v2, v3, v4] ∧ ds = [d1, d2, d3, d4] ∧ ps = p1 ++ p2 ++ p3 ++ p4 ∧ DataW.Trod enc P W base' spare held t1 v1 d1 p1 ∧ DataW.Trod enc P W base' spare held t2 v2 d2 p2 ∧ DataW.Trod enc P W base' spare held t3 v3 d3 p3 ∧ DataW.Trod enc P W base' spare held t4 v4 d4 p4 := by
  obtain ⟨v, vs, d, ds', p, q, hargs, rfl, rfl, hd, hrest⟩ := trodAll_cons h
  obtain ⟨v', vs', d', ds'', p', q', rfl, rfl, rfl, hd', hrest'⟩ := trodAll_cons hrest
  obtain ⟨v'', vs'', d'', ds''', p'', q'', rfl, rfl, rfl, hd'', hrest''⟩ := trodAll_cons hrest'
  obtain ⟨v3, vs3, d3, ds3, p3, q3, rfl, rfl, rfl, hd3, hrest3⟩ := trodAll_cons hrest''
  obtain ⟨rfl, rfl, rfl⟩ := trodAll_nil hrest3
  exact ⟨v, v', v'', v3, d, d', d'', d3, p, p', p'', p3, by cases args; simp_all, rfl, by simp, hd, hd', hd'', hd3⟩
theorem open_5 (h : DataW.TrodAll enc P W base' spare held [t1, t2, t3, t4, t5] args.toList ds ps) :
    ∃ v1 v2 v3 v4 v5 d1 d2 d3 d4 d5 p1 p2 p3 p4 p5, args = #[v1, v2, v3, v4, v5] ∧ ds = [d1, d2, d3, d4, d5] ∧ ps = p1 ++ p2 ++ p3 ++ p4 ++ p5 ∧ DataW.Trod enc P W base' spare held t1 v1 d1 p1 ∧ DataW.Trod enc P W base' spare held t2 v2 d2 p2 ∧ DataW.Trod enc P W base' spare held t3 v3 d3 p3 ∧ DataW.Trod enc P W base' spare held t4 v4 d4 p4 ∧ DataW.Trod enc P W base' spare held t5 v5 d5 p5 := by
  obtain ⟨v, vs, d, ds', p, q, hargs, rfl, rfl, hd, hrest⟩ := trodAll_cons h
  obtain ⟨v', vs', d', ds'', p', q', rfl, rfl, rfl, hd', hrest'⟩ := trodAll_cons hrest
  obtain ⟨v'', vs'', d'', ds''', p'', q'', rfl, rfl, rfl, hd'', hrest''⟩ := trodAll_cons hrest'
  obtain ⟨v3, vs3, d3, ds3, p3, q3, rfl, rfl, rfl, hd3, hrest3⟩ := trodAll_cons hrest''
  obtain ⟨v4, vs4, d4, ds4, p4, q4, rfl, rfl, rfl, hd4, hrest4⟩ := trodAll_cons hrest3
  obtain ⟨rfl, rfl, rfl⟩ := trodAll_nil hrest4
  exact ⟨v, v', v'', v3, v4, d, d', d'', d3, d4, p, p', p'', p3, p4, by cases args; simp_all, rfl, by simp, hd, hd', hd'', hd3, hd4⟩
end

end Go.Proofs.YtmfplelodnoicaaGreatDoor
namespace Go.Proofs.YtmfplelodnoicaaGreatDoor
open Go.ChangeShapes Go.WideShapes Go.RowKit Go.Joins

section
variable {H : Type} {enc : TypeId × Value → H} {W : World} {base : Nat}
set_option maxRecDepth 100000 in
theorem open_str {v : Value} {d : DataW H} {p : List MemPlace} (hv : Value.okWide Tryz.prog W .any base 9 v) (h : DataW.Trod enc Tryz.prog W 0 (fun _ => true) true 9 v d p) :
    ∃ S : ByteArray, v = .string S ∧ d = .lit (.string S.data.toList) ∧ p = [] ∧ S.size ≤ maxLen ∧
      (∀ (W' : World) (sp : Nat → Bool), DataW.Trod enc Tryz.prog W' 0 sp true 9 v d []) := by
  obtain ⟨s, rfl, rfl, rfl, hs⟩ := Go.ChangeMaps.open_string Tryz.underlying9 hv h
  exact ⟨s, rfl, rfl, rfl, hs, fun W' sp => Go.ChangeMaps.shut_string Tryz.underlying9 hs⟩
end

end Go.Proofs.YtmfplelodnoicaaGreatDoor

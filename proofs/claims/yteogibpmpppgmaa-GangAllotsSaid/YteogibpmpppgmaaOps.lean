/- make and a box over the states of a walk -/
import Derived.Test.YteogibpmpppgmaaMarks
import Derived.Deep.OwnRows
import Derived.Laws.Tables
namespace Go.Proofs.Yteogibpmpppgmaa
open Go.RowKit

section
variable {w W : World} {bs : List (Nat × Array Value × TypeId)} {os : List Rw} {rs : List (World → Prop)} {P : Program}
theorem made_list (z : Value) (n : Nat) : (madeCells #[z] n).toList = List.replicate n z := by
  unfold madeCells
  refine List.ext_getElem (by simp) fun i h1 h2 => ?_
  simp [Nat.mod_one]
theorem op_make_sy {o : Oper} {a : Act} {K : Act → World → Prop} {Q : Exit → Act → World → Prop} (h : Sy w W bs os rs) (t e : TypeId) (l c : Operand) (ho : o.op = .makeSlice t l c) (z : Value) (hz : z.cells = #[z]) (bytes : Nat) (n : Nat)
    (hl : a.eval l = .int .i64 (n : Int)) (hc : a.eval c = .int .i64 (n : Int)) (ht : P.underlying t = some (.slice e)) (hinfo : (P.info? e).map (fun i => (i.zero, i.size, i.bytes)) = some (some z, 1, bytes)) (hn : n ≤ 1000000) (hb : bytes ≤ 1000)
    (hK : ∀ g V, Sy w V bs (os ++ [⟨.slice (some ⟨g, 0, none⟩) n n, e, 1, n, List.replicate n z⟩]) rs → K (a.put o.dst (.slice (some ⟨g, 0, none⟩) n n)) V) : Oper.wp P o a W K Q := by
  have hbn : bytes * n ≤ 1000 * 1000000 := Nat.mul_le_mul hb hn
  have hr := run_make_row' (P := P) t e z bytes ht hinfo hz .i64 .i64 n (by omega) (by omega) W
  unfold Oper.wp execOp
  simp only [ho, hl, hc, hr, Sem.run_bind, Sem.run_pure, Result.andThen_ok]
  have h1 := h.onew W.heap.size (madeCells #[z] n) e 1 n rfl (by omega) (by rw [size_madeCells, Nat.mul_one])
  rw [made_list] at h1
  exact hK _ _ h1
theorem op_box_sy {o : Oper} {a : Act} {K : Act → World → Prop} {Q : Exit → Act → World → Prop} (h : Sy w W bs os rs) (t : TypeId) (x : Operand) (ho : o.op = .box t x) (cells : Array Value) (hx : (a.eval x).cells = cells)
    (hK : ∀ b V, Sy w V (bs ++ [(b, cells, t)]) os rs → K (a.put o.dst (.pointer (some ⟨b, 0, none⟩))) V) : Oper.wp P o a W K Q := by
  subst hx
  unfold Oper.wp execOp
  simp only [ho, Sem.run_bind, Instr.box, newVar, newRow, run_newObj_alloc, Sem.run_pure, Result.andThen_ok]
  exact hK _ _ (h.al W.heap.size _ t rfl)
theorem Sy.oswap {x y : Rw} (h : Sy w W bs [x, y] rs) : Sy w W bs [y, x] rs :=
  have e : ∀ b, b ∈ ownOf bs [y, x] → b ∈ ownOf bs [x, y] := fun b hb => by
    rcases mem_own.1 hb with h1 | ⟨o, ho, h2⟩
    · exact mem_own.2 (.inl h1)
    · exact mem_own.2 (.inr ⟨o, by simp only [List.mem_cons, List.not_mem_nil, or_false] at ho ⊢; exact ho.symm, h2⟩)
  h.step rfl rfl rfl (Away.refl _ _) (fun b hb => .inl (e b hb)) h.bx (fun o ho => h.ow o (by simp only [List.mem_cons, List.not_mem_nil, or_false] at ho ⊢; exact ho.symm)) (by
    have hi := h.inc
    unfold ownOf at hi ⊢
    exact ((List.Perm.append_left _ ((List.Perm.swap y x []).filterMap _)).nodup_iff).1 hi)
end
end Go.Proofs.Yteogibpmpppgmaa

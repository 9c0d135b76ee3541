/- a function leaves with marks of finished ranges over functions; array variables read and stored back -/
import Derived.Test.YteogibpmpppgmaaAway
import Derived.RangeFuncLeaves
import Derived.TacticsIn
import Derived.RangeFuncRecord
import Derived.Laws.Rows
namespace Go.Proofs.Yteogibpmpppgmaa
open Go.RowKit

def marksOf (ds : List Nat) : List Deferred := ds.map fun D => { target := .collected D, args := #[] }
/-- so many blocks shut, nothing else -/
structure Shuts (ds : List Nat) (A B : World) : Prop where
  os : B.os = A.os
  tape : B.tape = A.tape
  output : B.output = A.output
  size : B.heap.size = A.heap.size
  at_ : ∀ k, k ∉ ds → B.heap[k]? = A.heap[k]?
theorem leaves_marks {n : Nat} {P : Program} {fn : Func} {tmps : Array Value} {R : Ending → World → Prop} : ∀ (ds : List Nat) (w : World), ds.Nodup → (∀ D ∈ ds, w.heap[D]? = some (.deferred (some []))) →
    (∀ w', Shuts ds w w' → ∃ v, (results fn tmps).run P w' = .ok v w' ∧ R (.returned v) w') → LeavesInM Fence.wide n P fn tmps R (marksOf ds) .returning w
  | [], w, _, _, h => h w ⟨rfl, rfl, rfl, rfl, fun _ _ => rfl⟩
  | D :: ds, w, hn, hd, h => ⟨by simp, .inl ⟨D, _, rfl, run_takeDeferred (hd D (List.mem_cons_self ..)), leaves_marks ds _ (List.nodup_cons.1 hn).2
      (fun E hE => (World.putObj_heap_other (fun (e : E = D) => (List.nodup_cons.1 hn).1 (by rw [← e]; exact hE))).trans (hd E (List.mem_cons_of_mem _ hE)))
      (fun w' hs => h w' ⟨hs.os, hs.tape, hs.output, hs.size.trans (by simp [World.putObj]), fun k hk => (hs.at_ k (fun hm => hk (List.mem_cons_of_mem _ hm))).trans
        (World.putObj_heap_other (fun e => hk (by rw [e]; exact List.mem_cons_self ..)))⟩)⟩⟩
theorem wpIn_load_row {n : Nat} {P : Program} {o : Oper} {a : Act} {w : World} {K : Act → World → Prop} {Q : Exit → Act → World → Prop} (ty : TypeId) (x : Operand) (ho : o.op = .load ty x)
    (g : Nat) (hx : a.eval x = .pointer (some ⟨g, 0, none⟩)) (t : TypeId) (cs : Array Value) (fr : Nat × Nat) (d : TypeDesc) (hg : w.heap[g]? = some (.cells cs t fr))
    (hu : P.underlying ty = some d) (hd : (match d with | .struct _ | .array _ _ => true | _ => false) = true) (hi : (P.info? ty).map (·.size) = some cs.size)
    (h : K (a.put o.dst (.agg cs)) w) : o.wpIn Fence.wide n P a w K Q := by
  refine ⟨fun f _ => trivial, ?_⟩
  rw [Fence.wide_round, Oper.semAt_none]
  unfold execOp
  simp only [ho, hx, Instr.loadAt, Instr.sureAddr, Sem.run_bind, Sem.run_pure, Result.andThen_ok, run_loadVar_row w g t ty cs fr d hg hu hd hi]
  exact h
theorem wpIn_store_row {n : Nat} {P : Program} {o : Oper} {a : Act} {w : World} {K : Act → World → Prop} {Q : Exit → Act → World → Prop} (ty : TypeId) (x y : Operand) (ho : o.op = .store ty x y)
    (g : Nat) (cells : Array Value) (hx : a.eval x = .pointer (some ⟨g, 0, none⟩)) (hy : a.eval y = .agg cells)
    (t : TypeId) (old : Array Value) (hg : w.heap[g]? = some (.cells old t (0, 0))) (hi : (P.info? ty).map (·.size) = some cells.size)
    (hold : old.size = cells.size) (h1 : cells.all (·.oneCell') = true)
    (h : K (a.put o.dst undef) (w.setRow g cells)) : o.wpIn Fence.wide n P a w K Q := by
  refine ⟨fun f _ => trivial, ?_⟩
  rw [Fence.wide_round, Oper.semAt_none]
  unfold execOp
  simp only [ho, hx, hy, Instr.storeAt, Instr.sureAddr, Sem.run_bind, Sem.run_pure, Result.andThen_ok, run_storeVar_row w g t ty old cells hg hi hold h1]
  exact h
theorem setRow_size {W : World} {g : Nat} {cs : Array Value} : (W.setRow g cs).heap.size = W.heap.size := by simp [World.setRow]
theorem setRow_ne {W : World} {g k : Nat} {cs : Array Value} (h : k ≠ g) : (W.setRow g cs).heap[k]? = W.heap[k]? := by
  simp only [World.setRow, Array.getElem?_modify]
  rw [if_neg (fun e => h e.symm)]
theorem setRow_at {W : World} {g : Nat} {cs old : Array Value} {t : TypeId} (h : W.heap[g]? = some (.cells old t (0, 0))) : (W.setRow g cs).heap[g]? = some (.cells cs t (0, 0)) := by
  simp [World.setRow, Array.getElem?_modify, h]
/-- what was read is stored back: no block has turned -/
theorem setRow_same {W : World} {g : Nat} {cs : Array Value} {t : TypeId} (h : W.heap[g]? = some (.cells cs t (0, 0))) (k : Nat) : (W.setRow g cs).heap[k]? = W.heap[k]? := by
  by_cases e : k = g
  · subst e; rw [setRow_at h, h]
  · exact setRow_ne e
theorem results_cell2_row {P : Program} {fn : Func} {p q : Tmp} {ty ty' : TypeId} (h : fn.results = #[.cell p ty, .cell q ty']) (tmps : Array Value) (w : World) (g g' : Nat) (t t' : TypeId) (cs cs' : Array Value) (fr fr' : Nat × Nat) (d d' : TypeDesc)
    (hp : tmps.getD p undef = .pointer (some ⟨g, 0, none⟩)) (hg : w.heap[g]? = some (.cells cs t fr)) (hq : tmps.getD q undef = .pointer (some ⟨g', 0, none⟩)) (hg' : w.heap[g']? = some (.cells cs' t' fr'))
    (hu : P.underlying ty = some d) (hd : (match d with | .struct _ | .array _ _ => true | _ => false) = true) (hi : (P.info? ty).map (·.size) = some cs.size)
    (hu' : P.underlying ty' = some d') (hd' : (match d' with | .struct _ | .array _ _ => true | _ => false) = true) (hi' : (P.info? ty').map (·.size) = some cs'.size) :
    (results fn tmps).run P w = .ok (.tuple #[.agg cs, .agg cs']) w := by
  have hp' : tmps[p]?.getD undef = .pointer (some ⟨g, 0, none⟩) := by simpa using hp
  have hq' : tmps[q]?.getD undef = .pointer (some ⟨g', 0, none⟩) := by simpa using hq
  simp [results, h, hp', hq', asAddr, run_loadVar_row w g t ty cs fr d hg hu hd hi, run_loadVar_row w g' t' ty' cs' fr' d' hg' hu' hd' hi']
section
variable {w W : World} {bs : List (Nat × Array Value × TypeId)} {os : List Rw} {rs : List (World → Prop)}
/-- a box stored whole -/
theorem Sy.setAll (h : Sy w W bs os rs) (i : Nat) {b : Nat} {cs : Array Value} {t : TypeId} (cs' : Array Value) (hx : bs[i]? = some (b, cs, t)) : Sy w (W.setRow b cs') (bs.set i (b, cs', t)) os rs := by
  obtain ⟨hi, hx'⟩ := List.getElem?_eq_some_iff.1 hx
  obtain ⟨h1, h2⟩ := h.at_ i hx
  have hmap : (bs.set i (b, cs', t)).map (fun x => x.1) = bs.map (fun x => x.1) := by
    rw [List.map_set]
    refine List.ext_getElem? fun k => ?_
    rw [List.getElem?_set]
    by_cases e : i = k
    · subst e
      rw [if_pos rfl, List.length_map, if_pos hi, List.getElem?_map, hx]; rfl
    · rw [if_neg e]
  have hown : ownOf (bs.set i (b, cs', t)) os = ownOf bs os := by unfold ownOf; rw [hmap]
  have hbo : b ∈ ownOf bs os := mem_own.2 (.inl ⟨_, List.mem_of_getElem? hx, rfl⟩)
  have hnd := h.inc
  unfold ownOf at hnd
  rw [List.nodup_append] at hnd
  refine h.step rfl rfl rfl ⟨by rw [setRow_size]; exact Nat.le_refl _, fun c _ hn => setRow_ne (fun e => hn (by rw [e]; exact hbo))⟩ (fun c hc => .inl (by rw [hown] at hc; exact hc)) (fun x hxm => ?_) (fun o ho => ?_) (by rw [hown]; exact h.inc)
  · obtain ⟨k, hkl, hk2⟩ := List.getElem_of_mem hxm
    rw [List.length_set] at hkl
    rw [List.getElem_set] at hk2
    by_cases e : i = k
    · rw [if_pos e] at hk2
      subst hk2
      exact ⟨h1, setRow_at h2⟩
    · rw [if_neg e] at hk2
      subst hk2
      obtain ⟨g1, g2⟩ := h.bx bs[k] (List.getElem_mem hkl)
      exact ⟨g1, (setRow_ne (fun e' => nodup_idx hnd.1 hx (List.getElem?_eq_getElem hkl) e e'.symm)).trans g2⟩
  · refine World.ownsRow.kept (row := some b) (h.ow o ho) ⟨rfl, rfl, rfl, by rw [setRow_size]; exact Nat.le_refl _, fun c _ hn => setRow_ne (fun e => hn (by rw [e]))⟩ (.inr fun e => ?_)
    exact hnd.2.2 b (List.mem_map.2 ⟨_, List.mem_of_getElem? hx, rfl⟩) b (List.mem_filterMap.2 ⟨o, ho, e⟩) rfl
end
end Go.Proofs.Yteogibpmpppgmaa

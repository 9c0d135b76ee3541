/- reading where only some blocks may have been written -/
/- a function leaves with marks of finished ranges over functions; array variables read and stored back -/
/- structs: whole loads and stores of many cells, as single steps of a walk -/
import Derived.Test.YtchignmnnbepnaaGreatJ1
import Derived.Shelf.GgSortFunc.Insertion
import Derived.Lib.OwnBridge
import Derived.RangeFuncLeaves
import Derived.TacticsIn
import Derived.RangeFuncRecord
import Derived.Laws.Rows
import Derived.Deep.MidRow
import Derived.Deep.RegionHeld3
namespace Go.Proofs.YtchignmnnbepnaaGreat
open Go.RowKit

section
variable {w W V : World} {bs : List (Nat × Array Value × TypeId)} {os : List Rw} {rs : List (World → Prop)} {own : List Nat}
theorem away_cell (h : Away own W V) {b k : Nat} (hb : b < W.heap.size) (hn : b ∉ own) : V.cell? ⟨b, k, none⟩ = W.cell? ⟨b, k, none⟩ := World.cell?_of_block (a := ⟨b, k, none⟩) (h.2 b hb hn)
theorem Sx.away {size n c : Nat} {a : Option Addr} {xs : List Value} (hs : Sx size W a n c xs) (h : Away own W V) (hn : ∀ g o, a = some ⟨g, o, none⟩ → g ∉ own) : Sx size V a n c xs := by
  refine ⟨hs.1, hs.2.1, hs.2.2.1, fun h0 => ?_⟩
  obtain ⟨g, o, e, hg, hc⟩ := hs.2.2.2 h0
  exact ⟨g, o, e, Nat.lt_of_lt_of_le hg h.1, fun k u hk => (away_cell h hg (hn g o e)).trans (hc k u hk)⟩
theorem away_sort {α : Type} [Inhabited α] (enc : α → Value) (W : World) (g m : Nat) (dk : Array α) (os : Array Obj) : Away [g] W (sortWorld enc W g 0 m dk os) := by
  refine ⟨by show W.heap.size ≤ ((Go.Sort.putRow enc (Go.Sort.ahead W m) g 0 dk).heap ++ os).size; rw [Array.size_append, Go.Sort.size_putRow]; show W.heap.size ≤ W.heap.size + _; omega, fun b hb hn => ?_⟩
  have hne : b ≠ g := fun e => hn (by rw [e]; exact List.mem_singleton.2 rfl)
  show ((Go.Sort.putRow enc (Go.Sort.ahead W m) g 0 dk).heap ++ os)[b]? = _
  rw [Array.getElem?_append_left (by rw [Go.Sort.size_putRow]; exact hb)]
  show (W.heap.modify g _)[b]? = _
  rw [Array.getElem?_modify, if_neg (fun e => hne e.symm)]
/-- a row of one's own that the library has sorted -/
theorem Sy.sorted {α : Type} [Inhabited α] {enc : α → Value} (h : Sy w W bs os rs) (i : Nat) {g n c : Nat} {e : TypeId} {zs ys : List α} (hi : os[i]? = some ⟨.slice (some ⟨g, 0, none⟩) n c, e, 1, n, zs.map enc⟩) (hy : ys.length = n) (m : Nat) (os' : Array Obj) :
    Sy w (sortWorld enc W g 0 m ys.toArray os') bs (os.set i ⟨.slice (some ⟨g, 0, none⟩) n c, e, 1, n, ys.map enc⟩) rs := by
  have h1 := Go.Lib.ownsRow_putRow (q := m) (k := n) (ys := ys) (h.orow0 i hi) hy (Nat.le_refl n)
  rw [List.take_of_length_le (by omega)] at h1
  have hA := away_sort enc W g m ys.toArray os'
  refine h.oset i hi (World.ownsRow.kept (row := none) h1 ⟨rfl, rfl, rfl, ?_, fun k hk _ => ?_⟩ (.inr (by simp [Value.ownBlock]))) ⟨rfl, rfl, rfl, hA.1, fun k hk hn => hA.2 k hk (fun hm => hn (by rw [List.mem_singleton.1 hm]; rfl))⟩ (fun k hk => .inl hk)
  · show _ ≤ (_ ++ os').size
    rw [Array.size_append]; omega
  · show (_ ++ os')[k]? = _
    rw [Array.getElem?_append_left hk]
theorem Sy.oaddr (h : Sy w W bs os rs) (i : Nat) {a : Option Addr} {n c : Nat} {e : TypeId} {size : Nat} {xs : List Value} (hi : os[i]? = some ⟨.slice a n c, e, size, n, xs⟩) (hn : 0 < n) : ∃ g, a = some ⟨g, 0, none⟩ ∧ n ≤ c := by
  rcases (h.orow i hi).2 with ⟨h1, h2⟩ | ⟨g, cap, cur, hv, _, _, h4, _⟩
  · omega
  · simp only [Value.slice.injEq] at hv
    obtain ⟨rfl, _, rfl⟩ := hv
    exact ⟨g, rfl, h4⟩
end

end Go.Proofs.YtchignmnnbepnaaGreat
namespace Go.Proofs.YtchignmnnbepnaaGreat
open Go.RowKit

def marksOf (ds : List Nat) : List Deferred := ds.map fun D => { target := .collected D, args := #[] }
/-- so many blocks shut, nothing else -/
structure Shuts (ds : List Nat) (A B : World) : Prop where
  os : B.os = A.os
  tape : B.tape = A.tape
  output : B.output = A.output
  size : B.heap.size = A.heap.size
  at_ : ∀ k, k ∉ ds → B.heap[k]? = A.heap[k]?
theorem leaves_marks {n : Nat} {P : Program} {fn : Func} {tmps : Array Value} {R : Ending → World → Prop} : ∀ (ds : List Nat) (w : World), ds.Nodup → (∀ D ∈ ds, w.heap[D]? = some (.deferred (some []))) →
    (∀ w', Shuts ds w w' → ∃ v, (results fn tmps).run P w' = .ok v w' ∧ R (.returned v) w') → LeavesInM Fence.wide n P fn tmps R (marksOf ds) .returning w
  | [], w, _, _, h => h w ⟨rfl, rfl, rfl, rfl, fun _ _ => rfl⟩
  | D :: ds, w, hn, hd, h => ⟨by simp, .inl ⟨D, _, rfl, run_takeDeferred (hd D (List.mem_cons_self ..)), leaves_marks ds _ (List.nodup_cons.1 hn).2
      (fun E hE => (World.putObj_heap_other (fun (e : E = D) => (List.nodup_cons.1 hn).1 (by rw [← e]; exact hE))).trans (hd E (List.mem_cons_of_mem _ hE)))
      (fun w' hs => h w' ⟨hs.os, hs.tape, hs.output, hs.size.trans (by simp [World.putObj]), fun k hk => (hs.at_ k (fun hm => hk (List.mem_cons_of_mem _ hm))).trans
        (World.putObj_heap_other (fun e => hk (by rw [e]; exact List.mem_cons_self ..)))⟩)⟩⟩
theorem wpIn_load_row {n : Nat} {P : Program} {o : Oper} {a : Act} {w : World} {K : Act → World → Prop} {Q : Exit → Act → World → Prop} (ty : TypeId) (x : Operand) (ho : o.op = .load ty x)
    (g : Nat) (hx : a.eval x = .pointer (some ⟨g, 0, none⟩)) (t : TypeId) (cs : Array Value) (fr : Nat × Nat) (d : TypeDesc) (hg : w.heap[g]? = some (.cells cs t fr))
    (hu : P.underlying ty = some d) (hd : (match d with | .struct _ | .array _ _ => true | _ => false) = true) (hi : (P.info? ty).map (·.size) = some cs.size)
    (h : K (a.put o.dst (.agg cs)) w) : o.wpIn Fence.wide n P a w K Q := by
  refine ⟨fun f _ => trivial, ?_⟩
  rw [Fence.wide_round, Oper.semAt_none]
  unfold execOp
  simp only [ho, hx, Instr.loadAt, Instr.sureAddr, Sem.run_bind, Sem.run_pure, Result.andThen_ok, run_loadVar_row w g t ty cs fr d hg hu hd hi]
  exact h
theorem wpIn_store_row {n : Nat} {P : Program} {o : Oper} {a : Act} {w : World} {K : Act → World → Prop} {Q : Exit → Act → World → Prop} (ty : TypeId) (x y : Operand) (ho : o.op = .store ty x y)
    (g : Nat) (cells : Array Value) (hx : a.eval x = .pointer (some ⟨g, 0, none⟩)) (hy : a.eval y = .agg cells)
    (t : TypeId) (old : Array Value) (hg : w.heap[g]? = some (.cells old t (0, 0))) (hi : (P.info? ty).map (·.size) = some cells.size)
    (hold : old.size = cells.size) (h1 : cells.all (·.oneCell') = true)
    (h : K (a.put o.dst undef) (w.setRow g cells)) : o.wpIn Fence.wide n P a w K Q := by
  refine ⟨fun f _ => trivial, ?_⟩
  rw [Fence.wide_round, Oper.semAt_none]
  unfold execOp
  simp only [ho, hx, hy, Instr.storeAt, Instr.sureAddr, Sem.run_bind, Sem.run_pure, Result.andThen_ok, run_storeVar_row w g t ty old cells hg hi hold h1]
  exact h
theorem setRow_size {W : World} {g : Nat} {cs : Array Value} : (W.setRow g cs).heap.size = W.heap.size := by simp [World.setRow]
theorem setRow_ne {W : World} {g k : Nat} {cs : Array Value} (h : k ≠ g) : (W.setRow g cs).heap[k]? = W.heap[k]? := by
  simp only [World.setRow, Array.getElem?_modify]
  rw [if_neg (fun e => h e.symm)]
theorem setRow_at {W : World} {g : Nat} {cs old : Array Value} {t : TypeId} (h : W.heap[g]? = some (.cells old t (0, 0))) : (W.setRow g cs).heap[g]? = some (.cells cs t (0, 0)) := by
  simp [World.setRow, Array.getElem?_modify, h]
/-- what was read is stored back: no block has turned -/
theorem setRow_same {W : World} {g : Nat} {cs : Array Value} {t : TypeId} (h : W.heap[g]? = some (.cells cs t (0, 0))) (k : Nat) : (W.setRow g cs).heap[k]? = W.heap[k]? := by
  by_cases e : k = g
  · subst e; rw [setRow_at h, h]
  · exact setRow_ne e
theorem results_cell2_row {P : Program} {fn : Func} {p q : Tmp} {ty ty' : TypeId} (h : fn.results = #[.cell p ty, .cell q ty']) (tmps : Array Value) (w : World) (g g' : Nat) (t t' : TypeId) (cs cs' : Array Value) (fr fr' : Nat × Nat) (d d' : TypeDesc)
    (hp : tmps.getD p undef = .pointer (some ⟨g, 0, none⟩)) (hg : w.heap[g]? = some (.cells cs t fr)) (hq : tmps.getD q undef = .pointer (some ⟨g', 0, none⟩)) (hg' : w.heap[g']? = some (.cells cs' t' fr'))
    (hu : P.underlying ty = some d) (hd : (match d with | .struct _ | .array _ _ => true | _ => false) = true) (hi : (P.info? ty).map (·.size) = some cs.size)
    (hu' : P.underlying ty' = some d') (hd' : (match d' with | .struct _ | .array _ _ => true | _ => false) = true) (hi' : (P.info? ty').map (·.size) = some cs'.size) :
    (results fn tmps).run P w = .ok (.tuple #[.agg cs, .agg cs']) w := by
  have hp' : tmps[p]?.getD undef = .pointer (some ⟨g, 0, none⟩) := by simpa using hp
  have hq' : tmps[q]?.getD undef = .pointer (some ⟨g', 0, none⟩) := by simpa using hq
  simp [results, h, hp', hq', asAddr, run_loadVar_row w g t ty cs fr d hg hu hd hi, run_loadVar_row w g' t' ty' cs' fr' d' hg' hu' hd' hi']
section
variable {w W : World} {bs : List (Nat × Array Value × TypeId)} {os : List Rw} {rs : List (World → Prop)}
/-- a box stored whole -/
theorem Sy.setAll (h : Sy w W bs os rs) (i : Nat) {b : Nat} {cs : Array Value} {t : TypeId} (cs' : Array Value) (hx : bs[i]? = some (b, cs, t)) : Sy w (W.setRow b cs') (bs.set i (b, cs', t)) os rs := by
  obtain ⟨hi, hx'⟩ := List.getElem?_eq_some_iff.1 hx
  obtain ⟨h1, h2⟩ := h.at_ i hx
  have hmap : (bs.set i (b, cs', t)).map (fun x => x.1) = bs.map (fun x => x.1) := by
    rw [List.map_set]
    refine List.ext_getElem? fun k => ?_
    rw [List.getElem?_set]
    by_cases e : i = k
    · subst e
      rw [if_pos rfl, List.length_map, if_pos hi, List.getElem?_map, hx]; rfl
    · rw [if_neg e]
  have hown : ownOf (bs.set i (b, cs', t)) os = ownOf bs os := by unfold ownOf; rw [hmap]
  have hbo : b ∈ ownOf bs os := mem_own.2 (.inl ⟨_, List.mem_of_getElem? hx, rfl⟩)
  have hnd := h.inc
  unfold ownOf at hnd
  rw [List.nodup_append] at hnd
  refine h.step rfl rfl rfl ⟨by rw [setRow_size]; exact Nat.le_refl _, fun c _ hn => setRow_ne (fun e => hn (by rw [e]; exact hbo))⟩ (fun c hc => .inl (by rw [hown] at hc; exact hc)) (fun x hxm => ?_) (fun o ho => ?_) (by rw [hown]; exact h.inc)
  · obtain ⟨k, hkl, hk2⟩ := List.getElem_of_mem hxm
    rw [List.length_set] at hkl
    rw [List.getElem_set] at hk2
    by_cases e : i = k
    · rw [if_pos e] at hk2
      subst hk2
      exact ⟨h1, setRow_at h2⟩
    · rw [if_neg e] at hk2
      subst hk2
      obtain ⟨g1, g2⟩ := h.bx bs[k] (List.getElem_mem hkl)
      exact ⟨g1, (setRow_ne (fun e' => nodup_idx hnd.1 hx (List.getElem?_eq_getElem hkl) e e'.symm)).trans g2⟩
  · refine World.ownsRow.kept (row := some b) (h.ow o ho) ⟨rfl, rfl, rfl, by rw [setRow_size]; exact Nat.le_refl _, fun c _ hn => setRow_ne (fun e => hn (by rw [e]))⟩ (.inr fun e => ?_)
    exact hnd.2.2 b (List.mem_map.2 ⟨_, List.mem_of_getElem? hx, rfl⟩) b (List.mem_filterMap.2 ⟨o, ho, e⟩) rfl
end
end Go.Proofs.YtchignmnnbepnaaGreat
namespace Go.Proofs.YtchignmnnbepnaaGreat
open Go.RowKit
section
variable {w W : World} {bs : List (Nat × Array Value × TypeId)} {os : List Rw} {rs : List (World → Prop)} {P : Program}
/-- an element of a row, as a range of cells -/
theorem Sx.range {α : Type} {f : α → List Value} {k : Nat} (hf : ∀ x, (f x).length = k) {g o n c : Nat} {l : List α} (h : Sx k W (some ⟨g, o, none⟩) n c (l.flatMap f)) {i : Nat} (hi : i < l.length) : W.rangeAt g (o + i * k) (f l[i]) := fun j v hj => by
  have hl := (List.getElem?_eq_some_iff.1 hj).1
  rw [hf] at hl
  rw [Nat.add_assoc]
  exact h.cell ((flat_get hf l i j hi hl).trans hj)
/-- a box of one's own, as a range of cells -/
theorem Sy.range (h : Sy w W bs os rs) (i : Nat) {b : Nat} {cs : Array Value} {t : TypeId} (hx : bs[i]? = some (b, cs, t)) : W.rangeAt b 0 cs.toList := fun j v hj => by
  rw [Nat.zero_add]
  exact h.cell i j hx (by simpa using hj)
/-- a struct is read whole -/
theorem op_ld {o : Oper} {a : Act} {K : Act → World → Prop} {Q : Exit → Act → World → Prop} (ty : TypeId) (x : Operand) (ho : o.op = .load ty x)
    (b j : Nat) (hx : a.eval x = .pointer (some ⟨b, j, none⟩)) (cs : List Value) (d : TypeDesc) (hc : W.rangeAt b j cs)
    (hu : P.underlying ty = some d) (hd : d.isRow = true) (hi : (P.info? ty).map (·.size) = some cs.length) (v : Value) (hv : Value.agg cs.toArray = v)
    (h : K (a.put o.dst v) W) : o.wp P a W K Q := by
  subst hv
  exact wp_load_mid ty x ho b j hx cs d hc hu hd hi h
theorem wpList_ld {ops : Array Oper} {rest : List Oper} {o : Oper} {a : Act} {Q : Exit → Act → World → Prop} (hgd : o.guard = none) (ty : TypeId) (x : Operand) (ho : o.op = .load ty x)
    (b j : Nat) (hx : a.eval x = .pointer (some ⟨b, j, none⟩)) (cs : List Value) (d : TypeDesc) (hc : W.rangeAt b j cs)
    (hu : P.underlying ty = some d) (hd : d.isRow = true) (hi : (P.info? ty).map (·.size) = some cs.length) (v : Value) (hv : Value.agg cs.toArray = v)
    (h : wpList P ops Q rest (a.put o.dst v) W) : wpList P ops Q (o :: rest) a W :=
  wpList_plain hgd fun _ hK => op_ld ty x ho b j hx cs d hc hu hd hi v hv (hK _ _ h)
/-- the same, guarded, where it is wanted -/
theorem wpList_ldg {ops : Array Oper} {rest : List Oper} {o : Oper} {a : Act} {Q : Exit → Act → World → Prop} (hgd : Region.wanted o (yielded ops a.tmps) = true) (ty : TypeId) (x : Operand) (ho : o.op = .load ty x)
    (b j : Nat) (hx : a.eval x = .pointer (some ⟨b, j, none⟩)) (cs : List Value) (d : TypeDesc) (hc : W.rangeAt b j cs)
    (hu : P.underlying ty = some d) (hd : d.isRow = true) (hi : (P.info? ty).map (·.size) = some cs.length) (v : Value) (hv : Value.agg cs.toArray = v)
    (h : wpList P ops Q rest (a.put o.dst v) W) : wpList P ops Q (o :: rest) a W :=
  wpList_step fun _ hK => by rw [if_pos hgd]; exact op_ld ty x ho b j hx cs d hc hu hd hi v hv (hK _ _ h)
/-- a struct is stored whole into a box of one's own -/
theorem op_st {o : Oper} {a : Act} {K : Act → World → Prop} {Q : Exit → Act → World → Prop} (h : Sy w W bs os rs) (i : Nat) {b : Nat} {old : Array Value} {t : TypeId} (hb : bs[i]? = some (b, old, t)) (ty : TypeId) (x y : Operand) (ho : o.op = .store ty x y)
    (hx : a.eval x = .pointer (some ⟨b, 0, none⟩)) (cells : Array Value) (hy : a.eval y = .agg cells) (hi : (P.info? ty).map (·.size) = some cells.size)
    (hold : old.size = cells.size) (h1 : cells.all (·.oneCell') = true)
    (hK : ∀ V, Sy w V (bs.set i (b, cells, t)) os rs → K (a.put o.dst undef) V) : o.wp P a W K Q :=
  wp_store_row ty x y ho b cells hx hy t old (h.at_ i hb).2 hi hold h1 (hK _ (h.setAll i cells hb))
theorem wpList_st {ops : Array Oper} {rest : List Oper} {o : Oper} {a : Act} {Q : Exit → Act → World → Prop} (hgd : o.guard = none) (h : Sy w W bs os rs) (i : Nat) {b : Nat} {old : Array Value} {t : TypeId} (hb : bs[i]? = some (b, old, t)) (ty : TypeId) (x y : Operand) (ho : o.op = .store ty x y)
    (hx : a.eval x = .pointer (some ⟨b, 0, none⟩)) (cells : Array Value) (hy : a.eval y = .agg cells) (hi : (P.info? ty).map (·.size) = some cells.size)
    (hold : old.size = cells.size) (h1 : cells.all (·.oneCell') = true)
    (hK : ∀ V, Sy w V (bs.set i (b, cells, t)) os rs → wpList P ops Q rest (a.put o.dst undef) V) : wpList P ops Q (o :: rest) a W :=
  wpList_plain hgd fun _ hK' => op_st h i hb ty x y ho hx cells hy hi hold h1 (fun V hV => hK' _ _ (hK V hV))
theorem op_bx {o : Oper} {a : Act} {K : Act → World → Prop} {Q : Exit → Act → World → Prop} (h : Sy w W bs os rs) (t : TypeId) (x : Operand) (ho : o.op = .box t x) (cells : Array Value) (hx : (a.eval x).cells = cells)
    (hK : ∀ b V, Sy w V (bs ++ [(b, cells, t)]) os rs → K (a.put o.dst (.pointer (some ⟨b, 0, none⟩))) V) : Oper.wp P o a W K Q := by
  subst hx
  unfold Oper.wp execOp
  simp only [ho, Sem.run_bind, Instr.box, newVar, newRow, run_newObj_alloc, Sem.run_pure, Result.andThen_ok]
  exact hK _ _ (h.al W.heap.size _ t rfl)
theorem wpList_bx {ops : Array Oper} {rest : List Oper} {o : Oper} {a : Act} {Q : Exit → Act → World → Prop} (hgd : o.guard = none) (h : Sy w W bs os rs) (t : TypeId) (x : Operand) (ho : o.op = .box t x) (cells : Array Value) (hx : (a.eval x).cells = cells)
    (hK : ∀ b V, Sy w V (bs ++ [(b, cells, t)]) os rs → wpList P ops Q rest (a.put o.dst (.pointer (some ⟨b, 0, none⟩))) V) : wpList P ops Q (o :: rest) a W :=
  wpList_plain hgd fun _ hK' => op_bx h t x ho cells hx (fun b V hV => hK' _ _ (hK b V hV))
theorem op_al {o : Oper} {a : Act} {K : Act → World → Prop} {Q : Exit → Act → World → Prop} (h : Sy w W bs os rs) (t : TypeId) (ho : o.op = .alloc t) (z : Value) (hz : (P.info? t).map (·.zero) = some (some z))
    (hK : ∀ b V, Sy w V (bs ++ [(b, z.cells, t)]) os rs → K (a.put o.dst (.pointer (some ⟨b, 0, none⟩))) V) : Oper.wp P o a W K Q := by
  obtain ⟨i, hi, hz2⟩ := Option.map_eq_some_iff.1 hz
  unfold Oper.wp execOp
  have hzr : (zeroValue t).run P W = .ok z W := by
    simp [zeroValue, typeInfo, hi, hz2]
  simp only [ho, Sem.run_bind, Instr.alloc, hzr, newVar, newRow, run_newObj_alloc, Sem.run_pure, Result.andThen_ok]
  exact hK _ _ (h.al W.heap.size _ t rfl)
theorem wpList_al {ops : Array Oper} {rest : List Oper} {o : Oper} {a : Act} {Q : Exit → Act → World → Prop} (hgd : o.guard = none) (h : Sy w W bs os rs) (t : TypeId) (ho : o.op = .alloc t) (z : Value) (hz : (P.info? t).map (·.zero) = some (some z))
    (hK : ∀ b V, Sy w V (bs ++ [(b, z.cells, t)]) os rs → wpList P ops Q rest (a.put o.dst (.pointer (some ⟨b, 0, none⟩))) V) : wpList P ops Q (o :: rest) a W :=
  wpList_plain hgd fun _ hK' => op_al h t ho z hz (fun b V hV => hK' _ _ (hK b V hV))
/-- in a drawn region: a struct is read whole -/
theorem yieldsIf_ld {ops : Array Oper} {S : World → Prop} {op : Oper} {a : Act} (hw : Region.wanted op (yielded ops a.tmps) = true) (ty : TypeId) (x : Operand) (ho : op.op = .load ty x)
    (b o : Nat) (hx : a.eval x = .pointer (some ⟨b, o, none⟩)) (cs : List Value) (d : TypeDesc) (hS : ∀ w, S w → w.rangeAt b o cs)
    (hu : P.underlying ty = some d) (hd : d.isRow = true) (hi : (P.info? ty).map (·.size) = some cs.length) (v : Value) (hv : Value.agg cs.toArray = v) : YieldsIf P ops S op v a := by
  subst hv
  exact yieldsIf_load_mid hw ty x ho b o hx cs d hS hu hd hi
theorem results_cell_row {fn : Func} {p : Tmp} {ty : TypeId} (h : fn.results = #[.cell p ty]) (tmps : Array Value) (w : World) (g : Nat) (t : TypeId) (cs : Array Value) (fr : Nat × Nat) (d : TypeDesc)
    (hp : tmps.getD p undef = .pointer (some ⟨g, 0, none⟩)) (hg : w.heap[g]? = some (.cells cs t fr))
    (hu : P.underlying ty = some d) (hd : (match d with | .struct _ | .array _ _ => true | _ => false) = true) (hi : (P.info? ty).map (·.size) = some cs.size) :
    (results fn tmps).run P w = .ok (.agg cs) w := by
  have hp' : tmps[p]?.getD undef = .pointer (some ⟨g, 0, none⟩) := by simpa using hp
  simp [results, h, hp', asAddr, run_loadVar_row w g t ty cs fr d hg hu hd hi]
theorem results_cell_tmp_row {fn : Func} {p u : Tmp} {ty : TypeId} (h : fn.results = #[.cell p ty, .tmp u]) (tmps : Array Value) (w : World) (g : Nat) (t : TypeId) (cs : Array Value) (fr : Nat × Nat) (d : TypeDesc)
    (hp : tmps.getD p undef = .pointer (some ⟨g, 0, none⟩)) (hg : w.heap[g]? = some (.cells cs t fr))
    (hu : P.underlying ty = some d) (hd : (match d with | .struct _ | .array _ _ => true | _ => false) = true) (hi : (P.info? ty).map (·.size) = some cs.size) :
    (results fn tmps).run P w = .ok (.tuple #[.agg cs, tmps.getD u undef]) w := by
  have hp' : tmps[p]?.getD undef = .pointer (some ⟨g, 0, none⟩) := by simpa using hp
  simp [results, h, hp', asAddr, run_loadVar_row w g t ty cs fr d hg hu hd hi]
theorem results_cell2_tmp_row {fn : Func} {p q u : Tmp} {ty ty' : TypeId} (h : fn.results = #[.cell p ty, .cell q ty', .tmp u]) (tmps : Array Value) (w : World) (g g' : Nat) (t t' : TypeId) (cs cs' : Array Value) (fr fr' : Nat × Nat) (d d' : TypeDesc)
    (hp : tmps.getD p undef = .pointer (some ⟨g, 0, none⟩)) (hg : w.heap[g]? = some (.cells cs t fr))
    (hu : P.underlying ty = some d) (hd : (match d with | .struct _ | .array _ _ => true | _ => false) = true) (hi : (P.info? ty).map (·.size) = some cs.size)
    (hp2 : tmps.getD q undef = .pointer (some ⟨g', 0, none⟩)) (hg2 : w.heap[g']? = some (.cells cs' t' fr'))
    (hu2 : P.underlying ty' = some d') (hd2 : (match d' with | .struct _ | .array _ _ => true | _ => false) = true) (hi2 : (P.info? ty').map (·.size) = some cs'.size) :
    (results fn tmps).run P w = .ok (.tuple #[.agg cs, .agg cs', tmps.getD u undef]) w := by
  have hp' : tmps[p]?.getD undef = .pointer (some ⟨g, 0, none⟩) := by simpa using hp
  have hp2' : tmps[q]?.getD undef = .pointer (some ⟨g', 0, none⟩) := by simpa using hp2
  simp [results, h, hp', hp2', asAddr, run_loadVar_row w g t ty cs fr d hg hu hd hi, run_loadVar_row w g' t' ty' cs' fr' d' hg2 hu2 hd2 hi2]
end
end Go.Proofs.YtchignmnnbepnaaGreat

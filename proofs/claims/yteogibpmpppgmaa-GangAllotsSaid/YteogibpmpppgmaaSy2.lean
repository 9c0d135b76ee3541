/- rows of one's own: append, store, and giving them up -/
import Derived.Test.YteogibpmpppgmaaSy
namespace Go.Proofs.Yteogibpmpppgmaa
open Go.RowKit

section
variable {w W : World} {bs : List (Nat × Array Value × TypeId)} {os : List Rw} {rs : List (World → Prop)}
/-- append onto a row of one's own, from another -/
theorem op_append_sy {P : Program} {o : Oper} {a : Act} {K : Act → World → Prop} {Q : Exit → Act → World → Prop} (h : Sy w W bs os rs) (i j : Nat) {v sv : Value} {e : TypeId} {size n m bytes : Nat} {xs ys : List Value} {z : Value}
    (hi : os[i]? = some ⟨v, e, size, n, xs⟩) (hj : os[j]? = some ⟨sv, e, size, m, ys⟩) (s x : Operand) (t : TypeId) (ho : o.op = .call { callee := .builtin .append, args := #[s, x], argTypes := #[t, t] })
    (ht : P.underlying t = some (.slice e)) (hinfo : (P.info? e).map (fun i => (i.zero, i.size, i.bytes)) = some (some z, size, bytes)) (hzs : z.cells.size = size) (hsz : 0 < size) (hs : a.eval s = v) (hx : a.eval x = sv)
    (h1 : ∀ u ∈ ys, u.oneCell' = true) (hlen : n + m ≤ 1000000000) (hbytes : bytes ≤ 100000)
    (hK : ∀ a' c' V, Sy w V bs (os.set i ⟨.slice a' (n + m) c', e, size, n + m, xs ++ ys⟩) rs → K (a.put o.dst (.slice a' (n + m) c')) V) : Oper.wp P o a W K Q := by
  obtain ⟨i0, hi0, hz0, hz1, hz2⟩ := info_parts hinfo
  obtain ⟨a', c', w', hr, h2, h3, h4⟩ := run_append_row (P := P) W t o.type e i0 z size bytes ht hi0 hz0 hz1 hz2 hzs hsz v n xs (h.orow0 i hi) sv m ys (h.orow0 j hj) h1 hlen hbytes
  unfold Oper.wp execOp
  simp only [ho, resolve, invoke, builtin, Sem.run_bind, Sem.run_pure, Result.andThen_ok, List.map_toArray, List.map_cons, List.map_nil, hs, hx, hr]
  exact hK a' c' w' (h.oset i hi h2 h3 h4)
theorem wpList_append_sy {P : Program} {ops : Array Oper} {rest : List Oper} {o : Oper} {a : Act} {Q : Exit → Act → World → Prop} (hgd : o.guard = none) (h : Sy w W bs os rs) (i j : Nat) {v sv : Value} {e : TypeId} {size n m bytes : Nat} {xs ys : List Value} {z : Value}
    (hi : os[i]? = some ⟨v, e, size, n, xs⟩) (hj : os[j]? = some ⟨sv, e, size, m, ys⟩) (s x : Operand) (t : TypeId) (ho : o.op = .call { callee := .builtin .append, args := #[s, x], argTypes := #[t, t] })
    (ht : P.underlying t = some (.slice e)) (hinfo : (P.info? e).map (fun i => (i.zero, i.size, i.bytes)) = some (some z, size, bytes)) (hzs : z.cells.size = size) (hsz : 0 < size) (hs : a.eval s = v) (hx : a.eval x = sv)
    (h1 : ∀ u ∈ ys, u.oneCell' = true) (hlen : n + m ≤ 1000000000) (hbytes : bytes ≤ 100000)
    (hK : ∀ a' c' V, Sy w V bs (os.set i ⟨.slice a' (n + m) c', e, size, n + m, xs ++ ys⟩) rs → wpList P ops Q rest (a.put o.dst (.slice a' (n + m) c')) V) : wpList P ops Q (o :: rest) a W :=
  wpList_plain hgd fun _ hK' => op_append_sy h i j hi hj s x t ho ht hinfo hzs hsz hs hx h1 hlen hbytes (fun a' c' V hV => hK' _ _ (hK a' c' V hV))
/-- the cells of a row -/
theorem Sy.rcell (h : Sy w W bs os rs) (i : Nat) {g n c : Nat} {e : TypeId} {size : Nat} {xs : List Value} (hi : os[i]? = some ⟨.slice (some ⟨g, 0, none⟩) n c, e, size, n, xs⟩) {k : Nat} {u : Value} (hk : xs[k]? = some u) : W.cell? ⟨g, k, none⟩ = some u := by
  have := World.ownsRow.cells (h.orow i hi) (g := g) rfl k u hk
  have hadd : (⟨g, 0, none⟩ : Addr).add k = ⟨g, k, none⟩ := by unfold Addr.add; split <;> simp_all
  rwa [hadd] at this
theorem Sy.rfree (h : Sy w W bs os rs) (i : Nat) {g n c : Nat} {e : TypeId} {size : Nat} {xs : List Value} (hi : os[i]? = some ⟨.slice (some ⟨g, 0, none⟩) n c, e, size, n, xs⟩) (k : Nat) : W.frozen? ⟨g, k, none⟩ = false := by
  rcases (h.orow i hi).2 with ⟨h1, _⟩ | ⟨g', cap, cur, h1, _, hg, _⟩
  · simp at h1
  · simp only [Value.slice.injEq, Option.some.injEq, Addr.mk.injEq, and_true] at h1
    obtain ⟨rfl, _⟩ := h1
    simp [World.frozen?, hg]
/-- a cell of a row is stored -/
theorem Sy.ostore (h : Sy w W bs os rs) (i : Nat) {g n c : Nat} {e : TypeId} {size : Nat} {xs : List Value} (hi : os[i]? = some ⟨.slice (some ⟨g, 0, none⟩) n c, e, size, n, xs⟩) (k : Nat) (u : Value) : Sy w (W.setCell ⟨g, k, none⟩ u) bs (os.set i ⟨.slice (some ⟨g, 0, none⟩) n c, e, size, n, xs.set k u⟩) rs := by
  refine h.oset i hi ?_ ⟨rfl, rfl, rfl, by rw [setCell_size]; exact Nat.le_refl _, fun c _ hn => Below.heap_setCell _ _ _ _ (fun e => hn (by rw [e]; rfl))⟩ (fun b hb => .inl hb)
  obtain ⟨h0, h1⟩ := h.orow0 i hi
  rcases h1 with ⟨h1, _⟩ | ⟨g', cap, cur, h1, h2, hg, h4, h5, h6, h7⟩
  · simp at h1
  simp only [Value.slice.injEq, Option.some.injEq, Addr.mk.injEq, and_true, true_and] at h1
  obtain ⟨rfl, rfl⟩ := h1
  refine ⟨by rw [List.length_set]; exact h0, .inr ⟨g, c, cur.setIfInBounds k u, rfl, Nat.zero_le _, setCell_at hg, h4, h5, by rw [Array.size_setIfInBounds]; exact h6, ?_⟩⟩
  rw [Array.toList_setIfInBounds, List.take_set, h7]
/-- rows that are no longer written -/
theorem Sy.thin (h : Sy w W bs os rs) {bs' : List (Nat × Array Value × TypeId)} {os' : List Rw} (hb : bs'.Sublist bs) (ho : os'.Sublist os) : Sy w W bs' os' rs :=
  h.step rfl rfl rfl (Away.refl _ _) (fun b hm => .inl (by
    rcases mem_own.1 hm with ⟨x, hx, he⟩ | ⟨o, h1, he⟩
    · exact mem_own.2 (.inl ⟨x, hb.subset hx, he⟩)
    · exact mem_own.2 (.inr ⟨o, ho.subset h1, he⟩))) (fun x hx => h.bx x (hb.subset hx)) (fun o h1 => h.ow o (ho.subset h1)) (by
    have := h.inc
    unfold ownOf at this ⊢
    exact this.sublist ((hb.map _).append (ho.filterMap _)))
/-- a row stays what it is while only others are written -/
theorem ownsRow_away {own : List Nat} {W V : World} {e : TypeId} {size n : Nat} {v : Value} {xs : List Value} (h : W.ownsRow 0 e size v n xs) (hV : Away own W V) (hn : ∀ b, v.ownBlock = some b → b ∉ own) : V.ownsRow 0 e size v n xs := by
  refine ⟨h.1, h.2.imp id ?_⟩
  rintro ⟨g, cap, cur, rfl, h0, hg, rest⟩
  exact ⟨g, cap, cur, rfl, h0, (hV.2 g (Array.getElem?_eq_some_iff.1 hg).1 (hn g rfl)).trans hg, rest⟩
end

end Go.Proofs.Yteogibpmpppgmaa

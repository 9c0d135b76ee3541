/- rows of one's own: append, store, and giving them up -/
/- slices that read as so many cells, wherever they lie; rows and boxes that a callee has made are taken over -/
import Derived.Test.YtchignmnnbepnaaGreatJ0
namespace Go.Proofs.YtchignmnnbepnaaGreat
open Go.RowKit

section
variable {w W : World} {bs : List (Nat × Array Value × TypeId)} {os : List Rw} {rs : List (World → Prop)}
/-- append onto a row of one's own, from another -/
theorem op_append_sy {P : Program} {o : Oper} {a : Act} {K : Act → World → Prop} {Q : Exit → Act → World → Prop} (h : Sy w W bs os rs) (i j : Nat) {v sv : Value} {e : TypeId} {size n m bytes : Nat} {xs ys : List Value} {z : Value}
    (hi : os[i]? = some ⟨v, e, size, n, xs⟩) (hj : os[j]? = some ⟨sv, e, size, m, ys⟩) (s x : Operand) (t : TypeId) (ho : o.op = .call { callee := .builtin .append, args := #[s, x], argTypes := #[t, t] })
    (ht : P.underlying t = some (.slice e)) (hinfo : (P.info? e).map (fun i => (i.zero, i.size, i.bytes)) = some (some z, size, bytes)) (hzs : z.cells.size = size) (hsz : 0 < size) (hs : a.eval s = v) (hx : a.eval x = sv)
    (h1 : ∀ u ∈ ys, u.oneCell' = true) (hlen : n + m ≤ 1000000000) (hbytes : bytes ≤ 100000)
    (hK : ∀ a' c' V, Sy w V bs (os.set i ⟨.slice a' (n + m) c', e, size, n + m, xs ++ ys⟩) rs → K (a.put o.dst (.slice a' (n + m) c')) V) : Oper.wp P o a W K Q := by
  obtain ⟨i0, hi0, hz0, hz1, hz2⟩ := info_parts hinfo
  obtain ⟨a', c', w', hr, h2, h3, h4⟩ := run_append_row (P := P) W t o.type e i0 z size bytes ht hi0 hz0 hz1 hz2 hzs hsz v n xs (h.orow0 i hi) sv m ys (h.orow0 j hj) h1 hlen hbytes
  unfold Oper.wp execOp
  simp only [ho, resolve, invoke, builtin, Sem.run_bind, Sem.run_pure, Result.andThen_ok, List.map_toArray, List.map_cons, List.map_nil, hs, hx, hr]
  exact hK a' c' w' (h.oset i hi h2 h3 h4)
theorem wpList_append_sy {P : Program} {ops : Array Oper} {rest : List Oper} {o : Oper} {a : Act} {Q : Exit → Act → World → Prop} (hgd : o.guard = none) (h : Sy w W bs os rs) (i j : Nat) {v sv : Value} {e : TypeId} {size n m bytes : Nat} {xs ys : List Value} {z : Value}
    (hi : os[i]? = some ⟨v, e, size, n, xs⟩) (hj : os[j]? = some ⟨sv, e, size, m, ys⟩) (s x : Operand) (t : TypeId) (ho : o.op = .call { callee := .builtin .append, args := #[s, x], argTypes := #[t, t] })
    (ht : P.underlying t = some (.slice e)) (hinfo : (P.info? e).map (fun i => (i.zero, i.size, i.bytes)) = some (some z, size, bytes)) (hzs : z.cells.size = size) (hsz : 0 < size) (hs : a.eval s = v) (hx : a.eval x = sv)
    (h1 : ∀ u ∈ ys, u.oneCell' = true) (hlen : n + m ≤ 1000000000) (hbytes : bytes ≤ 100000)
    (hK : ∀ a' c' V, Sy w V bs (os.set i ⟨.slice a' (n + m) c', e, size, n + m, xs ++ ys⟩) rs → wpList P ops Q rest (a.put o.dst (.slice a' (n + m) c')) V) : wpList P ops Q (o :: rest) a W :=
  wpList_plain hgd fun _ hK' => op_append_sy h i j hi hj s x t ho ht hinfo hzs hsz hs hx h1 hlen hbytes (fun a' c' V hV => hK' _ _ (hK a' c' V hV))
/-- the cells of a row -/
theorem Sy.rcell (h : Sy w W bs os rs) (i : Nat) {g n c : Nat} {e : TypeId} {size : Nat} {xs : List Value} (hi : os[i]? = some ⟨.slice (some ⟨g, 0, none⟩) n c, e, size, n, xs⟩) {k : Nat} {u : Value} (hk : xs[k]? = some u) : W.cell? ⟨g, k, none⟩ = some u := by
  have := World.ownsRow.cells (h.orow i hi) (g := g) rfl k u hk
  have hadd : (⟨g, 0, none⟩ : Addr).add k = ⟨g, k, none⟩ := by unfold Addr.add; split <;> simp_all
  rwa [hadd] at this
theorem Sy.rfree (h : Sy w W bs os rs) (i : Nat) {g n c : Nat} {e : TypeId} {size : Nat} {xs : List Value} (hi : os[i]? = some ⟨.slice (some ⟨g, 0, none⟩) n c, e, size, n, xs⟩) (k : Nat) : W.frozen? ⟨g, k, none⟩ = false := by
  rcases (h.orow i hi).2 with ⟨h1, _⟩ | ⟨g', cap, cur, h1, _, hg, _⟩
  · simp at h1
  · simp only [Value.slice.injEq, Option.some.injEq, Addr.mk.injEq, and_true] at h1
    obtain ⟨rfl, _⟩ := h1
    simp [World.frozen?, hg]
/-- a cell of a row is stored -/
theorem Sy.ostore (h : Sy w W bs os rs) (i : Nat) {g n c : Nat} {e : TypeId} {size : Nat} {xs : List Value} (hi : os[i]? = some ⟨.slice (some ⟨g, 0, none⟩) n c, e, size, n, xs⟩) (k : Nat) (u : Value) : Sy w (W.setCell ⟨g, k, none⟩ u) bs (os.set i ⟨.slice (some ⟨g, 0, none⟩) n c, e, size, n, xs.set k u⟩) rs := by
  refine h.oset i hi ?_ ⟨rfl, rfl, rfl, by rw [setCell_size]; exact Nat.le_refl _, fun c _ hn => Below.heap_setCell _ _ _ _ (fun e => hn (by rw [e]; rfl))⟩ (fun b hb => .inl hb)
  obtain ⟨h0, h1⟩ := h.orow0 i hi
  rcases h1 with ⟨h1, _⟩ | ⟨g', cap, cur, h1, h2, hg, h4, h5, h6, h7⟩
  · simp at h1
  simp only [Value.slice.injEq, Option.some.injEq, Addr.mk.injEq, and_true, true_and] at h1
  obtain ⟨rfl, rfl⟩ := h1
  refine ⟨by rw [List.length_set]; exact h0, .inr ⟨g, c, cur.setIfInBounds k u, rfl, Nat.zero_le _, setCell_at hg, h4, h5, by rw [Array.size_setIfInBounds]; exact h6, ?_⟩⟩
  rw [Array.toList_setIfInBounds, List.take_set, h7]
/-- rows that are no longer written -/
theorem Sy.thin (h : Sy w W bs os rs) {bs' : List (Nat × Array Value × TypeId)} {os' : List Rw} (hb : bs'.Sublist bs) (ho : os'.Sublist os) : Sy w W bs' os' rs :=
  h.step rfl rfl rfl (Away.refl _ _) (fun b hm => .inl (by
    rcases mem_own.1 hm with ⟨x, hx, he⟩ | ⟨o, h1, he⟩
    · exact mem_own.2 (.inl ⟨x, hb.subset hx, he⟩)
    · exact mem_own.2 (.inr ⟨o, ho.subset h1, he⟩))) (fun x hx => h.bx x (hb.subset hx)) (fun o h1 => h.ow o (ho.subset h1)) (by
    have := h.inc
    unfold ownOf at this ⊢
    exact this.sublist ((hb.map _).append (ho.filterMap _)))
end

end Go.Proofs.YtchignmnnbepnaaGreat
namespace Go.Proofs.YtchignmnnbepnaaGreat
open Go.RowKit

/-- the slice (a, n, c) reads as n elements of so many cells each -/
def Sx (size : Nat) (W : World) (a : Option Addr) (n c : Nat) (xs : List Value) : Prop :=
  xs.length = n * size ∧ n ≤ c ∧ c ≤ maxLen ∧ (0 < n → ∃ g o, a = some ⟨g, o, none⟩ ∧ g < W.heap.size ∧ ∀ k u, xs[k]? = some u → W.cell? ⟨g, o + k, none⟩ = some u)

section
variable {w W W' V : World} {bs : List (Nat × Array Value × TypeId)} {os : List Rw} {rs : List (World → Prop)} {size n c : Nat} {a : Option Addr} {xs : List Value}
theorem Sx.len (h : Sx size W a n c xs) : xs.length = n * size := h.1
theorem Sx.cap (h : Sx size W a n c xs) : n ≤ c ∧ c ≤ maxLen := ⟨h.2.1, h.2.2.1⟩
theorem Sx.addr (h : Sx size W a n c xs) (hn : 0 < n) : ∃ g o, a = some ⟨g, o, none⟩ := by
  obtain ⟨g, o, e, _⟩ := h.2.2.2 hn
  exact ⟨g, o, e⟩
theorem Sx.cell {g o : Nat} (h : Sx size W (some ⟨g, o, none⟩) n c xs) {k : Nat} {u : Value} (hk : xs[k]? = some u) : W.cell? ⟨g, o + k, none⟩ = some u := by
  have hl := (List.getElem?_eq_some_iff.1 hk).1
  have hn : 0 < n := by
    rcases Nat.eq_zero_or_pos n with e | e
    · rw [h.1, e, Nat.zero_mul] at hl; exact absurd hl (Nat.not_lt_zero _)
    · exact e
  obtain ⟨g', o', e, _, hc⟩ := h.2.2.2 hn
  simp only [Option.some.injEq, Addr.mk.injEq, and_true] at e
  obtain ⟨rfl, rfl⟩ := e
  exact hc k u hk
theorem Sx.below (h : Sx size W a n c xs) (hb : Below W.heap.size W V) : Sx size V a n c xs := by
  refine ⟨h.1, h.2.1, h.2.2.1, fun hn => ?_⟩
  obtain ⟨g, o, e, hg, hc⟩ := h.2.2.2 hn
  exact ⟨g, o, e, Nat.lt_of_lt_of_le hg hb.size, fun k u hk => by rw [hb.cell (p := ⟨g, o + k, none⟩) hg]; exact hc k u hk⟩
theorem Sx.mono {B : Nat} (h : Sx size w a n c xs) (hb : Below B w V) (hB : w.heap.size = B) : Sx size V a n c xs := by subst hB; exact h.below hb
theorem Sx.nil : Sx size W none 0 0 [] := ⟨by simp, Nat.le_refl _, by decide, fun h => absurd h (by decide)⟩
theorem Sx.owns {base : Nat} {e : TypeId} (h : W.ownsRow base e size (.slice a n c) n xs) : Sx size W a n c xs := by
  obtain ⟨h0, h1⟩ := h
  rcases h1 with ⟨h1, h2⟩ | ⟨g, cap, cur, hv, _, hg, h4, h5, h6, h7⟩
  · simp only [Value.slice.injEq] at h1
    obtain ⟨rfl, rfl, rfl⟩ := h1
    exact ⟨h0, Nat.le_refl _, by decide, fun h => absurd h (by decide)⟩
  · simp only [Value.slice.injEq] at hv
    obtain ⟨rfl, _, rfl⟩ := hv
    refine ⟨h0, h4, h5, fun _ => ⟨g, 0, rfl, (Array.getElem?_eq_some_iff.1 hg).1, fun k u hk => ?_⟩⟩
    have hl := (List.getElem?_eq_some_iff.1 hk).1
    rw [← h7, List.getElem?_take] at hk
    rw [if_pos (by omega)] at hk
    simp only [World.cell?, hg, Nat.zero_add]
    simpa using hk
theorem Sx.take (h : Sx size W a n c xs) {i : Nat} (hi : i ≤ n) : Sx size W a i c (xs.take (i * size)) := by
  refine ⟨?_, Nat.le_trans hi h.2.1, h.2.2.1, fun hn => ?_⟩
  · rw [List.length_take, h.1]; exact Nat.min_eq_left (Nat.mul_le_mul_right _ hi)
  · obtain ⟨g, o, e, hg, hc⟩ := h.2.2.2 (by omega)
    refine ⟨g, o, e, hg, fun k u hk => hc k u ?_⟩
    rw [List.getElem?_take] at hk
    split at hk
    · exact hk
    · cases hk
/-- what an argument reads as, later -/
theorem Sy.sx (h : Sy w W bs os rs) (hs : Sx size w a n c xs) : Sx size W a n c xs := hs.below h.be
theorem Sy.osx (h : Sy w W bs os rs) (i : Nat) {e : TypeId} (hi : os[i]? = some ⟨.slice a n c, e, size, n, xs⟩) : Sx size W a n c xs := Sx.owns (h.orow i hi)
/-- a row that a callee has made -/
theorem Sy.adopt (h : Sy w W bs os rs) (hb : Below W.heap.size W W') {e : TypeId} {v : Value} (hr : W'.ownsRow W.heap.size e size v n xs) : Sy w W' bs (os ++ [⟨v, e, size, n, xs⟩]) rs := by
  have h1 := h.call hb
  have hge : ∀ b, v.ownBlock = some b → W.heap.size ≤ b := fun b hv => (World.ownsRow.lt hr b hv).1
  refine h.step hb.os hb.tape hb.output ⟨hb.size, fun b hl _ => hb.block b hl⟩ (fun b hm => ?_) h1.bx (fun o ho => ?_) (inc_snocO h.inc _ (fun c hc hm => ?_))
  · rcases (own_snocO _ _ _ _).1 hm with h2 | h2
    · exact .inl h2
    · exact .inr (hge b h2)
  · rcases List.mem_append.1 ho with h2 | h2
    · exact h1.ow o h2
    · rcases List.mem_singleton.1 h2 with rfl
      refine ⟨hr.1, hr.2.imp id ?_⟩
      rintro ⟨g, cap, cur, hv, h3, rest⟩
      exact ⟨g, cap, cur, hv, Nat.le_trans h.be.size h3, rest⟩
  · have := (h.own_ge hm).2
    have := hge c hc
    omega
/-- what a state gives back: its own row, made since the call began -/
theorem Sy.gives (h : Sy w W bs os rs) (i : Nat) {v : Value} {e : TypeId} {size n : Nat} {xs : List Value} (hi : os[i]? = some ⟨v, e, size, n, xs⟩) : W.ownsRow w.heap.size e size v n xs := h.orow i hi
end

/-- elements of k cells, laid one behind the other -/
theorem flat_len {α : Type} {f : α → List Value} {k : Nat} (hf : ∀ x, (f x).length = k) : ∀ l : List α, (l.flatMap f).length = l.length * k
  | [] => by simp
  | x :: l => by rw [List.flatMap_cons, List.length_append, hf, flat_len hf l, List.length_cons, Nat.succ_mul]; omega
theorem flat_get {α : Type} {f : α → List Value} {k : Nat} (hf : ∀ x, (f x).length = k) : ∀ (l : List α) (i j : Nat) (h : i < l.length), j < k → (l.flatMap f)[i * k + j]? = (f l[i])[j]?
  | [], i, _, h, _ => absurd h (Nat.not_lt_zero i)
  | x :: l, 0, j, _, hj => by rw [List.flatMap_cons, Nat.zero_mul, Nat.zero_add, List.getElem?_append_left (by rw [hf]; exact hj)]; rfl
  | x :: l, i + 1, j, h, hj => by
    rw [List.flatMap_cons, List.getElem?_append_right (by rw [hf, Nat.succ_mul]; omega), hf, show (i + 1) * k + j - k = i * k + j by rw [Nat.succ_mul]; omega]
    exact flat_get hf l i j (by simpa using h) hj
theorem flat_take {α : Type} {f : α → List Value} {k : Nat} (hf : ∀ x, (f x).length = k) : ∀ (l : List α) (i : Nat), (l.flatMap f).take (i * k) = (l.take i).flatMap f
  | [], i => by simp
  | x :: l, 0 => by simp
  | x :: l, i + 1 => by
    rw [List.flatMap_cons, List.take_succ_cons, List.flatMap_cons, List.take_append, hf, show (i + 1) * k - k = i * k by rw [Nat.succ_mul]; omega, flat_take hf l i, List.take_of_length_le (by rw [hf, Nat.succ_mul]; omega)]

end Go.Proofs.YtchignmnnbepnaaGreat

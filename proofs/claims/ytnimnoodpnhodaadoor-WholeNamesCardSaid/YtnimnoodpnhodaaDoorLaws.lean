/- append, make and copy over rows of one's own, with what the walk wants to know of the new block; for any program. -/
import Derived.WalkKit
namespace Go.Proofs.YtnimnoodpnhodaaDoor
open Go.RowKit

/-- the block of v' is the block of v, or one from B on -/
def Since (B : Nat) (v v' : Value) : Prop := ∀ k, v'.ownBlock = some k → v.ownBlock = some k ∨ B ≤ k

theorem Since.refl (B : Nat) (v : Value) : Since B v v := fun _ h => .inl h
theorem Since.trans {B : Nat} {u v x : Value} (h : Since B u v) (k : Since B v x) : Since B u x := fun j hj => by
  rcases k j hj with h1 | h1
  · exact h j h1
  · exact .inr h1
theorem Since.mono {B B' : Nat} {u v : Value} (h : Since B u v) (hb : B' ≤ B) : Since B' u v := fun j hj => (h j hj).imp id (Nat.le_trans hb)

section
variable {P : Program} (w : World)

theorem run_append_row (t ty e : TypeId) (i : TypeInfo) (z : Value) (size bytes : Nat) (ht : P.underlying t = some (.slice e)) (hi : P.info? e = some i) (hz : i.zero = some z)
    (hsize : i.size = size) (hby : i.bytes = bytes) (hzs : z.cells.size = size) (hsz : 0 < size)
    (v : Value) (n : Nat) (xs : List Value) (hown : w.ownsRow 0 e size v n xs)
    (s : Value) (m : Nat) (news : List Value) (hsrc : w.ownsRow 0 e size s m news) (h1 : ∀ u ∈ news, u.oneCell' = true)
    (h63 : n + m ≤ 1000000000) (hbytes : bytes ≤ 100000) :
    ∃ a' c' w', (Builtin.append_ #[t, t] ty #[v, s]).run P w = .ok (.slice a' (n + m) c') w' ∧ w'.ownsRow 0 e size (.slice a' (n + m) c') (n + m) (xs ++ news) ∧ w.grownBy w' v.ownBlock ∧ Since w.heap.size v (.slice a' (n + m) c') := by
  have hmax : n + m ≤ maxLen := by simp only [maxLen]; omega
  have hb47 : (n + m) * bytes ≤ 140737488355328 := Nat.le_trans (Nat.mul_le_mul h63 hbytes) (by omega)
  rcases hsrc.2 with ⟨rfl, rfl⟩ | ⟨gs, cs, curs, rfl, _, hgs, _⟩
  · -- nothing to append
    have hn : news = [] := List.eq_nil_of_length_eq_zero (by simpa using hsrc.1)
    subst hn
    have hr := run_append_owned_none (P := P) w 0 t ty e i size ht hi v n xs hown
    rcases hown.2 with ⟨rfl, rfl⟩ | ⟨g, cap, cur, rfl, _⟩
    · exact ⟨none, 0, w, by simpa using hr, by simpa using hown, ⟨rfl, rfl, rfl, Nat.le_refl _, fun _ _ _ => rfl⟩, Since.refl _ _⟩
    · exact ⟨some ⟨g, 0, none⟩, cap, w, by simpa using hr, by simpa using hown, ⟨rfl, rfl, rfl, Nat.le_refl _, fun _ _ _ => rfl⟩, Since.refl _ _⟩
  · have hcells : ∀ j u, news[j]? = some u → w.cell? ((⟨gs, 0, none⟩ : Addr).add j) = some u := hsrc.cells (g := gs) rfl
    obtain ⟨v', w', hr, h2, h3, _⟩ := run_append_own (P := P) w 0 t ty e i z size bytes ht hi hz hsize hby hzs hsz v n xs hown ⟨gs, 0, none⟩ m cs news hsrc.1 hcells h1 hmax hb47 (Nat.zero_le _)
    -- which block?
    have hfr : Since w.heap.size v v' := by
      intro k hk
      subst hsize
      rcases hown.2 with ⟨rfl, rfl⟩ | ⟨g, cap, cur, rfl, hbg, hg, hnc, hcm, hcs, htake⟩
      · by_cases hm : m = 0
        · subst hm
          have hx : xs = [] := List.eq_nil_of_length_eq_zero (by simpa using hown.1)
          rcases h2.2 with ⟨rfl, _⟩ | ⟨g', cap', cur', rfl, _, hg', hnc', _⟩
          · simp [Value.ownBlock] at hk
          · have hr' : (Builtin.append_ #[t, t] ty #[.slice none 0 0, .slice (some ⟨gs, 0, none⟩) 0 cs]).run P w = .ok (.slice none 0 0) w := by
              simp [Builtin.append_, run_underlying ht, sizeOf, typeInfo, hi, Builtin.lenOf, Builtin.firstCells, loadCells, loadCellsFrom]
            rw [hr'] at hr
            simp at hr
        · rw [run_append_nil (P := P) w t ty e i z ht hi hz ⟨gs, 0, none⟩ m cs news hsrc.1 hcells (by omega) (by omega) (by rw [hby]; have := hb47; simp only [Nat.zero_add] at this; omega)] at hr
          simp only [Result.ok.injEq] at hr
          rw [← hr.1] at hk
          simp only [Value.ownBlock, Option.some.injEq] at hk
          exact .inr (by omega)
      · by_cases hroom : n + m ≤ cap
        · have hfit : n * i.size + news.length ≤ cur.size := by rw [hsrc.1, hcs, ← Nat.add_mul]; exact Nat.mul_le_mul_right _ hroom
          rw [run_append_room (P := P) w t ty e i ht hi g n cap cur hg ⟨gs, 0, none⟩ m cs news hsrc.1 hcells h1 hroom hfit] at hr
          simp only [Result.ok.injEq] at hr
          rw [← hr.1] at hk
          exact .inl hk
        · have holds : ∀ j u, xs[j]? = some u → w.cell? ((⟨g, 0, none⟩ : Addr).add j) = some u := hown.cells (g := g) rfl
          rw [run_append_grow (P := P) w t ty e i z ht hi hz ⟨g, 0, none⟩ n cap xs hown.1 holds ⟨gs, 0, none⟩ m cs news hsrc.1 hcells (by omega) (by omega) (by rw [hby]; exact growslice_fits (by omega) hb47)] at hr
          simp only [Result.ok.injEq] at hr
          rw [← hr.1] at hk
          simp only [Value.ownBlock, Option.some.injEq] at hk
          exact .inr (by omega)
    rcases h2.2 with ⟨rfl, h0⟩ | ⟨g', cap', cur', rfl, _⟩
    · have : n + m = 0 := h0
      rw [this] at h2 ⊢
      exact ⟨none, 0, w', hr, h2, h3, hfr⟩
    · exact ⟨some ⟨g', 0, none⟩, cap', w', hr, h2, h3, hfr⟩

/-- append as a step of the walk -/
theorem wpList_append_row {ops : Array Oper} {rest : List Oper} {o : Oper} {a : Act} {Q : Exit → Act → World → Prop} (hgd : o.guard = none) (s x : Operand) (t : TypeId)
    (ho : o.op = .call { callee := .builtin .append, args := #[s, x], argTypes := #[t, t] })
    (e : TypeId) (i : TypeInfo) (z : Value) (size bytes : Nat) (ht : P.underlying t = some (.slice e)) (hi : P.info? e = some i) (hz : i.zero = some z)
    (hsize : i.size = size) (hby : i.bytes = bytes) (hzs : z.cells.size = size) (hsz : 0 < size)
    (v : Value) (n : Nat) (xs : List Value) (hs : a.eval s = v) (hown : w.ownsRow 0 e size v n xs)
    (sv : Value) (m : Nat) (news : List Value) (hx : a.eval x = sv) (hsrc : w.ownsRow 0 e size sv m news) (h1 : ∀ u ∈ news, u.oneCell' = true)
    (h63 : n + m ≤ 1000000000) (hbytes : bytes ≤ 100000)
    (h : ∀ a' c' w', w'.ownsRow 0 e size (.slice a' (n + m) c') (n + m) (xs ++ news) → w.grownBy w' v.ownBlock → Since w.heap.size v (.slice a' (n + m) c') → wpList P ops Q rest (a.put o.dst (.slice a' (n + m) c')) w') : wpList P ops Q (o :: rest) a w := by
  refine wpList_plain hgd fun _ hK => ?_
  obtain ⟨a', c', w', hr, h2, h3, h4⟩ := run_append_row (P := P) w t o.type e i z size bytes ht hi hz hsize hby hzs hsz v n xs hown sv m news hsrc h1 h63 hbytes
  unfold Oper.wp execOp
  simp only [ho, resolve, invoke, builtin, Sem.run_bind, Sem.run_pure, Result.andThen_ok, List.map_toArray, List.map_cons, List.map_nil, hs, hx, hr]
  exact hK _ _ (h a' c' w' h2 h3 h4)
end

/-- a row that is an array just laid -/
theorem ownsRow_new (w : World) (cs : Array Value) (e : TypeId) (size n : Nat) (hm : n ≤ 1000000000) (hs : cs.size = n * size) :
    (w.alloc (.cells cs e)).ownsRow 0 e size (.slice (some ⟨w.heap.size, 0, none⟩) n n) n cs.toList :=
  World.ownsRow_lit (base := 0) w cs n (Nat.zero_le _) (by simp only [maxLen]; omega) hs

end Go.Proofs.YtnimnoodpnhodaaDoor

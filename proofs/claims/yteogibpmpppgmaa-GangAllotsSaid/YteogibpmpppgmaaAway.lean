/- reading where only some blocks may have been written -/
import Derived.Test.YteogibpmpppgmaaRow
import Derived.Shelf.GgSortFunc.Insertion
import Derived.Lib.OwnBridge
namespace Go.Proofs.Yteogibpmpppgmaa
open Go.RowKit

section
variable {w W V : World} {bs : List (Nat × Array Value × TypeId)} {os : List Rw} {rs : List (World → Prop)} {own : List Nat}
theorem away_cell (h : Away own W V) {b k : Nat} (hb : b < W.heap.size) (hn : b ∉ own) : V.cell? ⟨b, k, none⟩ = W.cell? ⟨b, k, none⟩ := World.cell?_of_block (a := ⟨b, k, none⟩) (h.2 b hb hn)
theorem Sx.away {size n c : Nat} {a : Option Addr} {xs : List Value} (hs : Sx size W a n c xs) (h : Away own W V) (hn : ∀ g o, a = some ⟨g, o, none⟩ → g ∉ own) : Sx size V a n c xs := by
  refine ⟨hs.1, hs.2.1, hs.2.2.1, fun h0 => ?_⟩
  obtain ⟨g, o, e, hg, hc⟩ := hs.2.2.2 h0
  exact ⟨g, o, e, Nat.lt_of_lt_of_le hg h.1, fun k u hk => (away_cell h hg (hn g o e)).trans (hc k u hk)⟩
theorem away_sort {α : Type} [Inhabited α] (enc : α → Value) (W : World) (g m : Nat) (dk : Array α) (os : Array Obj) : Away [g] W (sortWorld enc W g 0 m dk os) := by
  refine ⟨by show W.heap.size ≤ ((Go.Sort.putRow enc (Go.Sort.ahead W m) g 0 dk).heap ++ os).size; rw [Array.size_append, Go.Sort.size_putRow]; show W.heap.size ≤ W.heap.size + _; omega, fun b hb hn => ?_⟩
  have hne : b ≠ g := fun e => hn (by rw [e]; exact List.mem_singleton.2 rfl)
  show ((Go.Sort.putRow enc (Go.Sort.ahead W m) g 0 dk).heap ++ os)[b]? = _
  rw [Array.getElem?_append_left (by rw [Go.Sort.size_putRow]; exact hb)]
  show (W.heap.modify g _)[b]? = _
  rw [Array.getElem?_modify, if_neg (fun e => hne e.symm)]
/-- a row of one's own that the library has sorted -/
theorem Sy.sorted {α : Type} [Inhabited α] {enc : α → Value} (h : Sy w W bs os rs) (i : Nat) {g n c : Nat} {e : TypeId} {zs ys : List α} (hi : os[i]? = some ⟨.slice (some ⟨g, 0, none⟩) n c, e, 1, n, zs.map enc⟩) (hy : ys.length = n) (m : Nat) (os' : Array Obj) :
    Sy w (sortWorld enc W g 0 m ys.toArray os') bs (os.set i ⟨.slice (some ⟨g, 0, none⟩) n c, e, 1, n, ys.map enc⟩) rs := by
  have h1 := Go.Lib.ownsRow_putRow (q := m) (k := n) (ys := ys) (h.orow0 i hi) hy (Nat.le_refl n)
  rw [List.take_of_length_le (by omega)] at h1
  have hA := away_sort enc W g m ys.toArray os'
  refine h.oset i hi (World.ownsRow.kept (row := none) h1 ⟨rfl, rfl, rfl, ?_, fun k hk _ => ?_⟩ (.inr (by simp [Value.ownBlock]))) ⟨rfl, rfl, rfl, hA.1, fun k hk hn => hA.2 k hk (fun hm => hn (by rw [List.mem_singleton.1 hm]; rfl))⟩ (fun k hk => .inl hk)
  · show _ ≤ (_ ++ os').size
    rw [Array.size_append]; omega
  · show (_ ++ os')[k]? = _
    rw [Array.getElem?_append_left hk]
theorem Sy.oaddr (h : Sy w W bs os rs) (i : Nat) {a : Option Addr} {n c : Nat} {e : TypeId} {size : Nat} {xs : List Value} (hi : os[i]? = some ⟨.slice a n c, e, size, n, xs⟩) (hn : 0 < n) : ∃ g, a = some ⟨g, 0, none⟩ ∧ n ≤ c := by
  rcases (h.orow i hi).2 with ⟨h1, h2⟩ | ⟨g, cap, cur, hv, _, _, h4, _⟩
  · omega
  · simp only [Value.slice.injEq] at hv
    obtain ⟨rfl, _, rfl⟩ := hv
    exact ⟨g, rfl, h4⟩
end

end Go.Proofs.Yteogibpmpppgmaa

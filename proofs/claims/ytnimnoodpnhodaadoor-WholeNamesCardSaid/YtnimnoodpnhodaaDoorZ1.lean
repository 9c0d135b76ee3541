/- the integers: Neg, Abs -/
import Derived.Test.YtnimnoodpnhodaaDoorZ0
import Derived.Test.YtnimnoodpnhodaaDoorPlus
import Derived.Test.YtnimnoodpnhodaaDoorTimes
import Derived.Test.YtnimnoodpnhodaaDoorSize
import Derived.Test.YtnimnoodpnhodaaDoorShift
namespace Go.Proofs.YtnimnoodpnhodaaDoor
open Go.RowKit Dig

/-- a block that holds an integer -/
def Bz (w : World) (b : Nat) (s : Value) (m : Bool) : Prop := w.heap[b]? = some (.cells #[s, .bool m] 27 (0, 0))
theorem Bz.lt {w : World} {b : Nat} {s : Value} {m : Bool} (h : Bz w b s m) : b < w.heap.size := (Array.getElem?_eq_some_iff.1 h).1
theorem Bz.c0 {w : World} {b : Nat} {s : Value} {m : Bool} (h : Bz w b s m) : w.cell? ⟨b, 0, none⟩ = some s := by
  unfold Bz at h; simp [World.cell?, h]
theorem Bz.c1 {w : World} {b : Nat} {s : Value} {m : Bool} (h : Bz w b s m) : w.cell? ⟨b, 1, none⟩ = some (.bool m) := by
  unfold Bz at h; simp [World.cell?, h]
theorem Bz.f0 {w : World} {b : Nat} {s : Value} {m : Bool} (h : Bz w b s m) : w.frozen? ⟨b, 0, none⟩ = false := by
  unfold Bz at h; simp [World.frozen?, h]
theorem Bz.f1 {w : World} {b : Nat} {s : Value} {m : Bool} (h : Bz w b s m) : w.frozen? ⟨b, 1, none⟩ = false := by
  unfold Bz at h; simp [World.frozen?, h]
theorem Bz.new' {w : World} {b : Nat} {s : Value} {m : Bool} (h : b = w.heap.size) : Bz (w.alloc (.cells #[s, .bool m] 27)) b s m := by
  subst h; unfold Bz World.alloc; simp
theorem Bz.alloc {w : World} {b : Nat} {s : Value} {m : Bool} (h : Bz w b s m) (o : Obj) : Bz (w.alloc o) b s m := (Below.heap_alloc _ _ _ h.lt).trans h
theorem Bz.below {w w' : World} {b : Nat} {s : Value} {m : Bool} (h : Bz w b s m) (hb : Below w.heap.size w w') : Bz w' b s m := (hb.block b h.lt).trans h
theorem Bz.drew {w : World} {b : Nat} {s : Value} {m : Bool} (h : Bz w b s m) : Bz w.drew b s m := h

theorem Bz.set {w : World} {b : Nat} {s : Value} {m : Bool} (h : Bz w b s m) (s' : Value) (m' : Bool) : Bz ((w.setCell ⟨b, 0, none⟩ s').setCell ⟨b, 1, none⟩ (.bool m')) b s' m' := by
  unfold Bz at h ⊢
  simp [World.setCell, Array.getElem?_modify, h]
theorem Bz.other {w : World} {b g k : Nat} {s : Value} {m : Bool} (h : Bz w b s m) (hne : b ≠ g) (u : Value) : Bz (w.setCell ⟨g, k, none⟩ u) b s m := (Below.heap_setCell _ _ _ _ hne).trans h
theorem Sl.ne_bz {t : TypeId} {w : World} {v s : Value} {m : Bool} {xs : List Int} {b : Nat} (h : Sl t w v xs) (hb : Bz w b s m) (hne : t ≠ 27) : v.ownBlock ≠ some b := by
  intro e
  rcases h.2 with ⟨rfl, _⟩ | ⟨g, cap, cur, rfl, _, hg, _⟩
  · simp [Value.ownBlock] at e
  · simp only [Value.ownBlock, Option.some.injEq] at e
    subst e
    unfold Bz at hb
    rw [hg] at hb
    simp only [Option.some.injEq, Obj.cells.injEq] at hb
    exact hne hb.2.1
theorem Zd.set {w : World} {b : Nat} {s s' u : Value} {k : Nat} {m m' : Bool} {z : Int} (h : Zd w s m z) (hb : Bz w b s' m') : Zd (w.setCell ⟨b, k, none⟩ u) s m z := ⟨Sl.other h.d (Sl.ne_bz h.d hb (by decide)) _, h.m⟩
theorem Zd.set2 {w : World} {b : Nat} {s s' u u' : Value} {m m' : Bool} {z : Int} (h : Zd w s m z) (hb : Bz w b s' m') : Zd ((w.setCell ⟨b, 0, none⟩ u).setCell ⟨b, 1, none⟩ u') s m z :=
  ⟨Sl.other (Sl.other h.d (Sl.ne_bz h.d hb (by decide)) _) (Sl.ne_bz h.d hb (by decide)) _, h.m⟩

/-- the end of a method that stores an integer into its result's block and returns it -/
theorem fin_Z {w W w2 : World} {R : Nat} {a : Option Addr} {n c : Nat} {m m0 : Bool} {s0 : Value} {z : Int} (hB : Below w.heap.size w W) (hb : Below W.heap.size W w2) (hR : Bz w2 R s0 m0) (hR0 : w.heap.size ≤ R) (hz : Zd w2 (.slice a n c) m z) :
    RetZ w z (.returned (.agg #[.slice a n c, .bool m])) ((w2.setCell ⟨R, 0, none⟩ (.slice a n c)).setCell ⟨R, 1, none⟩ (.bool m)) :=
  ⟨a, n, c, m, rfl, hz.set2 hR, ((hB.trans (hb.mono hB.size)).setCell hR0 _).setCell hR0 _⟩

set_option maxHeartbeats 400000 in
theorem neg_any (a : Option Addr) (n c : Nat) (m : Bool) (z : Int) (w : World) (h : Zd w (.slice a n c) m z) :
    Calls Tryd.prog 41 #[.agg #[.slice a n c, .bool m]] w (RetZ w (-z)) := by
  go_enter Tryd.func41, Tryd.ntmps41
  have hd := Lib.hid ((h.d.alloc (.cells #[.slice a n c, .bool m] 27)).alloc (.cells #[.slice none 0 0, .bool false] 27))
  have hm := Lib.hid h.m
  have hX := Lib.hid (Bz.new' (w := w.alloc (.cells #[.slice a n c, .bool m] 27)) (s := .slice none 0 0) (m := false) (b := w.heap.size + 1) (by simp))
  have hW := Lib.hid (((Below.refl w.heap.size w).alloc (Nat.le_refl _) (.cells #[.slice a n c, .bool m] 27)).alloc (by go_size) (.cells #[.slice none 0 0, .bool false] 27))
  clear h
  go_wp2_with fail
  refine (made_any (!m) a n c z.natAbs _ hd.out (-z) ?hz).mono ?_
  case hz => rw [hm.out]; by_cases h : z < 0 <;> simp [h] <;> omega
  rintro e w' ⟨a3, n3, c3, m3, rfl, hz, hb⟩
  have hB := Lib.hid (hX.out.below hb)
  have c0 := hB.out.c0
  have c1 := hB.out.c1
  have f0 := hB.out.f0
  have f1 := hB.out.f1
  have HZ := Lib.hid hz
  have HB := Lib.hid hb
  clear hz hb
  go_wp2
  have bs := fun u u' => (hB.out.set u u').c0
  have bs1 := fun u u' => (hB.out.set u u').c1
  exact bodyPost_ret (v := .agg #[.slice a3 n3 c3, .bool m3]) (by simp [results, Tryd.results41, go_sem, bs, bs1]) rfl (fin_Z hW.out HB.out hB.out (by simp) HZ.out)

set_option maxHeartbeats 400000 in
theorem abs_any (a : Option Addr) (n c : Nat) (m : Bool) (z : Int) (w : World) (h : Zd w (.slice a n c) m z) :
    Calls Tryd.prog 40 #[.agg #[.slice a n c, .bool m]] w (RetZ w z.natAbs) := by
  go_enter Tryd.func40, Tryd.ntmps40
  have hd := Lib.hid ((h.d.alloc (.cells #[.slice a n c, .bool m] 27)).alloc (.cells #[.slice none 0 0, .bool false] 27))
  have hX := Lib.hid (Bz.new' (w := w.alloc (.cells #[.slice a n c, .bool m] 27)) (s := .slice none 0 0) (m := false) (b := w.heap.size + 1) (by simp))
  have hW := Lib.hid (((Below.refl w.heap.size w).alloc (Nat.le_refl _) (.cells #[.slice a n c, .bool m] 27)).alloc (by go_size) (.cells #[.slice none 0 0, .bool false] 27))
  clear h
  go_wp2_with fail
  refine (made_any false a n c z.natAbs _ hd.out z.natAbs ?hz).mono ?_
  case hz => rfl
  rintro e w' ⟨a3, n3, c3, m3, rfl, hz, hb⟩
  have hB := Lib.hid (hX.out.below hb)
  have c0 := hB.out.c0
  have c1 := hB.out.c1
  have f0 := hB.out.f0
  have f1 := hB.out.f1
  have HZ := Lib.hid hz
  have HB := Lib.hid hb
  clear hz hb
  go_wp2
  have bs := fun u u' => (hB.out.set u u').c0
  have bs1 := fun u u' => (hB.out.set u u').c1
  exact bodyPost_ret (v := .agg #[.slice a3 n3 c3, .bool m3]) (by simp [results, Tryd.results40, go_sem, bs, bs1]) rfl (fin_Z hW.out HB.out hB.out (by simp) HZ.out)

end Go.Proofs.YtnimnoodpnhodaaDoor

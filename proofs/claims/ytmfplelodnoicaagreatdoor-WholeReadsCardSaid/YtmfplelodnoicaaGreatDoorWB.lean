/- Digits in memory: the words of the contracts. -/
/- whole.settled: digits of any size are carried; the result is the number's digits. -/
/- (digits).plus: a + k b, k = 1 or -1, where it is not below 0 -/
/- (digits).times: the product -/
/- (digits).half, shifted, even -/
/- (digits).shifted, word -/
/- (digits).size, even; divisor -/
/- (digits).down: the digits from the highest on; word -/
/- none, made -/
/- leading, share: a guess that is not below 0 and not too great -/
import Derived.Test.YtmfplelodnoicaaGreatDoorProg
import Derived.Test.YtmfplelodnoicaaGreatDoorWA
import Derived.WalkKit
import Derived.Deep.QuietTactic
import Derived.BigQuiet
import Derived.Lib.Hide
import Derived.Handy
import Derived.WalkLawsBesides
import Derived.Laws.CopyOwn
import Derived.Deep.RegionHeld3
import Derived.RangeFuncNested
import Derived.RangeFuncBound
import Derived.RangeFuncCalls
import Derived.RangeFuncLeaves
import Derived.RangeFuncBox
import Derived.RangeFuncWrites
import Derived.Shelf.Abstract
import Derived.Shelf.RegionOpen
import Derived.OwnWalkIn
import Derived.TacticsInMore
import Derived.LoopNIn
import Derived.LoopIn
namespace Go.Proofs.YtmfplelodnoicaaGreatDoor
open Go.RowKit Dig

theorem info_i64 : (Tryz.prog.info? 2).map (fun i => (i.zero, i.size, i.bytes)) = some (some (.int .i64 0), 1, 8) := by kernel_rfl

theorem size_i64 : (Tryz.prog.info? 2).map (·.size) = some 1 := by kernel_rfl

def I64 (l : List Int) : List Value := l.map (Value.int .i64)

theorem I64_len (l : List Int) : (I64 l).length = l.length := List.length_map _
theorem I64_append (l r : List Int) : I64 (l ++ r) = I64 l ++ I64 r := List.map_append
theorem I64_set (l : List Int) (k : Nat) (y : Int) : (I64 l).set k (.int .i64 y) = I64 (l.set k y) := by
  unfold I64; rw [List.map_set]
theorem I64_get (l : List Int) (k : Nat) (h : k < l.length) : (I64 l)[k]? = some (.int .i64 l[k]) := by
  unfold I64; rw [List.getElem?_map, List.getElem?_eq_getElem h]; rfl
theorem I64_take (l : List Int) (k : Nat) : (I64 l).take k = I64 (l.take k) := List.map_take.symm

theorem i64_mask24 (n : Int) : bits .and .i64 n 16777215 = n % 16777216 := by
  have h24 : (BitVec.ofInt 64 16777215).toNat = 2 ^ 24 - 1 := by decide
  have key : (BitVec.ofInt 64 n &&& BitVec.ofInt 64 16777215).toNat = (n % ((2 ^ 64 : Nat) : Int)).toNat % 2 ^ 24 := by
    rw [BitVec.toNat_and, BitVec.toNat_ofInt, h24, Nat.and_two_pow_sub_one_eq_mod]
  show IntKind.i64.wrap ((BitVec.ofInt 64 n &&& BitVec.ofInt 64 16777215).toNat : Nat) = n % 16777216
  rw [key, IntKind.wrap_i64]
  omega
theorem i64_mask1 (n : Int) : bits .and .i64 n 1 = n % 2 := by
  have h24 : (BitVec.ofInt 64 1).toNat = 2 ^ 1 - 1 := by decide
  have key : (BitVec.ofInt 64 n &&& BitVec.ofInt 64 1).toNat = (n % ((2 ^ 64 : Nat) : Int)).toNat % 2 ^ 1 := by
    rw [BitVec.toNat_and, BitVec.toNat_ofInt, h24, Nat.and_two_pow_sub_one_eq_mod]
  show IntKind.i64.wrap ((BitVec.ofInt 64 n &&& BitVec.ofInt 64 1).toNat : Nat) = n % 2
  rw [key, IntKind.wrap_i64]
  omega

theorem u64_mask24 (n : Nat) (h : n < 18446744073709551616) : bits .and .u64 (n : Int) 16777215 = ((n % 16777216 : Nat) : Int) := by
  have := u64_and_nat n 16777215 h (by decide)
  rw [show ((16777215 : Nat) : Int) = 16777215 from rfl] at this
  rw [this, show (16777215 : Nat) = 2 ^ 24 - 1 from rfl, Nat.and_two_pow_sub_one_eq_mod]

/-- a slice of int64 (int; t: the element's type) that lies at the head of a row of its own reads as xs -/
def Sl (t : TypeId) (w : World) (v : Value) (xs : List Int) : Prop := w.ownsRow 0 t 1 v xs.length (I64 xs)

/-- a slice of digits reads as the number N -/
def Dg (w : World) (v : Value) (N : Nat) : Prop := Sl 2 w v (dg 16777216 N)

theorem Sl.lt {t : TypeId} {w : World} {v : Value} {xs : List Int} (h : Sl t w v xs) : ∀ k, v.ownBlock = some k → k < w.heap.size := fun k hk => (World.ownsRow.lt h k hk).2
theorem Sl.below {t : TypeId} {w w' : World} {v : Value} {xs : List Int} {B : Nat} (h : Sl t w v xs) (hb : Below B w w') (hB : ∀ k, v.ownBlock = some k → k < B) : Sl t w' v xs := by
  refine ⟨h.1, ?_⟩
  rcases h.2 with hn | ⟨g, cap, cur, rfl, hb0, hg, rest⟩
  · exact .inl hn
  · exact .inr ⟨g, cap, cur, rfl, hb0, by rw [hb.block g (hB g rfl)]; exact hg, rest⟩
theorem Sl.mono {t : TypeId} {w w' : World} {v : Value} {xs : List Int} (h : Sl t w v xs) (hb : Below w.heap.size w w') : Sl t w' v xs := h.below hb h.lt
theorem Sl.alloc {t : TypeId} {w : World} {v : Value} {xs : List Int} (h : Sl t w v xs) (o : Obj) : Sl t (w.alloc o) v xs := World.ownsRow.alloc h o
theorem Sl.drew {t : TypeId} {w : World} {v : Value} {xs : List Int} (h : Sl t w v xs) : Sl t w.drew v xs := h
theorem Sl.nil {t : TypeId} {w : World} : Sl t w (.slice none 0 0) [] := World.ownsRow_nil w 0 _ 1
theorem Sl.len {t : TypeId} {w : World} {a : Option Addr} {n c : Nat} {xs : List Int} (h : Sl t w (.slice a n c) xs) : n = xs.length := by
  rcases h.2 with ⟨h1, h2⟩ | ⟨g, cap, cur, h1, _⟩
  · simp only [Value.slice.injEq] at h1; omega
  · simp only [Value.slice.injEq] at h1; exact h1.2.1
theorem Sl.slice {t : TypeId} {w : World} {v : Value} {xs : List Int} (h : Sl t w v xs) : ∃ a n c, v = .slice a n c := by
  rcases h.2 with ⟨h1, _⟩ | ⟨g, cap, cur, h1, _⟩
  · exact ⟨_, _, _, h1⟩
  · exact ⟨_, _, _, h1⟩
/-- where there is a digit, there is a row -/
theorem Sl.row {t : TypeId} {w : World} {a : Option Addr} {n c : Nat} {xs : List Int} (h : Sl t w (.slice a n c) xs) (hp : 0 < xs.length) : ∃ g, a = some ⟨g, 0, none⟩ ∧ g < w.heap.size := by
  rcases h.2 with ⟨h1, h2⟩ | ⟨g, cap, cur, h1, _, h3, _⟩
  · omega
  · simp only [Value.slice.injEq] at h1; exact ⟨g, h1.1, (Array.getElem?_eq_some_iff.1 h3).1⟩
theorem Sl.nil_or_row {t : TypeId} {w : World} {a : Option Addr} {n c : Nat} {xs : List Int} (h : Sl t w (.slice a n c) xs) : (a = none ∧ n = 0 ∧ c = 0 ∧ xs = []) ∨ ∃ g, a = some ⟨g, 0, none⟩ ∧ g < w.heap.size ∧ n = xs.length ∧ n ≤ c := by
  rcases h.2 with ⟨h1, h2⟩ | ⟨g, cap, cur, h1, _, h3, h4, _⟩
  · simp only [Value.slice.injEq] at h1; exact .inl ⟨h1.1, h1.2.1, h1.2.2, List.eq_nil_of_length_eq_zero h2⟩
  · simp only [Value.slice.injEq] at h1
    refine .inr ⟨g, h1.1, (Array.getElem?_eq_some_iff.1 h3).1, h1.2.1, ?_⟩
    rw [h1.2.1, h1.2.2]; exact h4
theorem Sl.cap {t : TypeId} {w : World} {a : Option Addr} {n c : Nat} {xs : List Int} (h : Sl t w (.slice a n c) xs) : n ≤ c := by
  rcases h.nil_or_row with ⟨_, rfl, rfl, _⟩ | ⟨_, _, _, _, h4⟩
  · exact Nat.le_refl _
  · exact h4
theorem Sl.other {t : TypeId} {w : World} {v : Value} {xs : List Int} (h : Sl t w v xs) {g k : Nat} (hne : v.ownBlock ≠ some g) (u : Value) : Sl t (w.setCell ⟨g, k, none⟩ u) v xs := by
  refine ⟨h.1, ?_⟩
  rcases h.2 with hn | ⟨g', cap, cur, rfl, hb0, hg, rest⟩
  · exact .inl hn
  · refine .inr ⟨g', cap, cur, rfl, hb0, ?_, rest⟩
    rw [Below.heap_setCell _ _ _ _ (fun e => hne (by simp only [Value.ownBlock]; rw [e]))]
    exact hg
theorem Sl.cell {t : TypeId} {w : World} {g n c : Nat} {xs : List Int} (h : Sl t w (.slice (some ⟨g, 0, none⟩) n c) xs) {k : Nat} (hk : k < xs.length) : w.cell? ⟨g, k, none⟩ = some (.int .i64 xs[k]) := by
  have hn := h.len; subst hn
  rw [World.ownsRow.cellAt h k (by omega), I64_get _ _ hk]
theorem Sl.free {t : TypeId} {w : World} {g n c : Nat} {xs : List Int} (h : Sl t w (.slice (some ⟨g, 0, none⟩) n c) xs) (k : Nat) : w.frozen? ⟨g, k, none⟩ = false := by
  have hn := h.len; subst hn
  exact World.ownsRow.frozenAt h k
theorem Sl.set {t : TypeId} {w : World} {g n c : Nat} {xs : List Int} (h : Sl t w (.slice (some ⟨g, 0, none⟩) n c) xs) (k : Nat) (y : Int) : Sl t (w.setCell ⟨g, k, none⟩ (.int .i64 y)) (.slice (some ⟨g, 0, none⟩) n c) (xs.set k y) := by
  have hn := h.len; subst hn
  have := (World.ownsRow.stored h k (.int .i64 y)).1
  rw [I64_set] at this
  unfold Sl
  rw [List.length_set]
  exact this
theorem Sl.grown {t : TypeId} {w w' : World} {v : Value} {xs : List Int} {row : Option Nat} (h : Sl t w v xs) (hg : w.grownBy w' row) (hne : v.ownBlock = none ∨ v.ownBlock ≠ row) : Sl t w' v xs := World.ownsRow.kept h hg hne
/-- the slice without its last element -/
theorem Sl.pop {t : TypeId} {w : World} {g n c : Nat} {xs : List Int} (h : Sl t w (.slice (some ⟨g, 0, none⟩) n c) xs) {k : Nat} (hk : k ≤ xs.length) : Sl t w (.slice (some ⟨g, 0, none⟩) k c) (xs.take k) := by
  have hn := h.len; subst hn
  rcases h.2 with ⟨h1, h2⟩ | ⟨g', cap, cur, h1, h2, h3, h4, h5, h6, h7⟩
  · simp at h1
  · simp only [Value.slice.injEq, Option.some.injEq, Addr.mk.injEq, and_true, true_and] at h1
    obtain ⟨rfl, rfl⟩ := h1
    have hl : (xs.take k).length = k := by rw [List.length_take, Nat.min_eq_left hk]
    refine ⟨by rw [I64_len]; omega, .inr ⟨g, c, cur, by rw [hl], Nat.zero_le _, h3, by omega, h5, h6, ?_⟩⟩
    rw [← I64_take, ← h7, List.take_take, hl]
    congr 1
    omega

/-- a block of one cell -/
def Box (w : World) (b : Nat) (v : Value) (t : TypeId) : Prop := w.heap[b]? = some (.cells #[v] t (0, 0))
theorem Box.cell {w : World} {b : Nat} {v : Value} {t : TypeId} (h : Box w b v t) : w.cell? ⟨b, 0, none⟩ = some v := by
  unfold Box at h; simp [World.cell?, h]
theorem Box.free {w : World} {b : Nat} {v : Value} {t : TypeId} (h : Box w b v t) : w.frozen? ⟨b, 0, none⟩ = false := by
  unfold Box at h; simp [World.frozen?, h]
theorem Box.new (w : World) (v : Value) (t : TypeId) : Box (w.alloc (.cells #[v] t)) w.heap.size v t := by
  unfold Box World.alloc; simp
theorem Box.set {w : World} {b : Nat} {v : Value} {t : TypeId} (h : Box w b v t) (u : Value) : Box (w.setCell ⟨b, 0, none⟩ u) b u t := by
  unfold Box at h ⊢
  simp [World.setCell, Array.getElem?_modify, h]
theorem Box.other {w : World} {b g k : Nat} {v : Value} {t : TypeId} (h : Box w b v t) (hne : b ≠ g) (u : Value) : Box (w.setCell ⟨g, k, none⟩ u) b v t := (Below.heap_setCell _ _ _ _ hne).trans h
theorem Box.alloc {w : World} {b : Nat} {v : Value} {t : TypeId} (h : Box w b v t) (o : Obj) : Box (w.alloc o) b v t := (Below.heap_alloc _ _ _ (Array.getElem?_eq_some_iff.1 h).1).trans h
theorem Box.new' {w : World} {b : Nat} {v : Value} {t : TypeId} (h : b = w.heap.size) : Box (w.alloc (.cells #[v] t)) b v t := by
  subst h; exact Box.new w v t
theorem Box.lt {w : World} {b : Nat} {v : Value} {t : TypeId} (h : Box w b v t) : b < w.heap.size := (Array.getElem?_eq_some_iff.1 h).1
theorem Box.below {w w' : World} {b B : Nat} {v : Value} {t : TypeId} (h : Box w b v t) (hb : Below B w w') (hB : b < B) : Box w' b v t := (hb.block b hB).trans h
theorem Box.grown {w w' : World} {b : Nat} {v : Value} {t : TypeId} {row : Option Nat} (h : Box w b v t) (hg : w.grownBy w' row) (hne : some b ≠ row) : Box w' b v t := (hg.block b h.lt hne).trans h

theorem heap_alloc_get (w : World) (o : Obj) (k : Nat) : (w.alloc o).heap[k]? = if k = w.heap.size then some o else w.heap[k]? := by
  show (w.heap.push o)[k]? = _
  rw [Array.getElem?_push]

theorem grownBy_trans {w1 w2 w3 : World} {row : Option Nat} (h : w1.grownBy w2 row) (k : w2.grownBy w3 row) : w1.grownBy w3 row :=
  ⟨k.os.trans h.os, k.tape.trans h.tape, k.output.trans h.output, Nat.le_trans h.size k.size, fun i hi hne => (k.block i (Nat.lt_of_lt_of_le hi h.size) hne).trans (h.block i hi hne)⟩
/-- a row of another element type lies elsewhere -/
theorem Sl.ne_box {t t' : TypeId} {w : World} {v u : Value} {xs : List Int} {b : Nat} (h : Sl t w v xs) (hb : Box w b u t') (hne : t ≠ t') : v.ownBlock ≠ some b := by
  intro e
  rcases h.2 with ⟨rfl, _⟩ | ⟨g, cap, cur, rfl, _, hg, _⟩
  · simp [Value.ownBlock] at e
  · simp only [Value.ownBlock, Option.some.injEq] at e
    subst e
    unfold Box at hb
    rw [hg] at hb
    simp only [Option.some.injEq, Obj.cells.injEq] at hb
    exact hne hb.2.1

theorem grownBy_on {w1 w2 w3 : World} {row row' : Option Nat} (h : w1.grownBy w2 row) (k : w2.grownBy w3 row') (hr : ∀ j, row' = some j → row = some j ∨ w1.heap.size ≤ j) : w1.grownBy w3 row :=
  ⟨k.os.trans h.os, k.tape.trans h.tape, k.output.trans h.output, Nat.le_trans h.size k.size, fun i hi hne => (k.block i (Nat.lt_of_lt_of_le hi h.size) (fun e => by
    rcases hr i e.symm with e' | e'
    · exact hne e'.symm
    · omega)).trans (h.block i hi hne)⟩
theorem grownBy_refl (w : World) (row : Option Nat) : w.grownBy w row := ⟨rfl, rfl, rfl, Nat.le_refl _, fun _ _ _ => rfl⟩
theorem grownBy_setCell (w : World) (g k : Nat) (u : Value) : w.grownBy (w.setCell ⟨g, k, none⟩ u) (some g) :=
  ⟨rfl, rfl, rfl, by simp [World.setCell], fun i _ hne => Below.heap_setCell _ _ _ _ (fun e => hne (by rw [e]))⟩
theorem grownBy_drew (w : World) (row : Option Nat) : w.grownBy w.drew row := ⟨rfl, rfl, rfl, Nat.le_refl _, fun _ _ _ => rfl⟩
theorem Below.grownBy {w w' : World} (h : Below w.heap.size w w') (row : Option Nat) : w.grownBy w' row := ⟨h.os, h.tape, h.output, h.size, fun i hi _ => h.block i hi⟩

theorem Sl.one (t : TypeId) (w : World) (x : Int) : Sl t (w.alloc (.cells #[.int .i64 x] t)) (.slice (some ⟨w.heap.size, 0, none⟩) 1 1) [x] := ownsRow_new w _ t 1 1 (by decide) rfl
theorem Sl.made (t : TypeId) (w : World) (n : Nat) (hn : n ≤ 1000000000) : Sl t (w.alloc (.cells (madeCells #[.int .i64 0] n) t)) (.slice (some ⟨w.heap.size, 0, none⟩) n n) (List.replicate n 0) := by
  have := ownsRow_new w (madeCells #[.int .i64 0] n) t 1 n hn (by rw [size_madeCells, Nat.mul_one])
  unfold Sl I64
  rw [List.length_replicate, List.map_replicate, ← toList_madeCells_one]
  exact this

theorem I64_one (l : List Int) : ∀ u ∈ I64 l, u.oneCell' = true := by
  intro u hu
  unfold I64 at hu
  obtain ⟨x, _, rfl⟩ := List.mem_map.1 hu
  rfl

/-- append onto a row of int64 (int), from such a row -/
theorem wpList_append_sl {P : Program} (w : World) {ops : Array Oper} {rest : List Oper} {o : Oper} {a : Act} {Q : Exit → Act → World → Prop} (hgd : o.guard = none) (s x : Operand) (t : TypeId)
    (ho : o.op = .call { callee := .builtin .append, args := #[s, x], argTypes := #[t, t] })
    (e : TypeId) (ht : P.underlying t = some (.slice e)) (hinfo : (P.info? e).map (fun i => (i.zero, i.size, i.bytes)) = some (some (.int .i64 0), 1, 8))
    (v : Value) (xs : List Int) (hs : a.eval s = v) (hown : Sl e w v xs) (sv : Value) (ys : List Int) (hx : a.eval x = sv) (hsrc : Sl e w sv ys) (hlen : xs.length + ys.length ≤ 1000000000)
    (h : ∀ a' n' c' w', Sl e w' (.slice a' n' c') (xs ++ ys) → w.grownBy w' v.ownBlock → Since w.heap.size v (.slice a' n' c') → wpList P ops Q rest (a.put o.dst (.slice a' n' c')) w') : wpList P ops Q (o :: rest) a w := by
  obtain ⟨i0, hi, hz0, hz1, hz2⟩ := info_parts hinfo
  refine wpList_append_row w hgd s x t ho e i0 (.int .i64 0) 1 8 ht hi hz0 hz1 hz2 rfl (by decide) v xs.length (I64 xs) hs hown sv ys.length (I64 ys) hx hsrc (I64_one ys) hlen (by decide) (fun a' c' w' h1 h2 h3 => h a' _ c' w' ?_ h2 h3)
  unfold Sl
  rw [List.length_append, I64_append]
  exact h1

/-- make of a row of int64 (int), all zero -/
theorem wpList_make_sl {P : Program} (w : World) {ops : Array Oper} {rest : List Oper} {o : Oper} {a : Act} {Q : Exit → Act → World → Prop} (hgd : o.guard = none) (l c : Operand) (t : TypeId) (hop : o.op = Op.makeSlice t l c)
    (e : TypeId) (ht : P.underlying t = some (.slice e)) (hinfo : (P.info? e).map (fun i => (i.zero, i.size, i.bytes)) = some (some (.int .i64 0), 1, 8)) (kl kc : IntKind) (L C : Int) (n m : Nat)
    (hl : a.eval l = .int kl L) (hc : a.eval c = .int kc C) (hL : L = (n : Int)) (hC : C = (m : Int)) (hnm : n ≤ m) (hm : m ≤ 1000000000)
    (h : Sl e (w.alloc (.cells (madeCells #[.int .i64 0] m) e)) (.slice (some ⟨w.heap.size, 0, none⟩) n m) (List.replicate n 0) →
      wpList P ops Q rest (a.put o.dst (.slice (some ⟨w.heap.size, 0, none⟩) n m)) (w.alloc (.cells (madeCells #[.int .i64 0] m) e))) : wpList P ops Q (o :: rest) a w := by
  obtain ⟨i0, hi, hz0, hz1, hz2⟩ := info_parts hinfo
  refine wpList_plain hgd fun K hK => ?_
  subst hL; subst hC
  have hr := run_make (P := P) w t e i0 (.int .i64 0) ht hi hz0 kl kc n m (by omega) (by omega) (by rw [hz2]; omega) (by omega)
  rw [hz1, Int.toNat_natCast, Int.toNat_natCast, Nat.mul_one] at hr
  unfold Oper.wp
  simp only [execOp, hop, hl, hc, Sem.run_bind, hr, Result.andThen]
  refine hK _ _ (h ?_)
  have := (Sl.made e w m hm).pop (k := n) (by simpa using hnm)
  rwa [List.take_replicate, Nat.min_eq_left hnm] at this

/-- copy into a row of int64 (int) from such a row that is no longer -/
theorem wpList_copy_sl {P : Program} {w : World} {ops : Array Oper} {rest : List Oper} {o : Oper} {a : Act} {Q : Exit → Act → World → Prop} (hgd : o.guard = none) (d s : Operand) (t : TypeId)
    (ho : o.op = .call { callee := .builtin .copy, args := #[d, s], argTypes := #[t, t] }) (e : TypeId) (hu : P.underlying t = some (.slice e)) (hsz : (P.info? e).map (·.size) = some 1)
    (g n c : Nat) (xs : List Int) (hd : a.eval d = .slice (some ⟨g, 0, none⟩) n c) (hx : Sl e w (.slice (some ⟨g, 0, none⟩) n c) xs) (sp : Option Addr) (m c' : Nat) (ys : List Int) (hs : a.eval s = .slice sp m c') (hy : Sl e w (.slice sp m c') ys) (hle : ys.length ≤ xs.length)
    (h : ∀ w', Sl e w' (.slice (some ⟨g, 0, none⟩) n c) (ys ++ xs.drop ys.length) → w.grownBy w' (some g) → wpList P ops Q rest (a.put o.dst (goInt ys.length)) w') : wpList P ops Q (o :: rest) a w := by
  have hn := hx.len
  have hm := hy.len
  subst hn; subst hm
  rcases hx.2 with ⟨h1, _⟩ | ⟨g', cap, cur, h1, h2, h3, h4, h5, h6, h7⟩
  · simp at h1
  simp only [Value.slice.injEq, Option.some.injEq, Addr.mk.injEq, and_true, true_and] at h1
  obtain ⟨rfl, rfl⟩ := h1
  by_cases h0 : ys.length = 0
  · obtain rfl : ys = [] := List.eq_nil_of_length_eq_zero h0
    refine wpList_copy_nothing hgd d s t t ho e hu hsz _ _ _ _ _ _ hd hs (by simp) ?_
    exact h w (by simpa using hx) ⟨rfl, rfl, rfl, Nat.le_refl _, fun _ _ _ => rfl⟩
  · obtain ⟨gs, rfl, _⟩ := hy.row (by omega)
    have hsrc : ∀ j v, (I64 ys)[j]? = some v → w.cell? ((⟨gs, 0, none⟩ : Addr).add j) = some v := World.ownsRow.cells hy (g := gs) rfl
    refine wpList_copy_own hgd d s t t ho e hu hsz g 0 xs.length c ⟨gs, 0, none⟩ ys.length c' hd hs cur e h3 (I64 ys) (by rw [I64_len]; exact (Nat.min_eq_left hle).symm) hsrc (by rw [I64_len]; omega) (I64_one ys) ?_
    rw [I64_len]
    refine h _ ?_ ⟨rfl, rfl, rfl, by simp [World.setRow], fun k _ hk => setRow_other w g k _ (fun e => hk (by rw [e]))⟩
    have hl : (ys ++ xs.drop ys.length).length = xs.length := by rw [List.length_append, List.length_drop]; omega
    have hcl : cur.toList.length = c := by rw [Array.length_toList]; omega
    unfold Sl
    rw [hl]
    refine ⟨by rw [I64_len, hl]; omega, .inr ⟨g, c, _, rfl, Nat.zero_le _, setRow_heap w g cur _ e _ h3, h4, h5, ?_, ?_⟩⟩
    · simp only [List.take_zero, List.nil_append, List.size_toArray, List.length_append, I64_len, List.length_drop]; omega
    · have h7' : cur.toList.take xs.length = I64 xs := by rw [← h7, Nat.mul_one]
      have e1 : I64 (xs.drop ys.length) = (cur.toList.take xs.length).drop ys.length := by rw [h7']; unfold I64; rw [List.map_drop]
      simp only [List.take_zero, List.nil_append, Nat.mul_one]
      rw [I64_append, e1, List.take_append, I64_len, List.take_of_length_le (by rw [I64_len]; omega)]
      congr 1
      rw [Nat.zero_add, List.drop_take]

theorem Below.drewN {B : Nat} {a w : World} (h : Below B a w) (n : Nat) : Below B a (w.drewN n) := ⟨h.os, h.tape, h.output, h.size, h.block⟩
theorem Box.drewN {w : World} {b : Nat} {v : Value} {t : TypeId} (h : Box w b v t) (n : Nat) : Box (w.drewN n) b v t := h
theorem Sl.drewN {t : TypeId} {w : World} {v : Value} {xs : List Int} (h : Sl t w v xs) (n : Nat) : Sl t (w.drewN n) v xs := h

/-- the result is digits of N; what was there is as it was -/
def RetD (w : World) (N : Nat) (e : Ending) (w' : World) : Prop := ∃ a n c, e = .returned (.agg #[.slice a n c]) ∧ Dg w' (.slice a n c) N ∧ Below w.heap.size w w'

/-- .. and they lie in a block of its own -/
def RetF (w : World) (N : Nat) (e : Ending) (w' : World) : Prop := ∃ a n c, e = .returned (.agg #[.slice a n c]) ∧ Dg w' (.slice a n c) N ∧ Below w.heap.size w w' ∧ ∀ k, Value.ownBlock (.slice a n c) = some k → w.heap.size ≤ k

/-- the end of a function that settles a row of its own (at block g), stores the digits into its result's cell (block R) and returns them -/
theorem fin_D {w wL w2 : World} {R g n c : Nat} {a3 : Option Addr} {n3 c3 : Nat} {V : Int} {N : Nat} (hB : Below w.heap.size w wL) (hg0 : w.heap.size ≤ g) (hR : R < wL.heap.size) (hR0 : w.heap.size ≤ R) (hne : R ≠ g)
    (hd : Dg w2 (.slice a3 n3 c3) V.toNat) (hg : wL.grownBy w2 (Value.ownBlock (.slice (some ⟨g, 0, none⟩) n c))) (hs : Since wL.heap.size (.slice (some ⟨g, 0, none⟩) n c) (.slice a3 n3 c3)) (hv : V = (N : Int)) :
    RetD w N (.returned (.agg #[.slice a3 n3 c3])) (w2.setCell ⟨R, 0, none⟩ (.slice a3 n3 c3)) := by
  subst hv
  rw [Int.toNat_natCast] at hd
  refine ⟨a3, n3, c3, rfl, hd.other (fun e => ?_) _, (hB.grown hg hB.size (fun j hj => by simp only [Value.ownBlock, Option.some.injEq] at hj; omega)).setCell hR0 _⟩
  rcases hs _ e with h | h
  · simp only [Value.ownBlock, Option.some.injEq] at h; exact hne h.symm
  · omega

theorem ret_int {k : IntKind} {a b : Int} (h : a = b) : Ending.returned (.int k a) = .returned (.int k b) := by rw [h]
theorem ret_bool {a b : Bool} (h : a = b) : Ending.returned (.bool a) = .returned (.bool b) := by rw [h]

end Go.Proofs.YtmfplelodnoicaaGreatDoor
namespace Go.Proofs.YtmfplelodnoicaaGreatDoor
open Go.RowKit Dig

theorem cr_bound : ∀ (c : Int) (l : List Int), (∀ x ∈ l, -4611686018427387904 ≤ x ∧ x ≤ 4611686018427387904) → -300000000000 ≤ c → c ≤ 300000000000 → -300000000000 ≤ (cr 16777216 c l).2 ∧ (cr 16777216 c l).2 ≤ 300000000000
  | c, [], _, h1, h2 => ⟨h1, h2⟩
  | c, x :: l, h, h1, h2 => by
    have hx := h x (by simp)
    rw [cr]
    exact cr_bound _ l (fun y hy => h y (by simp [hy])) (by omega) (by omega)

/-- one round of the carrying pass -/
theorem cr_round {xs : List Int} {k : Nat} (h : k < xs.length) :
    ((cr 16777216 0 (xs.take k)).1 ++ xs.drop k)[k]'(by simp [cr_len]; omega) = xs[k] ∧
    (((cr 16777216 0 (xs.take k)).1 ++ xs.drop k).set k (xs[k] + (cr 16777216 0 (xs.take k)).2)).set k ((xs[k] + (cr 16777216 0 (xs.take k)).2) % 16777216) = (cr 16777216 0 (xs.take (k + 1))).1 ++ xs.drop (k + 1) ∧
    (cr 16777216 0 (xs.take (k + 1))).2 = (xs[k] + (cr 16777216 0 (xs.take k)).2) / 16777216 := by
  have hl : (cr 16777216 0 (xs.take k)).1.length = k := by rw [cr_len, List.length_take]; omega
  have ht : xs.take (k + 1) = xs.take k ++ [xs[k]] := List.take_succ_eq_append_getElem h
  have hs : cr 16777216 0 (xs.take (k + 1)) = ((cr 16777216 0 (xs.take k)).1 ++ [(xs[k] + (cr 16777216 0 (xs.take k)).2) % 16777216], (xs[k] + (cr 16777216 0 (xs.take k)).2) / 16777216) := by rw [ht, cr_snoc]
  refine ⟨?_, ?_, by rw [hs]⟩
  · rw [List.getElem_append_right (by omega)]; simp [hl]
  · rw [hs, List.set_set, List.set_append_right _ _ (by omega), hl, Nat.sub_self, List.drop_eq_getElem_cons h, List.set_cons_zero]
    simp

set_option maxHeartbeats 400000 in
theorem settled_any (v : Value) (xs : List Int) (w : World) (hv : ∃ a n c, v = .slice a n c) (hs : Sl 2 w v xs) (hb : ∀ x ∈ xs, -4611686018427387904 ≤ x ∧ x ≤ 4611686018427387904) (h0 : 0 ≤ vl 16777216 xs) (hl : xs.length ≤ 100000000) :
    Calls Tryz.prog 132 #[v] w fun e w' => ∃ a n c, e = .returned (.agg #[.slice a n c]) ∧ Dg w' (.slice a n c) (vl 16777216 xs).toNat ∧ w.grownBy w' v.ownBlock ∧ Since w.heap.size v (.slice a n c) := by
  obtain ⟨a, n, c, rfl⟩ := hv
  have hn := hs.len
  subst hn
  have hlt := hs.lt
  have hS := Lib.hid hs
  clear hs
  go_enter Tryz.func132, Tryz.ntmps132
  go_wp2
  go_loopw [3, 7] (fun c' i wr => ∃ k : Nat, k ≤ xs.length ∧ i = .int .i64 k ∧ c' = .int .i64 (cr 16777216 0 (xs.take k)).2 ∧
      Sl 2 wr (.slice a xs.length c) ((cr 16777216 0 (xs.take k)).1 ++ xs.drop k) ∧ w.grownBy wr (Value.ownBlock (.slice a xs.length c)) ∧ Box wr w.heap.size (.slice none 0 0) 26) (fun _ i _ => xs.length - (intOf i).toNat)
  case atStart => exact ⟨0, Nat.zero_le _, rfl, rfl, by simpa [cr] using hS.out.alloc _, World.grownBy_alloc _ _ _, Box.new _ _ _⟩
  case round =>
    obtain ⟨k, hk, rfl, rfl, ho, hg, hbx⟩ := hrel
    by_cases hkl : k < xs.length
    · obtain ⟨g, rfl, hgl⟩ := hS.out.row (by omega)
      obtain ⟨r1, r2, r3⟩ := cr_round hkl
      have hc : wr.cell? ⟨g, k, none⟩ = some (.int .i64 xs[k]) := by rw [ho.cell (k := k) (by simp [cr_len]; omega), r1]
      have hf := ho.free k
      have b1 := hb _ (List.getElem_mem hkl)
      have b2 := cr_bound 0 (xs.take k) (fun x hx => hb x (List.mem_of_mem_take hx)) (by omega) (by omega)
      have R2 := Lib.hid r2
      have R3 := Lib.hid r3
      clear r1 r2 r3 hb
      go_wp2
      go_roundw
      case rel =>
        have hne : some w.heap.size ≠ Value.ownBlock (.slice (some ⟨g, 0, none⟩) xs.length c) := by simp only [Value.ownBlock, ne_eq, Option.some.injEq]; omega
        rw [i64_mask24]
        refine ⟨k + 1, by omega, by go_num, by rw [R3.out], ?_, ?_, ?_⟩
        · rw [← R2.out]
          exact (ho.set k _).set k _
        · exact grownBy_trans hg (grownBy_trans (grownBy_setCell _ _ _ _) (grownBy_setCell _ _ _ _))
        · exact hbx.grown (grownBy_trans (grownBy_setCell _ _ _ _) (grownBy_setCell _ _ _ _)) hne
      case measure => simp [intOf]; omega
    · obtain rfl : k = xs.length := by omega
      rw [List.take_length] at *
      rw [List.drop_length, List.append_nil] at ho
      have c1 := cr_carry_nonneg (b := 16777216) (by omega) xs h0
      have c2 := (cr_bound 0 xs hb (by omega) (by omega)).2
      have c3 := cr_vl 16777216 0 xs
      have c4 := cr_mem (b := 16777216) (by omega) 0 xs
      have c5 := cr_len 16777216 0 xs
      simp only [show ((16777216 : Nat) : Int) = 16777216 from rfl, Int.add_zero] at c1 c3 c4
      generalize (cr 16777216 0 xs).2 = cy at *
      generalize (cr 16777216 0 xs).1 = L0 at *
      obtain ⟨r0, rfl⟩ := Int.eq_ofNat_of_zero_le c1
      have hr0 : r0 ≤ 300000000000 := by omega
      have hown : ∀ k, Value.ownBlock (.slice a xs.length c) = some k → k ≠ w.heap.size := fun k hk => Nat.ne_of_lt (hlt k hk)
      have C3 := Lib.hid c3
      have C4 := Lib.hid c4
      have C5 := Lib.hid c5
      have H0 := Lib.hid h0
      have HO := Lib.hid hown
      clear c1 c2 c3 c4 c5 hS hlt h0 hb hown
      go_wp2
      go_loopw [0, 3] (fun d e wr' => ∃ (a' : Option Addr) (n' c' : Nat) (done : List Int) (r : Nat), d = .slice a' n' c' ∧ e = .int .i64 r ∧ Sl 2 wr' (.slice a' n' c') (L0 ++ done) ∧ done ++ dg 16777216 r = dg 16777216 r0 ∧ r ≤ r0 ∧
        w.grownBy wr' (Value.ownBlock (.slice a xs.length c)) ∧ Since w.heap.size (.slice a xs.length c) (.slice a' n' c') ∧ (∀ k, Value.ownBlock (.slice a' n' c') = some k → k ≠ w.heap.size) ∧ Box wr' w.heap.size (.slice none 0 0) 26) (fun _ e _ => (intOf e).toNat)
      case atStart => exact ⟨a, _, c, [], r0, rfl, rfl, by rw [List.append_nil]; exact ho, rfl, Nat.le_refl _, hg, Since.refl _ _, HO.out, hbx⟩
      case round =>
        clear ho hg hbx
        rename_i wq _ _
        obtain ⟨a', n', c', done, r, rfl, rfl, ho, hd, hrr, hg, hsi, hne, hbx⟩ := hrel
        by_cases hr : r = 0
        · subst hr
          rw [dg_zero, List.append_nil] at hd
          subst hd
          have hlen : (dg 16777216 r0).length ≤ 3 := dg_len_le (by omega) (by omega)
          have hvL : vl 16777216 (L0 ++ dg 16777216 r0) = vl 16777216 xs := by
            have := vl_dg (b := 16777216) (by omega) r0
            simp only [show ((16777216 : Nat) : Int) = 16777216 from rfl] at this
            rw [vl_append, this, C5.out]; exact C3.out
          have hmL : ∀ x ∈ L0 ++ dg 16777216 r0, 0 ≤ x ∧ x < 16777216 := fun x hx => (List.mem_append.1 hx).elim (C4.out x) (dg_mem (b := 16777216) (by omega) r0 x)
          have hlL : (L0 ++ dg 16777216 r0).length ≤ 200000000 := by rw [List.length_append, C5.out]; omega
          have HV := Lib.hid hvL
          have HM := Lib.hid hmL
          have HL := Lib.hid ho.len
          have HN := Lib.hid hne
          have HO2 := Lib.hid ho
          clear hvL hmL hne hlen ho
          generalize L0 ++ dg 16777216 r0 = L at *
          go_wp2
          go_loop [0] (fun d => ∃ (a2 : Option Addr) (m c2 : Nat), d = .slice a2 m c2 ∧ m ≤ L.length ∧ Sl 2 wr (.slice a2 m c2) (L.take m) ∧ vl 16777216 (L.take m) = vl 16777216 L ∧
            Since w.heap.size (.slice a xs.length c) (.slice a2 m c2) ∧ (∀ k, Value.ownBlock (.slice a2 m c2) = some k → k ≠ w.heap.size)) (fun d => match d with | .slice _ m _ => m | _ => 0)
          case atStart => exact ⟨a', n', c', rfl, Nat.le_of_eq HL.out, by rw [List.take_of_length_le (Nat.le_of_eq HL.out.symm)]; exact HO2.out, by rw [HL.out, List.take_length], hsi, HN.out⟩
          case round =>
            obtain ⟨a2, m, c2, rfl, hm, ho2, hv2, hs2, ne2⟩ := hrel
            have H2 := Lib.hid hv2
            clear hv2
            have bc := hbx.cell
            have bf := hbx.free
            have bs := fun u => (hbx.set u).cell
            have hcap := ho2.cap
            have NE := Lib.hid ne2
            clear ne2
            by_cases hm0 : m = 0
            · subst hm0
              go_wp2
              refine bodyPost_ret (v := .agg #[.slice a2 0 c2]) (by simp [results, Tryz.results132, go_sem, bs]) rfl ?_
              have hfin : L.take 0 = dg 16777216 (vl 16777216 xs).toNat := dg_of_take (by omega) (Nat.zero_le _) HM.out (by rw [Int.toNat_of_nonneg H0.out, ← HV.out]; exact H2.out) (fun h => absurd h (by omega))
              refine ⟨a2, 0, c2, rfl, ?_, ?_, hs2⟩
              · unfold Dg; rw [← hfin]; exact ho2.other (fun e => NE.out _ e rfl) _
              · exact grownBy_on hg (grownBy_setCell _ _ _ _) (fun j hj => .inr (by simp only [Option.some.injEq] at hj; omega))
            · obtain ⟨j, rfl⟩ : ∃ j, m = j + 1 := ⟨m - 1, by omega⟩
              obtain ⟨g, rfl, hgl⟩ := ho2.row (by simp; omega)
              have hc : wr.cell? ⟨g, j, none⟩ = some (.int .i64 L[j]) := by
                rw [ho2.cell (k := j) (by simp; omega)]; simp
              by_cases hz : L[j] = 0
              · rw [hz] at hc
                go_wp2
                go_round
                case rel =>
                  refine ⟨_, j, c2, rfl, by omega, ?_, ?_, fun k hk => hs2 k hk, fun k hk => NE.out k hk⟩
                  · have := ho2.pop (k := j) (by simp; omega)
                    rwa [List.take_take, Nat.min_eq_left (by omega)] at this
                  · rw [← H2.out, vl_take_zero 16777216 hm hz]
                case measure => simp
              · have hz' : (L[j] == 0) = false := by simpa using hz
                go_wp2
                refine bodyPost_ret (v := .agg #[.slice (some ⟨g, 0, none⟩) (j + 1) c2]) (by simp [results, Tryz.results132, go_sem, bs]) rfl ?_
                have hfin : L.take (j + 1) = dg 16777216 (vl 16777216 xs).toNat := dg_of_take (by omega) hm HM.out (by rw [Int.toNat_of_nonneg H0.out, ← HV.out]; exact H2.out) (fun _ => by
                  rw [Nat.add_sub_cancel, List.getElem?_eq_getElem (by omega)]; exact hz)
                refine ⟨_, _, c2, rfl, ?_, ?_, hs2⟩
                · unfold Dg; rw [← hfin]; exact ho2.other (fun e => NE.out _ e rfl) _
                · exact grownBy_on hg (grownBy_setCell _ _ _ _) (fun j hj => .inr (by simp only [Option.some.injEq] at hj; omega))
        · have hr1 : 1 ≤ r := by omega
          have hpos : dg 16777216 r = ((r % 16777216 : Nat) : Int) :: dg 16777216 (r / 16777216) := dg_pos (by omega) (by omega)
          have hlen : (dg 16777216 r0).length ≤ 3 := dg_len_le (by omega) (by omega)
          have hl2 : done.length + 1 ≤ 3 := by rw [← hd, hpos] at hlen; simp at hlen; omega
          have HD := Lib.hid hd
          have HP := Lib.hid hpos
          have HN := Lib.hid hne
          have HL := Lib.hid ho.len
          clear hd hpos hne hlen
          have hne0 : ((r : Int) != 0) = true := by simp; omega
          go_wp2_with (at_builtin; refine wpList_append_sl _ rfl _ _ 24 rfl 2 Tryz.underlying24 info_i64 _ _ rfl (ho.alloc _) _ _ rfl (Sl.one _ _ _) ?c3 ?_)
          case c3 => simp; have := C5.out; omega
          intro a2 n2 c2 w2 ho2 hg2 hs2
          go_wp2
          go_roundw
          case rel =>
            have hm := i64_mask24 (r : Int)
            rw [hm] at ho2 hg2
            have hgw : w.grownBy w2 (Value.ownBlock (.slice a xs.length c)) := grownBy_on (grownBy_trans hg (World.grownBy_alloc _ _ _)) hg2 hsi
            have hsz := hg.size
            have hne2 : ∀ k, Value.ownBlock (.slice a2 n2 c2) = some k → k ≠ w.heap.size := fun k hk => by
              rcases hs2 k hk with h | h
              · exact HN.out k h
              · omega
            refine ⟨a2, n2, c2, done ++ [((r % 16777216 : Nat) : Int)], r / 16777216, rfl, by go_num, ho2, ?_, Nat.le_trans (Nat.div_le_self _ _) hrr, hgw, ?_, hne2, ?_⟩
            · rw [← HD.out, HP.out]; simp
            · intro k hk
              rcases hs2 k hk with h | h
              · exact hsi k h
              · exact .inr (by omega)
            · exact (hbx.grown (World.grownBy_alloc _ _ none) (by simp)).grown hg2 (fun e => HN.out _ e.symm rfl)
          case measure => simp [intOf]; omega

end Go.Proofs.YtmfplelodnoicaaGreatDoor
namespace Go.Proofs.YtmfplelodnoicaaGreatDoor
open Go.RowKit Dig

theorem plus_round {A L ys : List Int} {i : Nat} {k : Int} (hk : k = 1 ∨ k = -1) (hlen : L.length = A.length) (hd : L.drop i = A.drop i) (hv : vl 16777216 L = vl 16777216 A + k * vl 16777216 (ys.take i))
    (hb : ∀ x ∈ L, -16777216 ≤ x ∧ x ≤ 33554432) (hA : ∀ x ∈ A, 0 ≤ x ∧ x < 16777216) (hy : ∀ x ∈ ys, 0 ≤ x ∧ x < 16777216) (hi : i < ys.length) (hl : i < L.length) :
    (0 ≤ L[i] ∧ L[i] < 16777216) ∧ (0 ≤ ys[i] ∧ ys[i] < 16777216) ∧ (L.set i (L[i] + k * ys[i])).length = A.length ∧ (L.set i (L[i] + k * ys[i])).drop (i + 1) = A.drop (i + 1) ∧
    vl 16777216 (L.set i (L[i] + k * ys[i])) = vl 16777216 A + k * vl 16777216 (ys.take (i + 1)) ∧ ∀ x ∈ L.set i (L[i] + k * ys[i]), -16777216 ≤ x ∧ x ≤ 33554432 := by
  have e1 : L[i] = A[i]'(by omega) := by
    have h1 : (L.drop i)[0]? = (A.drop i)[0]? := by rw [hd]
    rw [List.getElem?_drop, List.getElem?_drop, Nat.add_zero, List.getElem?_eq_getElem hl, List.getElem?_eq_getElem (by omega)] at h1
    exact Option.some.inj h1
  have a1 := hA _ (List.getElem_mem (l := A) (n := i) (by omega))
  have y1 := hy _ (List.getElem_mem hi)
  refine ⟨by rw [e1]; exact a1, y1, by rw [List.length_set, hlen], ?_, ?_, ?_⟩
  · rw [List.drop_set_of_lt (by omega)]
    have : L.drop (i + 1) = (L.drop i).drop 1 := by rw [List.drop_drop]
    rw [this, hd, List.drop_drop]
  · rw [vl_set _ _ hl, hv, vl_take_succ _ hi]
    grind
  · intro x hx
    rcases List.mem_or_eq_of_mem_set hx with h | h
    · exact hb x h
    · rcases hk with rfl | rfl <;> omega

set_option maxRecDepth 100000 in
set_option maxHeartbeats 800000 in
theorem plus_fresh (a : Option Addr) (n c : Nat) (a2 : Option Addr) (n2 c2 : Nat) (k : Int) (M N : Nat) (w : World) (h1 : Dg w (.slice a n c) M) (h2 : Dg w (.slice a2 n2 c2) N) (hk : k = 1 ∨ k = -1) (h0 : 0 ≤ (M : Int) + k * N)
    (hlM : (dg 16777216 M).length ≤ 10000000) (hlN : (dg 16777216 N).length ≤ 10000000) :
    Calls Tryz.prog 120 #[.agg #[.slice a n c], .agg #[.slice a2 n2 c2], .int .i64 k] w (RetF w ((M : Int) + k * N).toNat) := by
  unfold Dg at h1 h2
  have hn := h1.len
  have hn2 := h2.len
  have lt1 := h1.lt
  have lt2 := h2.lt
  have HM := Lib.hid h1
  have HN := Lib.hid h2
  have vM := vl_dg (b := 16777216) (by omega) M
  have vN := vl_dg (b := 16777216) (by omega) N
  have mM := dg_mem (b := 16777216) (by omega) M
  have mN := dg_mem (b := 16777216) (by omega) N
  simp only [show ((16777216 : Nat) : Int) = 16777216 from rfl] at vM vN mM mN
  generalize dg 16777216 M = xs at *
  generalize dg 16777216 N = ys at *
  have nm := @vM
  clear nm
  have VM := Lib.hid vM
  have VN := Lib.hid vN
  have MM := Lib.hid mM
  have MN := Lib.hid mN
  have L1 := Lib.hid lt1
  have L2 := Lib.hid lt2
  clear h1 h2 vM vN mM mN lt1 lt2
  obtain rfl := hn
  obtain rfl := hn2
  by_cases hlt : xs.length < ys.length
  · go_enter Tryz.func120, Tryz.ntmps120
    go_wp2_with (first | (at_make; refine wpList_make_sl _ rfl _ _ _ rfl 2 Tryz.underlying24 info_i64 _ _ _ _ _ _ rfl rfl rfl rfl (Nat.le_refl _) (by omega) ?_; intro ho0; simp only [World.size_alloc] at ho0) | (with_reducible refine wpList_copy_sl (o := ⟨some 21, _, _, _, _, _⟩) rfl _ _ _ rfl 2 Tryz.underlying24 size_i64 _ _ _ _ rfl ho0 _ _ _ _ rfl ((((HM.out.alloc _).alloc _).alloc _).alloc _) ?hle ?_))
    case hle => first | (simp; done) | (simp; omega)
    intro w1 ho1 hg1
    -- what is there behind the copy
    have hB1 : Below w.heap.size w w1 := ((((((Below.refl _ w).alloc (Nat.le_refl _) _).alloc (by go_size) _).alloc (by go_size) _).alloc (by go_size) _).grown hg1 (by go_size) (fun j hj => by simp only [Option.some.injEq] at hj; omega))
    have bx1 : Box w1 (w.heap.size + 1) (.slice a2 ys.length c2) 26 := Box.grown (((Box.new' (by simp)).alloc _).alloc _) hg1 (by simp)
    have bx2 : Box w1 (w.heap.size + 1 + 1) (.slice none 0 0) 26 := Box.grown ((Box.new' (by simp)).alloc _) hg1 (by simp)
    have sy1 : Sl 2 w1 (.slice a2 ys.length c2) ys := HN.out.below hB1 L2.out
    have hz1 : w.heap.size + 4 ≤ w1.heap.size := by have h := hg1.size; simp only [World.size_alloc] at h; omega
    obtain ⟨A, hmx, hyA, hlA, hvA, hmA, hoA⟩ : ∃ (A : List Int), ys.length ≤ 10000000 ∧ ys.length ≤ A.length ∧ A.length = ys.length ∧ vl 16777216 A = M ∧ (∀ x ∈ A, 0 ≤ x ∧ x < 16777216) ∧ Sl 2 w1 (.slice (some ⟨w.heap.size + 1 + 1 + 1, 0, none⟩) ys.length ys.length) A := by
      refine ⟨_, ?_, ?_, ?_, ?_, ?_, ho1⟩
      · first | exact hlN | exact hlM
      · first | omega | (simp; omega)
      · first | rfl | (simp; omega)
      · first | exact VM.out | (rw [vl_append, vl_replicate, VM.out]; omega)
      · first | exact MM.out | (intro x hx; rcases List.mem_append.1 hx with h | h; exact MM.out x h; rw [(List.mem_replicate.1 h).2]; omega)
    have HA := Lib.hid hvA
    have HAm := Lib.hid hmA
    have HLA := Lib.hid hlA
    have HO := Lib.hid hoA
    have HB1 := Lib.hid hB1
    have BX1 := Lib.hid bx1
    have BX2 := Lib.hid bx2
    have SY1 := Lib.hid sy1
    clear hvA hmA hlA hoA hB1 bx1 bx2 sy1 ho0 ho1 hg1 hlt
    have c1 := BX1.out.cell
    go_wp2
    go_loopw [25] (fun ix wr => ∃ (i : Nat) (L : List Int), ix = .int .i64 i ∧ i ≤ ys.length ∧ L.length = A.length ∧ L.drop i = A.drop i ∧ vl 16777216 L = vl 16777216 A + k * vl 16777216 (ys.take i) ∧ (∀ x ∈ L, -16777216 ≤ x ∧ x ≤ 33554432) ∧
      Sl 2 wr (.slice (some ⟨w.heap.size + 1 + 1 + 1, 0, none⟩) ys.length ys.length) L ∧ w1.grownBy wr (some (w.heap.size + 1 + 1 + 1))) (fun ix _ => ys.length - (intOf ix).toNat)
    case atStart => exact ⟨0, A, rfl, Nat.zero_le _, rfl, rfl, by simp [vl], fun x hx => by have := HAm.out x hx; omega, HO.out, grownBy_refl _ _⟩
    case round =>
      clear c1
      obtain ⟨i, L, rfl, hi, hL1, hL2, hL3, hL4, ho, hg⟩ := hrel
      have bx2 : Box wr (w.heap.size + 1 + 1) (.slice none 0 0) 26 := BX2.out.grown hg (by simp)
      by_cases hlt : i < ys.length
      · have hil2 : i < L.length := by omega
        obtain ⟨p1, p2, p3, p4, p5, p6⟩ := plus_round (L := L) (A := A) hk hL1 hL2 hL3 hL4 HAm.out MN.out hlt hil2
        have sy : Sl 2 wr (.slice a2 ys.length c2) ys := SY1.out.grown hg (.inr (fun e => by have := L2.out _ e; omega))
        obtain ⟨g2, rfl, hg2⟩ := sy.row (by omega)
        have c2' := sy.cell hlt
        have c3 := ho.cell (k := i) hil2
        have f3 := ho.free i
        have hmx2 := HLA.out
        have hil : i < ys.length := by omega
        have P3 := Lib.hid p3
        have P4 := Lib.hid p4
        have P5 := Lib.hid p5
        have P6 := Lib.hid p6
        have S0 := Lib.hid ho
        clear p3 p4 p5 p6 hL1 hL2 hL3 hL4 sy hmx2 ho
        rcases hk with rfl | rfl
        all_goals
          go_wp2
          go_roundw
          case rel =>
            refine ⟨i + 1, _, by go_num, by omega, P3.out, P4.out, P5.out, P6.out, ?_, grownBy_trans hg (grownBy_setCell _ _ _ _)⟩
            first | (have := S0.out.set i (L[i] + 1 * ys[i]); rw [Int.one_mul] at this; rw [Int.one_mul]; exact this) | (have := S0.out.set i (L[i] + -1 * ys[i]); rw [Int.neg_one_mul] at this; rw [Int.neg_one_mul]; exact this)
          case measure => simp [intOf]; omega
      · obtain rfl : i = ys.length := by omega
        rw [List.take_length, HA.out, VN.out] at hL3
        have e0 : 0 ≤ vl 16777216 L := by rw [hL3]; exact h0
        have e1 : L.length ≤ 100000000 := by rw [hL1, HLA.out]; omega
        have e2 : ∀ x ∈ L, -4611686018427387904 ≤ x ∧ x ≤ 4611686018427387904 := fun x hx => by have := hL4 x hx; omega
        have E0 := Lib.hid e0
        have E2 := Lib.hid e2
        have E3 := Lib.hid hL3
        have GO := Lib.hid hg
        have HOo := Lib.hid ho
        have BX := Lib.hid bx2
        clear e0 e2 hL1 hL2 hL3 hL4 h0 ho hg bx2
        go_wp2_with fail
        refine (settled_any _ L _ ⟨_, _, _, rfl⟩ HOo.out E2.out E0.out e1).mono ?_
        rintro e w2 ⟨a3, n3, c3, rfl, hd, hg2, hs2⟩
        have bx := BX.out.grown hg2 (by simp [Value.ownBlock])
        have bc := bx.cell
        have bf := bx.free
        have bs := fun u => (bx.set u).cell
        have HD := Lib.hid hd
        have HG := Lib.hid hg2
        have HS := Lib.hid hs2
        clear hd hg2 hs2
        go_wp2
        have hzr := GO.out.size
        refine bodyPost_ret (v := .agg #[.slice a3 n3 c3]) (by simp [results, Tryz.results120, go_sem, bs]) rfl ⟨a3, n3, c3, rfl, ?_, ?_, fun j hj => ?_⟩
        · have hd := HD.out
          rw [E3.out] at hd
          exact hd.other (fun e => by
            rcases HS.out _ e with h | h
            · simp only [Value.ownBlock, Option.some.injEq] at h; omega
            · omega) _
        · exact ((((HB1.out).grown GO.out (by omega) (fun j hj => by simp only [Option.some.injEq] at hj; omega)).grown HG.out (by omega) (fun j hj => by simp only [Value.ownBlock, Option.some.injEq] at hj; omega)).setCell (by simp; omega) _)
        · rcases HS.out _ hj with h | h
          · simp only [Value.ownBlock, Option.some.injEq] at h; omega
          · omega
  · go_enter Tryz.func120, Tryz.ntmps120
    go_wp2_with (first | (at_make; refine wpList_make_sl _ rfl _ _ _ rfl 2 Tryz.underlying24 info_i64 _ _ _ _ _ _ rfl rfl rfl rfl (Nat.le_refl _) (by omega) ?_; intro ho0; simp only [World.size_alloc] at ho0) | (with_reducible refine wpList_copy_sl (o := ⟨some 21, _, _, _, _, _⟩) rfl _ _ _ rfl 2 Tryz.underlying24 size_i64 _ _ _ _ rfl ho0 _ _ _ _ rfl ((((HM.out.alloc _).alloc _).alloc _).alloc _) ?hle ?_))
    case hle => first | (simp; done) | (simp; omega)
    intro w1 ho1 hg1
    -- what is there behind the copy
    have hB1 : Below w.heap.size w w1 := ((((((Below.refl _ w).alloc (Nat.le_refl _) _).alloc (by go_size) _).alloc (by go_size) _).alloc (by go_size) _).grown hg1 (by go_size) (fun j hj => by simp only [Option.some.injEq] at hj; omega))
    have bx1 : Box w1 (w.heap.size + 1) (.slice a2 ys.length c2) 26 := Box.grown (((Box.new' (by simp)).alloc _).alloc _) hg1 (by simp)
    have bx2 : Box w1 (w.heap.size + 1 + 1) (.slice none 0 0) 26 := Box.grown ((Box.new' (by simp)).alloc _) hg1 (by simp)
    have sy1 : Sl 2 w1 (.slice a2 ys.length c2) ys := HN.out.below hB1 L2.out
    have hz1 : w.heap.size + 4 ≤ w1.heap.size := by have h := hg1.size; simp only [World.size_alloc] at h; omega
    obtain ⟨A, hmx, hyA, hlA, hvA, hmA, hoA⟩ : ∃ (A : List Int), xs.length ≤ 10000000 ∧ ys.length ≤ A.length ∧ A.length = xs.length ∧ vl 16777216 A = M ∧ (∀ x ∈ A, 0 ≤ x ∧ x < 16777216) ∧ Sl 2 w1 (.slice (some ⟨w.heap.size + 1 + 1 + 1, 0, none⟩) xs.length xs.length) A := by
      refine ⟨_, ?_, ?_, ?_, ?_, ?_, ho1⟩
      · first | exact hlN | exact hlM
      · first | omega | (simp; omega)
      · first | rfl | (simp; omega)
      · first | exact VM.out | (rw [vl_append, vl_replicate, VM.out]; omega)
      · first | exact MM.out | (intro x hx; rcases List.mem_append.1 hx with h | h; exact MM.out x h; rw [(List.mem_replicate.1 h).2]; omega)
    have HA := Lib.hid hvA
    have HAm := Lib.hid hmA
    have HLA := Lib.hid hlA
    have HO := Lib.hid hoA
    have HB1 := Lib.hid hB1
    have BX1 := Lib.hid bx1
    have BX2 := Lib.hid bx2
    have SY1 := Lib.hid sy1
    clear hvA hmA hlA hoA hB1 bx1 bx2 sy1 ho0 ho1 hg1 hlt
    have c1 := BX1.out.cell
    go_wp2
    go_loopw [25] (fun ix wr => ∃ (i : Nat) (L : List Int), ix = .int .i64 i ∧ i ≤ ys.length ∧ L.length = A.length ∧ L.drop i = A.drop i ∧ vl 16777216 L = vl 16777216 A + k * vl 16777216 (ys.take i) ∧ (∀ x ∈ L, -16777216 ≤ x ∧ x ≤ 33554432) ∧
      Sl 2 wr (.slice (some ⟨w.heap.size + 1 + 1 + 1, 0, none⟩) xs.length xs.length) L ∧ w1.grownBy wr (some (w.heap.size + 1 + 1 + 1))) (fun ix _ => ys.length - (intOf ix).toNat)
    case atStart => exact ⟨0, A, rfl, Nat.zero_le _, rfl, rfl, by simp [vl], fun x hx => by have := HAm.out x hx; omega, HO.out, grownBy_refl _ _⟩
    case round =>
      clear c1
      obtain ⟨i, L, rfl, hi, hL1, hL2, hL3, hL4, ho, hg⟩ := hrel
      have bx2 : Box wr (w.heap.size + 1 + 1) (.slice none 0 0) 26 := BX2.out.grown hg (by simp)
      by_cases hlt : i < ys.length
      · have hil2 : i < L.length := by omega
        obtain ⟨p1, p2, p3, p4, p5, p6⟩ := plus_round (L := L) (A := A) hk hL1 hL2 hL3 hL4 HAm.out MN.out hlt hil2
        have sy : Sl 2 wr (.slice a2 ys.length c2) ys := SY1.out.grown hg (.inr (fun e => by have := L2.out _ e; omega))
        obtain ⟨g2, rfl, hg2⟩ := sy.row (by omega)
        have c2' := sy.cell hlt
        have c3 := ho.cell (k := i) hil2
        have f3 := ho.free i
        have hmx2 := HLA.out
        have hil : i < xs.length := by omega
        have P3 := Lib.hid p3
        have P4 := Lib.hid p4
        have P5 := Lib.hid p5
        have P6 := Lib.hid p6
        have S0 := Lib.hid ho
        clear p3 p4 p5 p6 hL1 hL2 hL3 hL4 sy hmx2 ho
        rcases hk with rfl | rfl
        all_goals
          go_wp2
          go_roundw
          case rel =>
            refine ⟨i + 1, _, by go_num, by omega, P3.out, P4.out, P5.out, P6.out, ?_, grownBy_trans hg (grownBy_setCell _ _ _ _)⟩
            first | (have := S0.out.set i (L[i] + 1 * ys[i]); rw [Int.one_mul] at this; rw [Int.one_mul]; exact this) | (have := S0.out.set i (L[i] + -1 * ys[i]); rw [Int.neg_one_mul] at this; rw [Int.neg_one_mul]; exact this)
          case measure => simp [intOf]; omega
      · obtain rfl : i = ys.length := by omega
        rw [List.take_length, HA.out, VN.out] at hL3
        have e0 : 0 ≤ vl 16777216 L := by rw [hL3]; exact h0
        have e1 : L.length ≤ 100000000 := by rw [hL1, HLA.out]; omega
        have e2 : ∀ x ∈ L, -4611686018427387904 ≤ x ∧ x ≤ 4611686018427387904 := fun x hx => by have := hL4 x hx; omega
        have E0 := Lib.hid e0
        have E2 := Lib.hid e2
        have E3 := Lib.hid hL3
        have GO := Lib.hid hg
        have HOo := Lib.hid ho
        have BX := Lib.hid bx2
        clear e0 e2 hL1 hL2 hL3 hL4 h0 ho hg bx2
        go_wp2_with fail
        refine (settled_any _ L _ ⟨_, _, _, rfl⟩ HOo.out E2.out E0.out e1).mono ?_
        rintro e w2 ⟨a3, n3, c3, rfl, hd, hg2, hs2⟩
        have bx := BX.out.grown hg2 (by simp [Value.ownBlock])
        have bc := bx.cell
        have bf := bx.free
        have bs := fun u => (bx.set u).cell
        have HD := Lib.hid hd
        have HG := Lib.hid hg2
        have HS := Lib.hid hs2
        clear hd hg2 hs2
        go_wp2
        have hzr := GO.out.size
        refine bodyPost_ret (v := .agg #[.slice a3 n3 c3]) (by simp [results, Tryz.results120, go_sem, bs]) rfl ⟨a3, n3, c3, rfl, ?_, ?_, fun j hj => ?_⟩
        · have hd := HD.out
          rw [E3.out] at hd
          exact hd.other (fun e => by
            rcases HS.out _ e with h | h
            · simp only [Value.ownBlock, Option.some.injEq] at h; omega
            · omega) _
        · exact ((((HB1.out).grown GO.out (by omega) (fun j hj => by simp only [Option.some.injEq] at hj; omega)).grown HG.out (by omega) (fun j hj => by simp only [Value.ownBlock, Option.some.injEq] at hj; omega)).setCell (by simp; omega) _)
        · rcases HS.out _ hj with h | h
          · simp only [Value.ownBlock, Option.some.injEq] at h; omega
          · omega

theorem plus_any (a : Option Addr) (n c : Nat) (a2 : Option Addr) (n2 c2 : Nat) (k : Int) (M N : Nat) (w : World) (h1 : Dg w (.slice a n c) M) (h2 : Dg w (.slice a2 n2 c2) N) (hk : k = 1 ∨ k = -1) (h0 : 0 ≤ (M : Int) + k * N)
    (hlM : (dg 16777216 M).length ≤ 10000000) (hlN : (dg 16777216 N).length ≤ 10000000) :
    Calls Tryz.prog 120 #[.agg #[.slice a n c], .agg #[.slice a2 n2 c2], .int .i64 k] w (RetD w ((M : Int) + k * N).toNat) :=
  (plus_fresh a n c a2 n2 c2 k M N w h1 h2 hk h0 hlM hlN).mono fun _ _ ⟨a', n', c', he, hd, hb, _⟩ => ⟨a', n', c', he, hd, hb⟩

end Go.Proofs.YtmfplelodnoicaaGreatDoor
namespace Go.Proofs.YtmfplelodnoicaaGreatDoor
open Go.RowKit Dig

/-- what holds of the row in the rounds of the inner loop: i whole rounds, k digits of this one, the carry cy -/
structure TI (xs ys : List Int) (L : List Int) (i k : Nat) (cy : Int) : Prop where
  len : L.length = xs.length + ys.length
  val : vl 16777216 L + 16777216 ^ (i + k) * cy = (vl 16777216 (xs.take i) + 16777216 ^ i * (xs[i]?.getD 0 * vl 16777216 (ys.take k)) - 16777216 ^ i * (xs[i]?.getD 0 * vl 16777216 ys)) + 16777216 ^ i * (xs[i]?.getD 0 * vl 16777216 ys) + vl 16777216 (xs.take i) * (vl 16777216 ys - 1)
  rng : ∀ x ∈ L, 0 ≤ x ∧ x < 16777216
  zer : ∀ j, i + ys.length ≤ j → L[j]?.getD 0 = 0
  cy0 : 0 ≤ cy
  cy1 : cy < 16777216

structure TO (xs ys : List Int) (L : List Int) (i : Nat) : Prop where
  len : L.length = xs.length + ys.length
  val : vl 16777216 L = vl 16777216 (xs.take i) * vl 16777216 ys
  rng : ∀ x ∈ L, 0 ≤ x ∧ x < 16777216
  zer : ∀ j, i + ys.length ≤ j → L[j]?.getD 0 = 0

theorem TO.start (xs ys : List Int) : TO xs ys (List.replicate (xs.length + ys.length) 0) 0 :=
  ⟨by simp, by simp [vl_replicate, vl], fun x hx => by rw [(List.mem_replicate.1 hx).2]; omega, fun j _ => by rw [List.getElem?_replicate]; split <;> rfl⟩

theorem TO.inner {xs ys L : List Int} {i : Nat} (h : TO xs ys L i) : TI xs ys L i 0 0 :=
  ⟨h.len, by rw [h.val]; simp [vl]; grind, h.rng, h.zer, by omega, by omega⟩

theorem mul_bd {x y : Int} (hx : 0 ≤ x ∧ x < 16777216) (hy : 0 ≤ y ∧ y < 16777216) : 0 ≤ x * y ∧ x * y ≤ 281474943156225 :=
  ⟨Int.mul_nonneg hx.1 hy.1, Int.le_trans (Int.mul_le_mul (show x ≤ 16777215 by omega) (show y ≤ 16777215 by omega) hy.1 (by omega)) (by omega)⟩

theorem getD_set (L : List Int) (i j : Nat) (y : Int) (hi : i < L.length) : (L.set i y)[j]?.getD 0 = if i = j then y else L[j]?.getD 0 := by
  rw [List.getElem?_set]
  by_cases h : i = j
  · rw [if_pos h, if_pos h, if_pos (by omega)]; rfl
  · rw [if_neg h, if_neg h]

theorem TI.step {xs ys L : List Int} {i k : Nat} {cy : Int} (h : TI xs ys L i k cy) (hx : ∀ x ∈ xs, 0 ≤ x ∧ x < 16777216) (hy : ∀ y ∈ ys, 0 ≤ y ∧ y < 16777216) (hi : i < xs.length) (hk : k < ys.length) (hl : i + k < L.length) :
    TI xs ys (L.set (i + k) ((cy + (xs[i] * ys[k] + L[i + k])) % 16777216)) i (k + 1) ((cy + (xs[i] * ys[k] + L[i + k])) / 16777216) := by
  have b1 := mul_bd (hx _ (List.getElem_mem hi)) (hy _ (List.getElem_mem hk))
  have b2 := h.rng _ (List.getElem_mem hl)
  have b3 := h.cy0
  have b4 := h.cy1
  refine ⟨by rw [List.length_set, h.len], ?_, ?_, ?_, by omega, by omega⟩
  · have hv := h.val
    rw [vl_set _ _ hl, vl_take_succ _ hk]
    have hgi : xs[i]?.getD 0 = xs[i] := by rw [List.getElem?_eq_getElem hi]; rfl
    rw [hgi] at hv ⊢
    have hd := Int.mul_ediv_add_emod (cy + (xs[i] * ys[k] + L[i + k])) 16777216
    generalize (cy + (xs[i] * ys[k] + L[i + k])) % 16777216 = m at *
    generalize (cy + (xs[i] * ys[k] + L[i + k])) / 16777216 = q at *
    have hp : (16777216 : Int) ^ (i + (k + 1)) = 16777216 ^ (i + k) * 16777216 := by rw [← Nat.add_assoc, Int.pow_succ]
    have hq : (16777216 : Int) ^ (i + k) = 16777216 ^ i * 16777216 ^ k := Int.pow_add ..
    rw [hp]
    have e : (16777216 : Int) ^ (i + k) * 16777216 * q = 16777216 ^ (i + k) * (cy + (xs[i] * ys[k] + L[i + k]) - m) := by
      rw [← hd]; grind
    rw [e]
    rw [hq] at hv ⊢
    grind
  · intro x hx'
    rcases List.mem_or_eq_of_mem_set hx' with h' | h'
    · exact h.rng x h'
    · omega
  · intro j hj
    rw [getD_set _ _ _ _ hl, if_neg (by omega)]
    exact h.zer j hj

theorem TI.done {xs ys L : List Int} {i : Nat} {cy : Int} (h : TI xs ys L i ys.length cy) (hi : i < xs.length) (hl : i + ys.length < L.length) : TO xs ys (L.set (i + ys.length) cy) (i + 1) := by
  have hz : L[i + ys.length] = 0 := by have := h.zer (i + ys.length) (Nat.le_refl _); rwa [List.getElem?_eq_getElem hl] at this
  refine ⟨by rw [List.length_set, h.len], ?_, ?_, ?_⟩
  · have hv := h.val
    rw [vl_set _ _ hl, hz, vl_take_succ _ hi]
    have hgi : xs[i]?.getD 0 = xs[i] := by rw [List.getElem?_eq_getElem hi]; rfl
    rw [hgi, List.take_length] at hv
    grind
  · intro x hx'
    rcases List.mem_or_eq_of_mem_set hx' with h' | h'
    · exact h.rng x h'
    · rw [h']; exact ⟨h.cy0, h.cy1⟩
  · intro j hj
    rw [getD_set _ _ _ _ hl, if_neg (by omega)]
    exact h.zer j (by omega)

set_option maxRecDepth 100000 in
set_option maxHeartbeats 1000000 in
theorem times_any (a : Option Addr) (n c : Nat) (a2 : Option Addr) (n2 c2 : Nat) (M N : Nat) (w : World) (h1 : Dg w (.slice a n c) M) (h2 : Dg w (.slice a2 n2 c2) N)
    (hlM : (dg 16777216 M).length ≤ 10000000) (hlN : (dg 16777216 N).length ≤ 10000000) :
    Calls Tryz.prog 122 #[.agg #[.slice a n c], .agg #[.slice a2 n2 c2]] w (RetD w (M * N)) := by
  unfold Dg at h1 h2
  have hn := h1.len
  have hn2 := h2.len
  have L1 := Lib.hid h1.lt
  have L2 := Lib.hid h2.lt
  have HM := Lib.hid h1
  have HN := Lib.hid h2
  have VM := Lib.hid (show vl 16777216 (dg 16777216 M) = (M : Int) from vl_dg (b := 16777216) (by omega) M)
  have VN := Lib.hid (show vl 16777216 (dg 16777216 N) = (N : Int) from vl_dg (b := 16777216) (by omega) N)
  have MM := Lib.hid (show ∀ x ∈ dg 16777216 M, 0 ≤ x ∧ x < 16777216 from dg_mem (b := 16777216) (by omega) M)
  have MN := Lib.hid (show ∀ x ∈ dg 16777216 N, 0 ≤ x ∧ x < 16777216 from dg_mem (b := 16777216) (by omega) N)
  clear h1 h2
  generalize dg 16777216 M = xs at *
  generalize dg 16777216 N = ys at *
  subst hn; subst hn2
  go_enter Tryz.func122, Tryz.ntmps122
  go_wp2_with (first | (at_make; refine wpList_make_sl _ rfl _ _ _ rfl 2 Tryz.underlying24 info_i64 _ _ _ _ (xs.length + ys.length) (xs.length + ys.length) rfl rfl (by omega) (by omega) (Nat.le_refl _) (by omega) ?_; intro ho0; simp only [World.size_alloc] at ho0))
  have hB1 := Lib.hid ((((((Below.refl w.heap.size w).alloc (Nat.le_refl _) (.cells #[.slice a xs.length c] 26)).alloc (by go_size) (.cells #[.slice a2 ys.length c2] 26)).alloc (by go_size) (.cells #[.slice none 0 0] 26)).alloc (by go_size) (.cells (madeCells #[.int .i64 0] (xs.length + ys.length)) 2)))
  have hX1 := Lib.hid (((((Box.new' (v := .slice a2 ys.length c2) (t := 26) (w := w.alloc (.cells #[.slice a xs.length c] 26)) (b := w.heap.size + 1) (by simp)).alloc (.cells #[.slice none 0 0] 26)).alloc (.cells (madeCells #[.int .i64 0] (xs.length + ys.length)) 2))))
  have hX2 := Lib.hid ((((Box.new' (v := .slice none 0 0) (t := 26) (w := (w.alloc (.cells #[.slice a xs.length c] 26)).alloc (.cells #[.slice a2 ys.length c2] 26)) (b := w.heap.size + 1 + 1) (by simp)).alloc (.cells (madeCells #[.int .i64 0] (xs.length + ys.length)) 2))))
  have hO := Lib.hid ho0
  clear ho0
  go_loopw [22] (fun ix wr => ∃ (i : Nat) (L : List Int), ix = .int .i64 i ∧ i ≤ xs.length ∧ TO xs ys L i ∧ Below w.heap.size w wr ∧ Box wr (w.heap.size + 1) (.slice a2 ys.length c2) 26 ∧ Box wr (w.heap.size + 1 + 1) (.slice none 0 0) 26 ∧
      Sl 2 wr (.slice (some ⟨w.heap.size + 1 + 1 + 1, 0, none⟩) (xs.length + ys.length) (xs.length + ys.length)) L) (fun ix _ => xs.length - (intOf ix).toNat)
  case atStart => exact ⟨0, _, rfl, Nat.zero_le _, TO.start xs ys, hB1.out, hX1.out, hX2.out, hO.out⟩
  case round =>
    clear hB1 hX1 hX2 hO
    obtain ⟨i, L, rfl, hi, hT, hB, hX1, hX2, ho⟩ := hrel
    have bc1 := hX1.cell
    by_cases hlt : i < xs.length
    · have sx : Sl 2 wr (.slice a xs.length c) xs := HM.out.below hB L1.out
      obtain ⟨g1, rfl, hg1⟩ := sx.row (by omega)
      have cx := sx.cell hlt
      have bX := MM.out _ (List.getElem_mem hlt)
      have HB := Lib.hid hB
      have HX1 := Lib.hid hX1
      have HX2 := Lib.hid hX2
      have HO := Lib.hid ho
      have HT := Lib.hid hT.inner
      clear sx hB hX1 hX2 ho hT
      go_wp2
      clear cx bc1
      obtain ⟨wo, hwo⟩ : ∃ wo : World, wo = wr := ⟨_, rfl⟩
      go_loopw [8, 30] (fun cv ix wi => ∃ (k : Nat) (cy : Int) (Li : List Int), ix = .int .i64 k ∧ cv = .int .i64 cy ∧ k ≤ ys.length ∧ Hid (TI xs ys Li i k cy) ∧ Below w.heap.size w wi ∧ Box wi (w.heap.size + 1) (.slice a2 ys.length c2) 26 ∧ Box wi (w.heap.size + 1 + 1) (.slice none 0 0) 26 ∧
        Sl 2 wi (.slice (some ⟨w.heap.size + 1 + 1 + 1, 0, none⟩) (xs.length + ys.length) (xs.length + ys.length)) Li) (fun _ ix _ => ys.length - (intOf ix).toNat)
      case atStart => exact ⟨0, 0, L, rfl, rfl, Nat.zero_le _, HT, HB.out, HX1.out, HX2.out, HO.out⟩
      case round =>
        clear HB HX1 HX2 HO HT hwo
        obtain ⟨k, cy, Li, rfl, rfl, hk, hT, hB, hX1, hX2, ho⟩ := hrel
        have hlen := hT.out.len
        by_cases hkl : k < ys.length
        · have sy : Sl 2 wr (.slice a2 ys.length c2) ys := HN.out.below hB L2.out
          obtain ⟨g2, rfl, hg2⟩ := sy.row (by omega)
          have hil : i + k < Li.length := by omega
          have hil2 : i + k < xs.length + ys.length := by omega
          have cyv := sy.cell hkl
          have co := ho.cell hil
          have fo := ho.free (i + k)
          have bY := MN.out _ (List.getElem_mem hkl)
          have bO := hT.out.rng _ (List.getElem_mem hil)
          have b0 := hT.out.cy0
          have b1 := hT.out.cy1
          have b2 := mul_bd bX bY
          have HB := Lib.hid hB
          have HX1 := Lib.hid hX1
          have HX2 := Lib.hid hX2
          have HO := Lib.hid ho
          have HT := Lib.hid (hT.out.step MM.out MN.out hlt hkl hil)
          clear sy hB hX1 hX2 ho hT
          go_wp2
          go_roundw
          case rel =>
            rw [i64_mask24]
            exact ⟨k + 1, _, _, by go_num, rfl, by omega, HT, HB.out.setCell (by simp; omega) _, HX1.out.other (by simp) _, HX2.out.other (by simp) _, HO.out.set _ _⟩
          case measure => simp [intOf]; omega
        · obtain rfl : k = ys.length := by omega
          have hil : i + ys.length < Li.length := by omega
          have hil2 : i + ys.length < xs.length + ys.length := by omega
          have co := ho.cell hil
          have fo := ho.free (i + ys.length)
          have bc1 := hX1.cell
          have HB := Lib.hid hB
          have HX1 := Lib.hid hX1
          have HX2 := Lib.hid hX2
          have HO := Lib.hid ho
          have HT := Lib.hid (hT.out.done hlt hil)
          clear hB hX1 hX2 ho hT
          go_wp2
          go_roundw
          case rel => exact ⟨i + 1, _, by go_num, by omega, HT.out, HB.out.setCell (by simp; omega) _, HX1.out.other (by simp) _, HX2.out.other (by simp) _, HO.out.set _ _⟩
          case measure => simp [intOf]; omega
    · obtain rfl : i = xs.length := by omega
      have hv : vl 16777216 L = ((M * N : Nat) : Int) := by rw [hT.val, List.take_length, VM.out, VN.out, Int.natCast_mul]
      have e0 := Lib.hid (show 0 ≤ vl 16777216 L by rw [hv]; omega)
      have e1 := Lib.hid (show L.length ≤ 100000000 by rw [hT.len]; omega)
      have e2 := Lib.hid (show ∀ x ∈ L, -4611686018427387904 ≤ x ∧ x ≤ 4611686018427387904 from fun x hx => by have := hT.rng x hx; omega)
      have HV := Lib.hid hv
      have HB := Lib.hid hB
      have HX2 := Lib.hid hX2
      have HO := Lib.hid ho
      clear hB hX1 hX2 ho hT hv bc1
      go_wp2_with fail
      refine (settled_any _ L _ ⟨_, _, _, rfl⟩ HO.out e2.out e0.out e1.out).mono ?_
      rintro e w2 ⟨a3, n3, c3, rfl, hd, hg2, hs2⟩
      have bx := HX2.out.grown hg2 (by simp [Value.ownBlock])
      have bc := bx.cell
      have bf := bx.free
      have bs := fun u => (bx.set u).cell
      have HF := Lib.hid (fin_D (R := w.heap.size + 1 + 1) HB.out (by omega) HX2.out.lt (by omega) (by omega) hd hg2 hs2 HV.out)
      clear hd hg2 hs2 bx
      go_wp2
      exact bodyPost_ret (v := .agg #[.slice a3 n3 c3]) (by simp [results, Tryz.results122, go_sem, bs]) rfl HF.out

end Go.Proofs.YtmfplelodnoicaaGreatDoor
namespace Go.Proofs.YtmfplelodnoicaaGreatDoor
open Go.RowKit Dig

structure HI (xs L : List Int) (i : Nat) : Prop where
  len : L.length = xs.length
  val : 2 * vl 16777216 L + vl 16777216 (xs.take i) % 2 = vl 16777216 (xs.take i)
  rng : ∀ x ∈ L, 0 ≤ x ∧ x ≤ 33554432
  zer : ∀ j, i ≤ j → L[j]?.getD 0 = 0
  las : ∀ j, j + 1 = i → 0 ≤ L[j]?.getD 0 ∧ L[j]?.getD 0 ≤ 8388608

theorem HI.start (xs : List Int) : HI xs (List.replicate xs.length 0) 0 :=
  ⟨by simp, by simp [vl_replicate, vl], fun x hx => by rw [(List.mem_replicate.1 hx).2]; omega, fun j _ => by rw [List.getElem?_replicate]; split <;> rfl, fun j h => by omega⟩

theorem getD_set' (L : List Int) (i j : Nat) (y : Int) (hi : i < L.length) : (L.set i y)[j]?.getD 0 = if i = j then y else L[j]?.getD 0 := by
  rw [List.getElem?_set]
  by_cases h : i = j
  · rw [if_pos h, if_pos h, if_pos (by omega)]; rfl
  · rw [if_neg h, if_neg h]

theorem getD_eq {L : List Int} {j : Nat} (h : j < L.length) : L[j]?.getD 0 = L[j] := by rw [List.getElem?_eq_getElem h]; rfl

theorem HI.first {xs L : List Int} (h : HI xs L 0) (hx : ∀ x ∈ xs, 0 ≤ x ∧ x < 16777216) (hi : 0 < xs.length) : HI xs (L.set 0 (xs[0] / 2)) 1 := by
  have hl : 0 < L.length := by rw [h.len]; exact hi
  have b := hx _ (List.getElem_mem hi)
  have hz : L[0] = 0 := by have := h.zer 0 (Nat.le_refl _); rwa [getD_eq hl] at this
  refine ⟨by rw [List.length_set, h.len], ?_, ?_, ?_, ?_⟩
  · have hv := h.val
    rw [List.take_zero, vl] at hv
    rw [vl_set _ _ hl, hz, show (1 : Nat) = 0 + 1 from rfl, vl_take_succ _ hi, List.take_zero, vl]
    simp
    omega
  · intro x hx'
    rcases List.mem_or_eq_of_mem_set hx' with h' | h'
    · exact h.rng x h'
    · omega
  · intro j hj
    rw [getD_set' _ _ _ _ hl, if_neg (by omega)]; exact h.zer j (by omega)
  · intro j hj
    obtain rfl : j = 0 := by omega
    rw [getD_set' _ _ _ _ hl, if_pos rfl]; omega

theorem HI.next {xs L : List Int} {i : Nat} (h : HI xs L (i + 1)) (hx : ∀ x ∈ xs, 0 ≤ x ∧ x < 16777216) (hi : i + 1 < xs.length) (hl0 : i < (L.set (i + 1) (xs[i + 1] / 2)).length) :
    (0 ≤ (L.set (i + 1) (xs[i + 1] / 2))[i] ∧ (L.set (i + 1) (xs[i + 1] / 2))[i] ≤ 8388608) ∧
    HI xs ((L.set (i + 1) (xs[i + 1] / 2)).set i ((L.set (i + 1) (xs[i + 1] / 2))[i] + xs[i + 1] % 2 * 8388608)) (i + 2) := by
  have hl : i + 1 < L.length := by rw [h.len]; exact hi
  have hl1 : i < L.length := by omega
  have b := hx _ (List.getElem_mem hi)
  have hz : L[i + 1] = 0 := by have := h.zer (i + 1) (Nat.le_refl _); rwa [getD_eq hl] at this
  have hla := h.las i rfl
  rw [getD_eq hl1] at hla
  have hg : (L.set (i + 1) (xs[i + 1] / 2))[i] = L[i] := by rw [List.getElem_set_ne (by omega)]
  rw [hg]
  refine ⟨hla, by rw [List.length_set, List.length_set, h.len], ?_, ?_, ?_, ?_⟩
  · have hv := h.val
    rw [vl_set _ _ hl0, hg, vl_set _ _ hl, hz, show i + 2 = (i + 1) + 1 from rfl, vl_take_succ _ hi]
    have hp : (16777216 : Int) ^ (i + 1) = 16777216 ^ i * 16777216 := Int.pow_succ ..
    rw [hp]
    have e1 : xs[i + 1] = 2 * (xs[i + 1] / 2) + xs[i + 1] % 2 := by omega
    generalize xs[i + 1] / 2 = q at *
    generalize xs[i + 1] % 2 = r at *
    rw [e1]
    generalize vl 16777216 (xs.take (i + 1)) = V at *
    generalize vl 16777216 L = W at *
    have e2 : V + 16777216 ^ i * 16777216 * (2 * q + r) = V + 2 * (16777216 ^ i * 8388608 * (2 * q + r)) := by grind
    have e3 : (V + 2 * ((16777216 : Int) ^ i * 8388608 * (2 * q + r))) % 2 = V % 2 := by omega
    rw [e2, e3]
    grind
  · intro x hx'
    rcases List.mem_or_eq_of_mem_set hx' with h' | h'
    · rcases List.mem_or_eq_of_mem_set h' with h' | h'
      · exact h.rng x h'
      · omega
    · omega
  · intro j hj
    rw [getD_set' _ _ _ _ hl0, if_neg (by omega), getD_set' _ _ _ _ hl, if_neg (by omega)]; exact h.zer j (by omega)
  · intro j hj
    obtain rfl : j = i + 1 := by omega
    rw [getD_set' _ _ _ _ hl0, if_neg (by omega), getD_set' _ _ _ _ hl, if_pos rfl]; omega

set_option maxRecDepth 100000 in
set_option maxHeartbeats 1000000 in
theorem half_any (a : Option Addr) (n c : Nat) (M : Nat) (w : World) (h1 : Dg w (.slice a n c) M) (hlM : (dg 16777216 M).length ≤ 10000000) :
    Calls Tryz.prog 128 #[.agg #[.slice a n c]] w (RetD w (M / 2)) := by
  unfold Dg at h1
  have hn := h1.len
  have L1 := Lib.hid h1.lt
  have HM := Lib.hid h1
  have VM := Lib.hid (show vl 16777216 (dg 16777216 M) = (M : Int) from vl_dg (b := 16777216) (by omega) M)
  have MM := Lib.hid (show ∀ x ∈ dg 16777216 M, 0 ≤ x ∧ x < 16777216 from dg_mem (b := 16777216) (by omega) M)
  clear h1
  generalize dg 16777216 M = xs at *
  subst hn
  go_enter Tryz.func128, Tryz.ntmps128
  go_wp2_with (first | (at_make; refine wpList_make_sl _ rfl _ _ _ rfl 2 Tryz.underlying24 info_i64 _ _ _ _ xs.length xs.length rfl rfl rfl rfl (Nat.le_refl _) (by omega) ?_; intro ho0; simp only [World.size_alloc] at ho0))
  have hB1 := Lib.hid (((((Below.refl w.heap.size w).alloc (Nat.le_refl _) (.cells #[.slice a xs.length c] 26)).alloc (by go_size) (.cells #[.slice none 0 0] 26)).alloc (by go_size) (.cells (madeCells #[.int .i64 0] xs.length) 2)))
  have hX2 := Lib.hid ((((Box.new' (v := .slice none 0 0) (t := 26) (w := w.alloc (.cells #[.slice a xs.length c] 26)) (b := w.heap.size + 1) (by simp)).alloc (.cells (madeCells #[.int .i64 0] xs.length) 2))))
  have hO := Lib.hid ho0
  clear ho0
  go_loopw [13] (fun ix wr => ∃ (i : Nat) (L : List Int), ix = .int .i64 i ∧ i ≤ xs.length ∧ HI xs L i ∧ Below w.heap.size w wr ∧ Box wr (w.heap.size + 1) (.slice none 0 0) 26 ∧
      Sl 2 wr (.slice (some ⟨w.heap.size + 1 + 1, 0, none⟩) xs.length xs.length) L) (fun ix _ => xs.length - (intOf ix).toNat)
  case atStart => exact ⟨0, _, rfl, Nat.zero_le _, HI.start xs, hB1.out, hX2.out, hO.out⟩
  case round =>
    clear hB1 hX2 hO
    obtain ⟨i, L, rfl, hi, hT, hB, hX2, ho⟩ := hrel
    by_cases hlt : i < xs.length
    · have sx : Sl 2 wr (.slice a xs.length c) xs := HM.out.below hB L1.out
      obtain ⟨g1, rfl, hg1⟩ := sx.row (by omega)
      have cx := sx.cell hlt
      have bX := MM.out _ (List.getElem_mem hlt)
      have hil : i < L.length := by rw [hT.len]; exact hlt
      have co := ho.cell hil
      have fo := ho.free i
      cases i with
      | zero =>
        have HT := Lib.hid (hT.first MM.out hlt)
        have HB := Lib.hid hB
        have HX2 := Lib.hid hX2
        have HO := Lib.hid ho
        clear sx hB hX2 ho hT
        go_wp2
        go_roundw
        case rel => exact ⟨1, _, by go_num, by omega, HT.out, HB.out.setCell (by simp; omega) _, HX2.out.other (by simp) _, HO.out.set _ _⟩
        case measure => simp [intOf]; omega
      | succ i =>
        have hl0 : i < (L.set (i + 1) (xs[i + 1] / 2)).length := by rw [List.length_set]; omega
        have hl1 : i < L.length := by omega
        obtain ⟨b2, hn⟩ := hT.next MM.out hlt hl0
        have hg : (L.set (i + 1) (xs[i + 1] / 2))[i] = L[i] := by rw [List.getElem_set_ne (by omega)]
        rw [hg] at b2 hn
        have co2 := (ho.set (i + 1) (xs[i + 1] / 2)).cell hl0
        rw [hg] at co2
        have fo2 := (ho.set (i + 1) (xs[i + 1] / 2)).free i
        clear hg
        have hm1 := i64_mask1 xs[i + 1]
        have HT := Lib.hid hn
        have HB := Lib.hid hB
        have HX2 := Lib.hid hX2
        have HO := Lib.hid ho
        clear sx hB hX2 ho hT hn
        go_wp2
        go_roundw
        case rel => exact ⟨i + 2, _, by go_num, by omega, HT.out, (HB.out.setCell (by simp; omega) _).setCell (by simp; omega) _, (HX2.out.other (by simp) _).other (by simp) _, (HO.out.set _ _).set _ _⟩
        case measure => simp [intOf]; omega
    · obtain rfl : i = xs.length := by omega
      have hv : vl 16777216 L = ((M / 2 : Nat) : Int) := by have := hT.val; rw [List.take_length, VM.out] at this; omega
      have e0 := Lib.hid (show 0 ≤ vl 16777216 L by rw [hv]; omega)
      have e1 := Lib.hid (show L.length ≤ 100000000 by rw [hT.len]; omega)
      have e2 := Lib.hid (show ∀ x ∈ L, -4611686018427387904 ≤ x ∧ x ≤ 4611686018427387904 from fun x hx => by have := hT.rng x hx; omega)
      have HV := Lib.hid hv
      have HB := Lib.hid hB
      have HX2 := Lib.hid hX2
      have HO := Lib.hid ho
      clear hB hX2 ho hT hv
      go_wp2_with fail
      refine (settled_any _ L _ ⟨_, _, _, rfl⟩ HO.out e2.out e0.out e1.out).mono ?_
      rintro e w2 ⟨a3, n3, c3, rfl, hd, hg2, hs2⟩
      have bx := HX2.out.grown hg2 (by simp [Value.ownBlock])
      have bc := bx.cell
      have bf := bx.free
      have bs := fun u => (bx.set u).cell
      have HF := Lib.hid (fin_D (R := w.heap.size + 1) HB.out (by omega) HX2.out.lt (by omega) (by omega) hd hg2 hs2 HV.out)
      clear hd hg2 hs2 bx
      go_wp2
      exact bodyPost_ret (v := .agg #[.slice a3 n3 c3]) (by simp [results, Tryz.results128, go_sem, bs]) rfl HF.out

end Go.Proofs.YtmfplelodnoicaaGreatDoor
namespace Go.Proofs.YtmfplelodnoicaaGreatDoor
open Go.RowKit Dig

theorem vl_map_mul (b k : Int) : ∀ l : List Int, vl b (l.map (· * k)) = vl b l * k
  | [] => by simp [vl]
  | x :: l => by simp only [List.map_cons, vl, vl_map_mul b k l]; grind

theorem pow24 (r : Nat) (h : r < 24) : (1 : Int) ≤ 2 ^ r ∧ (2 : Int) ^ r ≤ 8388608 := by
  constructor
  · exact Int.pow_pos (by omega)
  · have h1 : 2 ^ r ≤ 2 ^ 23 := Nat.pow_le_pow_right (by omega) (by omega)
    have h2 : ((2 ^ r : Nat) : Int) ≤ ((2 ^ 23 : Nat) : Int) := by exact_mod_cast h1
    rw [Int.natCast_pow] at h2
    exact h2
theorem mul_bd24 {x y : Int} (hx : 0 ≤ x ∧ x < 16777216) (hy : 1 ≤ y ∧ y ≤ 8388608) : 0 ≤ x * y ∧ x * y ≤ 140737479966720 :=
  ⟨Int.mul_nonneg hx.1 (by omega), Int.le_trans (Int.mul_le_mul (show x ≤ 16777215 by omega) hy.2 (by omega) (by omega)) (by omega)⟩
theorem pow_split (k : Nat) : (2 : Nat) ^ k = 16777216 ^ (k / 24) * 2 ^ (k % 24) := by
  have h : (16777216 : Nat) = 2 ^ 24 := by decide
  rw [h, ← Nat.pow_mul, ← Nat.pow_add]
  congr 1
  omega

set_option maxRecDepth 100000 in
set_option maxHeartbeats 1000000 in
theorem shifted_any (a : Option Addr) (n c : Nat) (M k : Nat) (w : World) (h1 : Dg w (.slice a n c) M) (hlM : (dg 16777216 M).length ≤ 10000000) (hk : k ≤ 10000000) :
    Calls Tryz.prog 130 #[.agg #[.slice a n c], .int .i64 k] w (RetD w (M * 2 ^ k)) := by
  unfold Dg at h1
  have hn := h1.len
  have L1 := Lib.hid h1.lt
  have HM := Lib.hid h1
  have VM := Lib.hid (show vl 16777216 (dg 16777216 M) = (M : Int) from vl_dg (b := 16777216) (by omega) M)
  have MM := Lib.hid (show ∀ x ∈ dg 16777216 M, 0 ≤ x ∧ x < 16777216 from dg_mem (b := 16777216) (by omega) M)
  clear h1
  generalize dg 16777216 M = xs at *
  subst hn
  go_enter Tryz.func130, Tryz.ntmps130
  go_wp2_with (first | (at_make; refine wpList_make_sl _ rfl _ _ _ rfl 2 Tryz.underlying24 info_i64 _ _ _ _ (k / 24) (k / 24 + xs.length + 1) rfl rfl (by omega) (by omega) (by omega) (by omega) ?_; intro ho0; simp only [World.size_alloc] at ho0))
  have hB1 := Lib.hid (((((Below.refl w.heap.size w).alloc (Nat.le_refl _) (.cells #[.slice a xs.length c] 26)).alloc (by go_size) (.cells #[.slice none 0 0] 26)).alloc (by go_size) (.cells (madeCells #[.int .i64 0] (k / 24 + xs.length + 1)) 2)))
  have hX2 := Lib.hid ((((Box.new' (v := .slice none 0 0) (t := 26) (w := w.alloc (.cells #[.slice a xs.length c] 26)) (b := w.heap.size + 1) (by simp)).alloc (.cells (madeCells #[.int .i64 0] (k / 24 + xs.length + 1)) 2))))
  have hO := Lib.hid ho0
  clear ho0
  go_loopw [5, 21] (fun d ix wr => ∃ (i : Nat) (g c' : Nat), ix = .int .i64 i ∧ i ≤ xs.length ∧ d = .slice (some ⟨g, 0, none⟩) (k / 24 + i) c' ∧ w.heap.size + 1 < g ∧ Below w.heap.size w wr ∧ Box wr (w.heap.size + 1) (.slice none 0 0) 26 ∧
      Sl 2 wr (.slice (some ⟨g, 0, none⟩) (k / 24 + i) c') (List.replicate (k / 24) 0 ++ (xs.map (· * 2 ^ (k % 24))).take i)) (fun _ ix _ => xs.length - (intOf ix).toNat)
  case atStart => exact ⟨0, _, _, rfl, Nat.zero_le _, rfl, by omega, hB1.out, hX2.out, by simpa using hO.out⟩
  case round =>
    clear hB1 hX2 hO
    obtain ⟨i, g, c', rfl, hi, rfl, hgb, hB, hX2, ho⟩ := hrel
    by_cases hlt : i < xs.length
    · have sx : Sl 2 wr (.slice a xs.length c) xs := HM.out.below hB L1.out
      obtain ⟨g1, rfl, hg1⟩ := sx.row (by omega)
      have cx := sx.cell hlt
      have bX := MM.out _ (List.getElem_mem hlt)
      have HB := Lib.hid hB
      have HX2 := Lib.hid hX2
      have HO := Lib.hid ho
      clear sx hB hX2 ho
      have hr := pow24 (k % 24) (by omega)
      have hm := Lib.hid (mul_bd24 bX hr)
      have hmo := hm.out
      go_wp2_with (at_builtin; refine wpList_append_sl _ rfl _ _ 24 rfl 2 Tryz.underlying24 info_i64 _ _ rfl (HO.out.alloc _) _ _ rfl (Sl.one _ _ _) ?c3 ?_)
      case c3 => simp; omega
      intro a2 n2 c2 w2 ho2 hg2 hs2
      have hn2 := ho2.len
      obtain ⟨g2, rfl, hgg⟩ := ho2.row (by simp; omega)
      have HO2 := Lib.hid ho2
      have HG2 := Lib.hid hg2
      have HS2 := Lib.hid hs2
      have hlen : n2 = k / 24 + (i + 1) := by rw [hn2]; simp; omega
      subst hlen
      clear ho2 hg2 hs2 hn2 hm
      go_wp2
      go_roundw
      case rel =>
        have hgz := HG2.out.size
        simp only [World.size_alloc] at hgz
        have hbz := HB.out.size
        have hxl := HX2.out.lt
        refine ⟨i + 1, g2, c2, by go_num, by omega, rfl, ?_, ?_, ?_, ?_⟩
        · rcases HS2.out g2 rfl with h | h
          · simp only [Value.ownBlock, Option.some.injEq] at h; omega
          · omega
        · exact ((HB.out.alloc hbz _).grown HG2.out (by go_size) (fun j hj => by simp only [Value.ownBlock, Option.some.injEq] at hj; omega))
        · exact (HX2.out.alloc _).grown HG2.out (by simp only [Value.ownBlock, ne_eq, Option.some.injEq]; omega)
        · have h := HO2.out
          rw [List.take_succ_eq_append_getElem (by simpa using hlt), List.getElem_map]
          exact h
      case measure => simp [intOf]; omega
    · obtain rfl : i = xs.length := by omega
      rw [List.take_of_length_le (by simp)] at ho
      have hv : vl 16777216 (List.replicate (k / 24) 0 ++ xs.map (· * 2 ^ (k % 24))) = ((M * 2 ^ k : Nat) : Int) := by
        rw [vl_append, vl_replicate, vl_map_mul, VM.out, List.length_replicate, pow_split k]
        simp only [Int.natCast_mul, Int.natCast_pow]
        grind
      have e0 := Lib.hid (show 0 ≤ vl 16777216 (List.replicate (k / 24) 0 ++ xs.map (· * 2 ^ (k % 24))) by rw [hv]; omega)
      have e1 := Lib.hid (show (List.replicate (k / 24) 0 ++ xs.map (· * 2 ^ (k % 24))).length ≤ 100000000 by simp; omega)
      have e2 := Lib.hid (show ∀ x ∈ List.replicate (k / 24) 0 ++ xs.map (· * 2 ^ (k % 24)), -4611686018427387904 ≤ x ∧ x ≤ 4611686018427387904 from fun x hx => by
        rcases List.mem_append.1 hx with h | h
        · rw [(List.mem_replicate.1 h).2]; omega
        · obtain ⟨y, hy, rfl⟩ := List.mem_map.1 h
          have := mul_bd24 (MM.out y hy) (pow24 (k % 24) (by omega))
          omega)
      have HV := Lib.hid hv
      have HB := Lib.hid hB
      have HX2 := Lib.hid hX2
      have HO := Lib.hid ho
      clear hB hX2 ho hv
      generalize List.replicate (k / 24) 0 ++ xs.map (· * 2 ^ (k % 24)) = L at *
      go_wp2_with fail
      refine (settled_any _ L _ ⟨_, _, _, rfl⟩ HO.out e2.out e0.out e1.out).mono ?_
      rintro e w2 ⟨a3, n3, c3, rfl, hd, hg2, hs2⟩
      have bx := HX2.out.grown hg2 (by simp [Value.ownBlock]; omega)
      have bc := bx.cell
      have bf := bx.free
      have bs := fun u => (bx.set u).cell
      have HF := Lib.hid (fin_D (R := w.heap.size + 1) HB.out (by omega) HX2.out.lt (by omega) (by omega) hd hg2 hs2 HV.out)
      clear hd hg2 hs2 bx
      go_wp2
      exact bodyPost_ret (v := .agg #[.slice a3 n3 c3]) (by simp [results, Tryz.results130, go_sem, bs]) rfl HF.out

set_option maxRecDepth 100000 in
set_option maxHeartbeats 1000000 in
theorem word_any (n : Nat) (w : World) (h : n < 18446744073709551616) :
    Calls Tryz.prog 119 #[.int .u64 n] w (RetD w n) := by
  go_enter Tryz.func119, Tryz.ntmps119
  go_wp2
  go_loopw [0, 3] (fun u d wr => ∃ (r : Nat) (a' : Option Addr) (n' c' : Nat) (done : List Int), u = .int .u64 r ∧ d = .slice a' n' c' ∧ r < 18446744073709551616 ∧ Hid (done ++ dg 16777216 r = dg 16777216 n) ∧ Below w.heap.size w wr ∧ Box wr w.heap.size (.slice none 0 0) 26 ∧
      (∀ k, Value.ownBlock (.slice a' n' c') = some k → w.heap.size < k) ∧ Sl 2 wr (.slice a' n' c') done) (fun u _ _ => (intOf u).toNat)
  case atStart => exact ⟨n, none, 0, 0, [], rfl, rfl, h, by simp [Hid], (Below.refl _ w).alloc (Nat.le_refl _) _, Box.new _ _ _, fun k hk => by simp [Value.ownBlock] at hk, Sl.nil⟩
  case round =>
    obtain ⟨r, a', n', c', done, rfl, rfl, hr, hd, hB, hX2, hlt, ho⟩ := hrel
    by_cases h0 : r = 0
    · subst h0
      have hd' := hd.out
      rw [dg_zero, List.append_nil] at hd'
      subst hd'
      have bc := hX2.cell
      have bf := hX2.free
      have bs := fun u => (hX2.set u).cell
      have HB := Lib.hid hB
      have HL := Lib.hid hlt
      have HO := Lib.hid ho
      clear hB hX2 hlt ho hd
      go_wp2
      refine bodyPost_ret (v := .agg #[.slice a' n' c']) (by simp [results, Tryz.results119, go_sem, bs]) rfl ⟨a', n', c', rfl, HO.out.other (fun e => by have := HL.out _ e; omega) _, HB.out.setCell (Nat.le_refl _) _⟩
    · have hpos : dg 16777216 r = ((r % 16777216 : Nat) : Int) :: dg 16777216 (r / 16777216) := dg_pos (by omega) (by omega)
      have hlen : (dg 16777216 n).length ≤ 3 := dg_len_le (by omega) (Nat.lt_of_lt_of_le h (by decide))
      have hl2 : done.length + 1 ≤ 3 := by rw [← hd.out, hpos] at hlen; simp at hlen; omega
      have HD := Lib.hid hd.out
      have HP := Lib.hid hpos
      have HB := Lib.hid hB
      have HX2 := Lib.hid hX2
      have HO := Lib.hid ho
      have HL := Lib.hid hlt
      have hr1 : 1 ≤ r := by omega
      clear hd hpos hB hX2 ho hlt hlen
      go_wp2_with (at_builtin; refine wpList_append_sl _ rfl _ _ 24 rfl 2 Tryz.underlying24 info_i64 _ _ rfl (HO.out.alloc _) _ _ rfl (Sl.one _ _ _) ?c3 ?_)
      case c3 => simp; omega
      intro a2 n2 c2 w2 ho2 hg2 hs2
      go_wp2
      go_roundw
      case rel =>
        have hm : wrap64 (bits BinOp.and IntKind.u64 (r : Int) 16777215) = ((r % 16777216 : Nat) : Int) := by
          rw [u64_mask24 r hr]; exact IntWalk.wrap64_in _ (by omega)
        rw [hm] at ho2 hg2
        have hgz := hg2.size
        simp only [World.size_alloc] at hgz
        have hbz := HB.out.size
        refine ⟨r / 16777216, a2, n2, c2, _, by rw [Int.natCast_ediv]; rfl, rfl, by omega, by unfold Hid; rw [← HD.out, HP.out, List.append_assoc]; rfl, ?_, ?_, ?_, ho2⟩
        · exact ((HB.out.alloc hbz _).grown hg2 (by go_size) (fun j hj => by have := HL.out j hj; omega))
        · exact (HX2.out.alloc _).grown hg2 (fun e => by have := HL.out _ e.symm; omega)
        · intro k hk
          have hx := HX2.out.lt
          rcases hs2 k hk with h | h
          · exact HL.out k h
          · omega
      case measure => simp [intOf]; omega

end Go.Proofs.YtmfplelodnoicaaGreatDoor
namespace Go.Proofs.YtmfplelodnoicaaGreatDoor
open Go.RowKit Dig

theorem even_any (a : Option Addr) (n c : Nat) (M : Nat) (w : World) (h1 : Dg w (.slice a n c) M) (hM : 0 < M) :
    Calls Tryz.prog 127 #[.agg #[.slice a n c]] w fun e w' => e = .returned (.bool (((M : Int) % 2) == 0)) ∧ w' = w.alloc (.cells #[.slice a n c] 26) := by
  unfold Dg at h1
  have hn := h1.len
  have hd : dg 16777216 M = ((M % 16777216 : Nat) : Int) :: dg 16777216 (M / 16777216) := dg_pos (by omega) hM
  have hp : 0 < (dg 16777216 M).length := by rw [hd]; simp
  obtain ⟨g, rfl, hg⟩ := h1.row hp
  have hc := (h1.alloc (.cells #[.slice (some ⟨g, 0, none⟩) n c] 26)).cell hp
  have hx : (dg 16777216 M)[0] = ((M % 16777216 : Nat) : Int) := by simp only [hd, List.getElem_cons_zero]
  rw [hx] at hc
  have hm := i64_mask1 ((M % 16777216 : Nat) : Int)
  have hm2 : ((M % 16777216 : Nat) : Int) % 2 = (M : Int) % 2 := by omega
  rw [hm2] at hm
  have hn0 : 0 < n := by omega
  clear hx hm2 hd hp hn h1
  generalize ((M % 16777216 : Nat) : Int) = d at *
  go_enter Tryz.func127, Tryz.ntmps127
  go_wp2
  go_ret
  exact ⟨rfl, rfl⟩

set_option maxHeartbeats 1000000 in
theorem divisor_any (x y : Nat) (w : World) (hx : x < 9223372036854775808) (hy : y < 9223372036854775808) :
    Calls Tryz.prog 129 #[.int .u64 x, .int .u64 y] w fun e w' => e = .returned (.int .u64 (Nat.gcd x y : Nat)) ∧ Below w.heap.size w w' := by
  go_enter Tryz.func129, Tryz.ntmps129
  go_wp2
  go_loopw [0, 1] (fun u v wr => ∃ p q : Nat, u = .int .u64 p ∧ v = .int .u64 q ∧ p < 9223372036854775808 ∧ q < 9223372036854775808 ∧ Hid (Nat.gcd p q = Nat.gcd x y) ∧ Below w.heap.size w wr) (fun _ v _ => (intOf v).toNat)
  case atStart => exact ⟨x, y, rfl, rfl, hx, hy, rfl, Below.refl _ _⟩
  case round =>
    obtain ⟨p, q, rfl, rfl, hp, hq, hg, hB⟩ := hrel
    by_cases h0 : q = 0
    · subst h0
      go_wp2
      go_ret
      exact ⟨by rw [← hg.out, Nat.gcd_zero_right]; rfl, hB⟩
    · have h1 : 1 ≤ q := by omega
      have h2 : ((q : Int) != 0) = true := by simp; omega
      have HB := Lib.hid hB
      clear hB
      go_wp2
      go_quiet (fail)
      go_wp2
      go_roundw
      case rel =>
        have hlt := Nat.mod_lt p (show 0 < q by omega)
        exact ⟨q, p % q, rfl, by rw [Int.natCast_emod], hq, by omega, by unfold Hid; rw [← hg.out, Nat.gcd_comm p q, Nat.gcd_rec q p, Nat.gcd_comm], Below.drewN HB.out _⟩
      case measure =>
        have hlt := Nat.mod_lt p (show 0 < q by omega)
        simp only [intOf]; rw [← Int.natCast_emod]; omega

def cmpN (M N : Nat) : Int := if M < N then -1 else if N < M then 1 else 0

set_option maxRecDepth 100000 in
set_option maxHeartbeats 1000000 in
theorem size_any (a : Option Addr) (n c : Nat) (a2 : Option Addr) (n2 c2 : Nat) (M N : Nat) (w : World) (h1 : Dg w (.slice a n c) M) (h2 : Dg w (.slice a2 n2 c2) N)
    (hlM : (dg 16777216 M).length ≤ 10000000) (_hlN : (dg 16777216 N).length ≤ 10000000) :
    Calls Tryz.prog 121 #[.agg #[.slice a n c], .agg #[.slice a2 n2 c2]] w fun e w' => e = .returned (.int .i64 (cmpN M N)) ∧ Below w.heap.size w w' := by
  unfold Dg at h1 h2
  have hn := h1.len
  have hn2 := h2.len
  have L1 := Lib.hid h1.lt
  have L2 := Lib.hid h2.lt
  have HM := Lib.hid h1
  have HN := Lib.hid h2
  have LT := Lib.hid (fun h => lt_of_len_lt (b := 16777216) (by omega) (m := M) (n := N) h)
  have GT := Lib.hid (fun h => lt_of_len_lt (b := 16777216) (by omega) (m := N) (n := M) h)
  have VM := Lib.hid (show vl 16777216 (dg 16777216 M) = (M : Int) from vl_dg (b := 16777216) (by omega) M)
  have VN := Lib.hid (show vl 16777216 (dg 16777216 N) = (N : Int) from vl_dg (b := 16777216) (by omega) N)
  have MM := Lib.hid (show ∀ x ∈ dg 16777216 M, 0 ≤ x ∧ x < 16777216 from dg_mem (b := 16777216) (by omega) M)
  have MN := Lib.hid (show ∀ x ∈ dg 16777216 N, 0 ≤ x ∧ x < 16777216 from dg_mem (b := 16777216) (by omega) N)
  clear h1 h2
  generalize dg 16777216 M = xs at *
  generalize dg 16777216 N = ys at *
  subst hn; subst hn2
  by_cases hlt : xs.length < ys.length
  · have hc := Lib.hid (show cmpN M N = -1 by unfold cmpN; rw [if_pos (LT.out hlt)])
    go_enter Tryz.func121, Tryz.ntmps121
    go_wp2
    go_ret
    exact ⟨ret_int hc.out.symm, ((Below.refl _ _).alloc (Nat.le_refl _) _).alloc (by go_size) _⟩
  by_cases hgt : ys.length < xs.length
  · have hc := Lib.hid (show cmpN M N = 1 by unfold cmpN; rw [if_neg (by have := GT.out hgt; omega), if_pos (GT.out hgt)])
    go_enter Tryz.func121, Tryz.ntmps121
    go_wp2
    go_ret
    exact ⟨ret_int hc.out.symm, ((Below.refl _ _).alloc (Nat.le_refl _) _).alloc (by go_size) _⟩
  have heq : ys.length = xs.length := by omega
  clear hlt hgt LT GT _hlN
  rw [heq] at HN L2
  go_enter Tryz.func121, Tryz.ntmps121
  rw [heq]
  have HE := Lib.hid heq
  clear heq
  go_wp2
  have hB1 := Lib.hid (((Below.refl w.heap.size w).alloc (Nat.le_refl _) (.cells #[.slice a xs.length c] 26)).alloc (by go_size) (.cells #[.slice a2 xs.length c2] 26))
  have hX0 := Lib.hid ((Box.new' (v := .slice a xs.length c) (t := 26) (w := w) (b := w.heap.size) rfl).alloc (.cells #[.slice a2 xs.length c2] 26))
  have hX1 := Lib.hid (Box.new' (v := .slice a2 xs.length c2) (t := 26) (w := w.alloc (.cells #[.slice a xs.length c] 26)) (b := w.heap.size + 1) (by simp))
  go_loopw [5] (fun ix wr => ∃ (k : Nat), ix = .int .i64 ((k : Int) - 1) ∧ k ≤ xs.length ∧ Hid (xs.drop k = ys.drop k) ∧ Below w.heap.size w wr ∧ Box wr w.heap.size (.slice a xs.length c) 26 ∧ Box wr (w.heap.size + 1) (.slice a2 xs.length c2) 26) (fun ix _ => (intOf ix + 1).toNat)
  case atStart => exact ⟨xs.length, rfl, Nat.le_refl _, by unfold Hid; rw [List.drop_length, List.drop_of_length_le (Nat.le_of_eq HE.out)], hB1.out, hX0.out, hX1.out⟩
  case round =>
    clear hB1 hX0 hX1
    obtain ⟨k, rfl, hk, hd, hB, hX0, hX1⟩ := hrel
    cases k with
    | zero =>
      have HB := Lib.hid hB
      clear hX0 hX1 hB
      go_wp2
      go_ret
      refine ⟨ret_int ?_, HB.out⟩
      have e := hd.out
      rw [List.drop_zero, List.drop_zero] at e
      have e2 : (M : Int) = N := by rw [← VM.out, ← VN.out, e]
      unfold cmpN; rw [if_neg (by omega), if_neg (by omega)]
    | succ k =>
      have b0 := hX0.cell
      have b1 := hX1.cell
      have sx : Sl 2 wr (.slice a xs.length c) xs := HM.out.below hB L1.out
      have sy : Sl 2 wr (.slice a2 xs.length c2) ys := HN.out.below hB L2.out
      obtain ⟨g1, rfl, hg1⟩ := sx.row (by omega)
      have hky : k < ys.length := by rw [HE.out]; omega
      obtain ⟨g2, rfl, hg2⟩ := sy.row (by omega)
      have cx := sx.cell (k := k) (by omega)
      have cy := sy.cell hky
      have HD := Lib.hid hd.out
      have HB := Lib.hid hB
      have HX0 := Lib.hid hX0
      have HX1 := Lib.hid hX1
      clear sx sy hB hX0 hX1 hd
      rw [show ((k + 1 : Nat) : Int) - 1 = (k : Int) from by omega]
      rcases Int.lt_trichotomy xs[k] ys[k] with hl | he | hg
      · have hc := Lib.hid (show cmpN M N = -1 by
          unfold cmpN; rw [if_pos]
          have := vl_lt_of_top (b := 16777216) (by omega) (l := xs) (r := ys) HE.out.symm MM.out MN.out HD.out (by omega) hky hl
          have e1 := VM.out; have e2 := VN.out
          simp only [show ((16777216 : Nat) : Int) = 16777216 from rfl] at this
          omega)
        go_wp2
        go_quiet (fail)
        go_wp2
        go_ret
        exact ⟨ret_int hc.out.symm, Below.drewN HB.out _⟩
      · have hl : ¬ xs[k] < ys[k] := by omega
        have hg : ¬ ys[k] < xs[k] := by omega
        have he' := Lib.hid he
        clear he
        go_wp2
        go_quiet (fail)
        go_wp2
        go_quiet (fail)
        go_wp2
        go_roundw
        case rel => exact ⟨k, rfl, by omega, by
          unfold Hid
          rw [List.drop_eq_getElem_cons (by omega), List.drop_eq_getElem_cons hky, he'.out, HD.out], Below.drewN HB.out _, HX0.out.drewN _, HX1.out.drewN _⟩
        case measure => simp [intOf]
      · have hc := Lib.hid (show cmpN M N = 1 by
          have := vl_lt_of_top (b := 16777216) (by omega) (l := ys) (r := xs) HE.out MN.out MM.out HD.out.symm hky (by omega) hg
          have e1 := VM.out; have e2 := VN.out
          simp only [show ((16777216 : Nat) : Int) = 16777216 from rfl] at this
          unfold cmpN; rw [if_neg (by omega), if_pos (by omega)])
        have hl : ¬ xs[k] < ys[k] := by omega
        go_wp2
        go_quiet (fail)
        go_wp2
        go_quiet (fail)
        go_wp2
        go_ret
        exact ⟨ret_int hc.out.symm, Below.drewN (Below.drewN HB.out _) _⟩

end Go.Proofs.YtmfplelodnoicaaGreatDoor
namespace Go.Proofs.YtmfplelodnoicaaGreatDoor
open Go.RowKit Go.Shelf Dig
attribute [local go_sem] Oper.semAt_some

/-- a digit -/
abbrev Dx := { x : Int // 0 ≤ x ∧ x < 16777216 }

/-- the blocks of a list stay as they are -/
def KeepsSet (s : List Nat) (A B : World) : Prop := ∀ k ∈ s, B.heap[k]? = A.heap[k]?
theorem keepsSet_t {s : List Nat} {A B C : World} (h : KeepsSet s A B) (k : KeepsSet s B C) : KeepsSet s A C := fun i hi => (k i hi).trans (h i hi)
theorem keepsSet_b {s : List Nat} {w : World} (hs : ∀ k ∈ s, k < w.heap.size) (W : World) (l : Nat) (o o' : Obj) (hl : w.heap.size ≤ l) (_ : W.heap[l]? = some o) (_ : o.isCells = false) (_ : o.isWalk = false) : KeepsSet s W (W.putObj l o') := fun k hk => by
  have := hs k hk
  exact World.putObj_heap_other (by omega)

theorem Sl.keeps {t : TypeId} {w w' : World} {v : Value} {xs : List Int} (h : Sl t w v xs) (hk : ∀ k, v.ownBlock = some k → w'.heap[k]? = w.heap[k]?) : Sl t w' v xs := by
  refine ⟨h.1, ?_⟩
  rcases h.2 with hn | ⟨g, cap, cur, rfl, hb0, hg, rest⟩
  · exact .inl hn
  · exact .inr ⟨g, cap, cur, rfl, hb0, by rw [hk g rfl]; exact hg, rest⟩

set_option maxRecDepth 100000 in
set_option maxHeartbeats 2000000 in
/-- the iterator: every digit is yielded, the highest first -/
theorem down1_in (F : Fence) (n : Nat) (h7 : F.fn 140) (hro : F.round = none) (hn : 1 ≤ n) (l Bs : Nat) (a : Option Addr) (len cap : Nat) (ds : List Dx) (hreach : ds.length ≤ 100000000) (J Jx : List Dx → World → Prop)
    (blk : List Nat) (hblk : ∀ k, Value.ownBlock (.slice a len cap) = some k → k ∈ blk)
    (hY : ∀ pre x W, J pre W → pre.length < ds.length → YieldAt F (n - 1) Tryz.prog l #[.int .i64 x.1] W fun e W' =>
      (e = .returned (.bool true) ∧ J (pre ++ [x]) W' ∧ KeepsSet (Bs :: blk) W W') ∨ (e = .returned (.bool false) ∧ Jx (pre ++ [x]) W'))
    (W : World) (hBs : Box W Bs (.slice a len cap) 26) (hc : Sl 2 W (.slice a len cap) (ds.map (·.1))) (h0 : J [] W) :
    CallsIn F n Tryz.prog 140 #[.func (.yield l) #[] #[], .pointer (some ⟨Bs, 0, none⟩)] W fun e W' => (∃ v, e = .returned v) ∧
      ((∃ ys, ys = ds.reverse ∧ J ys W') ∨ (∃ pre, True ∧ Jx pre W')) := by
  have hlen := hc.len
  rw [List.length_map] at hlen
  subst hlen
  have HC := Lib.hid hc
  clear hc
  refine callsIn_of_wp Tryz.func140 rfl h7 ?_ hro
  simp only [Tryz.ntmps140, List.size_toArray, List.length_cons, List.length_nil, Nat.reduceAdd, Nat.reduceSub, Array.replicate_succ, Array.replicate_zero, List.push_toArray, List.append_toArray, List.nil_append, List.cons_append]
  have bc := hBs.cell
  have HB := Lib.hid hBs
  have HK := Lib.hid hblk
  clear hBs hblk
  gi_wp2
  gi_loopw [3] (fun i wr => ∃ k : Nat, k ≤ ds.length ∧ i = .int .i64 ((k : Int) - 1) ∧ J (ds.drop k).reverse wr ∧ KeepsSet (Bs :: blk) W wr)
    (fun i _ => (intOf i + 1).toNat)
  case atStart => exact ⟨ds.length, Nat.le_refl _, rfl, by rw [List.drop_length]; exact h0, fun _ _ => rfl⟩
  case round =>
    obtain ⟨k, hk, rfl, hJs, hnx⟩ := hrel
    have hbox : Box wr Bs (.slice a ds.length cap) 26 := (hnx Bs (by simp)).trans HB.out
    have bc' := hbox.cell
    cases k with
    | zero =>
      gi_wp2
      go_end0
      exact ⟨⟨_, rfl⟩, .inl ⟨_, rfl, hJs⟩⟩
    | succ k =>
      rw [show ((k + 1 : Nat) : Int) - 1 = (k : Int) from by omega]
      have hkl : k < ds.length := by omega
      have hsl : Sl 2 wr (.slice a ds.length cap) (ds.map (·.1)) := HC.out.keeps (fun j hj => hnx j (List.mem_cons_of_mem _ (HK.out j hj)))
      obtain ⟨g, rfl, hgl⟩ := hsl.row (by simp; omega)
      have hcx := hsl.cell (k := k) (by simpa using hkl)
      rw [List.getElem_map] at hcx
      have hdr : (ds.drop k).reverse = (ds.drop (k + 1)).reverse ++ [ds[k]] := by rw [List.drop_eq_getElem_cons hkl, List.reverse_cons]
      have HDR := Lib.hid hdr
      obtain ⟨fn, tmps, assign, body, hy, hR⟩ := hY _ ds[k] wr hJs (by simp; omega)
      clear hsl hdr
      have HX := Lib.hid hnx
      clear hnx hY
      gi_wp2
      refine hR.mono ?_
      rintro e W3 (⟨rfl, hJ3, hk3⟩ | ⟨rfl, hJx3⟩)
      · have HX3 := Lib.hid (keepsSet_t HX.out hk3)
        clear hk3
        gi_wp2
        go_roundw
        case rel => exact ⟨k, by omega, rfl, by rw [HDR.out]; exact hJ3, HX3.out⟩
        case measure => simp [intOf]
      · gi_wp2
        refine bodyPost_ret (results_none rfl _ _ _) rfl ?_
        exact ⟨⟨_, rfl⟩, .inr ⟨_, trivial, hJx3⟩⟩

set_option maxHeartbeats 1000000 in
theorem down_in (F : Fence) (n : Nat) (h5 : F.fn 131) (hro : F.round = none) (v : Value) (_hv : v.oneCell' = true) (w : World) :
    CallsIn F n Tryz.prog 131 #[.agg #[v]] w fun e w' => e = .returned (.func (.func 140) #[] #[.pointer (some ⟨w.heap.size, 0, none⟩)]) ∧ w' = w.alloc (.cells #[v] 26) := by
  refine callsIn_of_wp Tryz.func131 rfl h5 ?_ hro
  simp only [Tryz.ntmps131, List.size_toArray, List.length_cons, List.length_nil, Nat.reduceAdd, Nat.reduceSub, Array.replicate_succ, Array.replicate_zero, List.push_toArray, List.append_toArray, List.nil_append, List.cons_append]
  gi_wp2
  go_ret
  exact ⟨rfl, rfl⟩

/-- down hands back such an iterator -/
theorem down_stops (F : Fence) (n : Nat) (h7 : F.fn 140) (hro : F.round = none) (hn : 1 ≤ n) (Bs : Nat) (a : Option Addr) (len cap : Nat) (ds : List Dx) (hreach : ds.length ≤ 100000000) (w : World)
    (blk : List Nat) (hblk : ∀ k, Value.ownBlock (.slice a len cap) = some k → k ∈ blk) (hBs : Box w Bs (.slice a len cap) 26) (hc : Sl 2 w (.slice a len cap) (ds.map (·.1))) :
    SeqStopsK F n Tryz.prog 140 #[.pointer (some ⟨Bs, 0, none⟩)] (fun x : Dx => #[Value.int .i64 x.1]) (KeepsSet (Bs :: blk)) (fun ys => ys = ds.reverse) (fun _ => True) ds.length w := fun l J Jx W hW _ _ hY h0 =>
  down1_in F n h7 hro hn l Bs a len cap ds hreach J Jx blk hblk hY W (hBs.below hW hBs.lt) (hc.mono hW) h0

/-- what word has read -/
def wf (pre : List Dx) : Nat := pre.foldl (fun n x => (n % 1099511627776) * 16777216 + x.1.toNat) 0
theorem wf_snoc (pre : List Dx) (x : Dx) : wf (pre ++ [x]) = (wf pre % 1099511627776) * 16777216 + x.1.toNat := by simp [wf]
theorem wf_lt : ∀ pre : List Dx, wf pre < 18446744073709551616 := by
  intro pre
  rcases List.eq_nil_or_concat pre with rfl | ⟨ini, x, rfl⟩
  · simp [wf]
  · rw [List.concat_eq_append, wf_snoc]; have := x.2; omega

theorem wf_reverse : ∀ ds : List Dx, vl 16777216 (ds.map (·.1)) < 18446744073709551616 → (wf ds.reverse : Int) = vl 16777216 (ds.map (·.1))
  | [], _ => by simp [wf, vl]
  | x :: ds, h => by
    rw [List.map_cons, vl] at h ⊢
    have hx := x.2
    have h0 : 0 ≤ vl 16777216 (ds.map (·.1)) := vl_nonneg (b := 16777216) (fun y hy => by obtain ⟨z, _, rfl⟩ := List.mem_map.1 hy; exact z.2.1)
    have ih := wf_reverse ds (by omega)
    rw [List.reverse_cons, wf_snoc]
    omega

theorem u64_shl_or (n : Nat) (x : Int) (hx : 0 ≤ x ∧ x < 16777216) : bits .or .u64 (IntKind.u64.wrap ((n : Int) * 16777216)) x = (((n % 1099511627776) * 16777216 + x.toNat : Nat) : Int) := by
  have hw : IntKind.u64.wrap ((n : Int) * 16777216) = ((n % 1099511627776 : Nat) : Int) * 16777216 := by rw [IntKind.wrap_u64]; omega
  rw [hw, bits_join .u64 64 (by decide) (fun m h0 h1 => by rw [IntKind.wrap_u64]; omega) 24 _ _ (by omega) (by omega) (by omega) hx.1 (by omega) (by omega)]
  omega

set_option maxRecDepth 100000 in
set_option maxHeartbeats 2000000 in
theorem dword_in (F : Fence) (n : Nat) (h3 : F.fn 118) (h5 : F.fn 131) (h7 : F.fn 140) (hro : F.round = none) (hn : 3 ≤ n) (a : Option Addr) (len cap : Nat) (ds : List Dx) (hreach : ds.length ≤ 100000000) (w : World)
    (hI : Sl 2 w (.slice a len cap) (ds.map (·.1))) :
    CallsIn F n Tryz.prog 118 #[.agg #[.slice a len cap]] w fun e W' => e = .returned (.int .u64 (wf ds.reverse)) ∧ Below w.heap.size w W' := by
  have h1 : 1 ≤ n := by omega
  refine callsIn_of_wp_marks Tryz.func118 rfl h3 ?_ hro
  simp only [Tryz.ntmps118, List.size_toArray, List.length_cons, List.length_nil, Nat.reduceAdd, Nat.reduceSub, Array.replicate_succ, Array.replicate_zero, List.push_toArray, List.append_toArray, List.nil_append, List.cons_append]
  gi_wp2_with (gi_at_call 131; refine (down_in F (n - 1) h5 hro _ rfl _).mono ?_; rintro e w' ⟨rfl, rfl⟩)
  have hB0 : Below w.heap.size w (((w.alloc (.cells #[.slice a len cap] 26)).alloc (.cells #[.int .u64 0] 134)).alloc (.cells #[.slice a len cap] 26)) := (((Below.refl _ w).alloc (Nat.le_refl _) _).alloc (by go_size) _).alloc (by go_size) _
  have bN : Box (((w.alloc (.cells #[.slice a len cap] 26)).alloc (.cells #[.int .u64 0] 134)).alloc (.cells #[.slice a len cap] 26)) (w.heap.size + 1) (.int .u64 0) 134 := (Box.new' (by simp)).alloc _
  have bD : Box (((w.alloc (.cells #[.slice a len cap] 26)).alloc (.cells #[.int .u64 0] 134)).alloc (.cells #[.slice a len cap] 26)) (w.heap.size + 1 + 1) (.slice a len cap) 26 := Box.new' (by simp)
  have hblk : ∀ k ∈ (w.heap.size + 1 + 1) :: (Value.ownBlock (.slice a len cap)).toList, k < w.heap.size + 3 ∧ k ≠ w.heap.size + 1 := by
    intro k hk
    rcases List.mem_cons.1 hk with rfl | hk
    · omega
    · have := hI.lt k (by simpa using hk); omega
  refine wpIn_rangeFunc_ownG hro h1 (gf := 140) (lb := #[.pointer (some ⟨w.heap.size + 1 + 1, 0, none⟩)]) rfl h7 (enters_of Tryz.func140 (by kernel_rfl) rfl)
    (down_stops F (n - 1) h7 hro (by omega) (w.heap.size + 1 + 1) a len cap ds hreach _ (Value.ownBlock (.slice a len cap)).toList (fun k hk => by simp [hk]) bD (hI.mono hB0)) keepsSet_t (keepsSet_b (fun k hk => by have := (hblk k hk).1; simp; omega)) (Below.refl _ _) (fun _ => rfl)
    (fun pre W => (W.cell? ⟨w.heap.size + 1, 0, none⟩ = some (.int .u64 (wf pre)) ∧ W.frozen? ⟨w.heap.size + 1, 0, none⟩ = false) ∧ Below w.heap.size w W)
    (fun _ _ _ => False)
    (OwnFrom.and (Own.from (fun s A B row hs hg hr => ⟨cell_kept hs.1 hg hr, (frozen_kept hs.1 hg hr).trans hs.2⟩) _) (ownFrom_below (Nat.le_refl _) (by simp; omega)))
    (fun _ _ _ _ _ hs _ _ => hs)
    ⟨⟨bN.cell, bN.free⟩, hB0⟩
    (fun x => { tmps := #[.agg #[.slice a len cap], .pointer (some ⟨w.heap.size, 0, none⟩), .int .u64 0, .pointer (some ⟨w.heap.size + 1, 0, none⟩), .int .i64 x.1, .agg #[.slice a len cap], .func (.func 140) #[] #[.pointer (some ⟨w.heap.size + 1 + 1, 0, none⟩)], .int .i64 x.1, undef, undef, undef, undef, undef, undef], defers := [] }) ?assign ?body ?done ?stop
  case assign =>
    intro l x W K hK
    gi_wp2
    exact hK
  case body =>
    rintro l pre x W ⟨⟨hc, hf⟩, hB⟩ _
    have hx1 : 0 ≤ x.1 ∧ x.1 < 16777216 := x.2
    gi_wp2
    rw [u64_shl_or _ _ hx1, ← wf_snoc]
    refine ⟨(KeepsOthers.setCell _ _ _).from _, fun k hk => Below.heap_setCell _ _ _ _ (fun e => (hblk k hk).2 e), ⟨⟨World.cell?_setCell_same' _ _ _ (by rw [hc]; rfl), by rw [World.frozen?_setCell]; exact hf⟩, hB.setCell (p := ⟨w.heap.size + 1, 0, none⟩) (by simp) _⟩⟩
  case done =>
    rintro D ys W hD rfl ⟨⟨hc, _⟩, hB⟩ hK
    gi_wp2
    refine ⟨by simp, .inl ⟨_, _, rfl, run_takeDeferred hK, ?_⟩⟩
    exact ⟨_, results_tmp rfl _ _ _, rfl, hB.trans (belowK_b (w := w) (Nat.le_refl _) W D _ _ (by simp at hD; omega) hK rfl rfl)⟩
  case stop =>
    rintro D c pre W _ _ h _
    exact h.elim

/-- the digits, each with its bounds -/
theorem dx_of (N : Nat) : ∃ ds : List Dx, ds.map (·.1) = dg 16777216 N :=
  ⟨(dg 16777216 N).attachWith _ (dg_mem (b := 16777216) (by omega) N), by simp⟩

theorem dword_any (a : Option Addr) (n c : Nat) (M : Nat) (w : World) (h1 : Dg w (.slice a n c) M) (hM : M < 18446744073709551616) :
    Calls Tryz.prog 118 #[.agg #[.slice a n c]] w fun e w' => e = .returned (.int .u64 M) ∧ Below w.heap.size w w' := by
  obtain ⟨ds, hds⟩ := dx_of M
  have hlen : ds.length ≤ 3 := by
    have h := congrArg List.length hds
    rw [List.length_map] at h
    rw [h]
    exact dg_len_le (by omega) (Nat.lt_of_lt_of_le hM (by decide))
  have hv : vl 16777216 (ds.map (·.1)) = (M : Int) := by rw [hds]; exact vl_dg (b := 16777216) (by omega) M
  have hr := wf_reverse ds (by omega)
  have hr2 : wf ds.reverse = M := by omega
  unfold Dg at h1
  rw [← hds] at h1
  refine callsIn_wide (n := 3).1 ?_
  rw [← hr2]
  exact dword_in _ 3 trivial trivial trivial rfl (Nat.le_refl _) a n c ds (by omega) w h1

end Go.Proofs.YtmfplelodnoicaaGreatDoor
namespace Go.Proofs.YtmfplelodnoicaaGreatDoor
open Go.RowKit Dig

set_option maxHeartbeats 400000 in
theorem none_any (a : Option Addr) (n c : Nat) (w : World) :
    Calls Tryz.prog 104 #[.agg #[.slice a n c]] w fun e w' => e = .returned (.bool ((n : Int) == 0)) ∧ w' = w.alloc (.cells #[.slice a n c] 26) := by
  go_enter Tryz.func104, Tryz.ntmps104
  go_wp2
  go_ret
  exact ⟨rfl, rfl⟩

set_option maxHeartbeats 400000 in
theorem made_false (a : Option Addr) (n c : Nat) (w : World) :
    Calls Tryz.prog 101 #[.bool false, .agg #[.slice a n c]] w fun e w' => e = .returned (.agg #[.slice a n c, .bool false]) ∧ Below w.heap.size w w' := by
  go_enter Tryz.func101, Tryz.ntmps101
  go_wp2
  go_region
  go_wp2
  refine bodyPost_ret (v := .agg #[.slice a n c, .bool false]) (by simp [results, Tryz.results101, go_sem]) rfl ⟨rfl, ?_⟩
  exact (((Below.refl _ _).alloc (Nat.le_refl _) _).alloc (by go_size) _).drew

set_option maxHeartbeats 400000 in
theorem made_true (a : Option Addr) (n c : Nat) (w : World) :
    Calls Tryz.prog 101 #[.bool true, .agg #[.slice a n c]] w fun e w' => e = .returned (.agg #[.slice a n c, .bool (!((n : Int) == 0))]) ∧ Below w.heap.size w w' := by
  go_enter Tryz.func101, Tryz.ntmps101
  go_wp2
  go_region_held3 (fun w' => w'.cell? ⟨w.heap.size, 0, none⟩ = some (.slice a n c) ∧ True) (first | exact ⟨Box.cell (t := 26) ((Box.new' rfl).alloc _), trivial⟩ | exact ⟨Box.cell (t := 26) (((Box.new' rfl).alloc _).alloc _), trivial⟩) (first | (go_at_call 104; refine (none_any _ _ _ _).mono ?_; rintro e w' ⟨rfl, rfl⟩))
  go_wp2
  refine bodyPost_ret (v := .agg #[.slice a n c, .bool (!((n : Int) == 0))]) (by simp [results, Tryz.results101, go_sem]) rfl ⟨rfl, ?_⟩
  exact ((((Below.refl _ _).alloc (Nat.le_refl _) _).alloc (by go_size) _).alloc (by go_size) _).drew

/-- digits, with a sign -/
structure Zd (w : World) (s : Value) (m : Bool) (z : Int) : Prop where
  d : Dg w s z.natAbs
  m : m = decide (z < 0)

theorem Zd.mono {w w' : World} {s : Value} {m : Bool} {z : Int} (h : Zd w s m z) (hb : Below w.heap.size w w') : Zd w' s m z := ⟨Sl.mono h.d hb, h.m⟩

/-- the result is the integer z; what was there is as it was -/
def RetZ (w : World) (z : Int) (e : Ending) (w' : World) : Prop := ∃ a n c m, e = .returned (.agg #[.slice a n c, .bool m]) ∧ Zd w' (.slice a n c) m z ∧ Below w.heap.size w w'

theorem made_any (m : Bool) (a : Option Addr) (n c : Nat) (N : Nat) (w : World) (h : Dg w (.slice a n c) N) (z : Int) (hz : z = if m then -(N : Int) else N) :
    Calls Tryz.prog 101 #[.bool m, .agg #[.slice a n c]] w (RetZ w z) := by
  have hn := Sl.len h
  cases m
  · refine (made_false a n c w).mono ?_
    rintro e w' ⟨rfl, hb⟩
    simp only [Bool.false_eq_true, if_false] at hz
    subst hz
    exact ⟨a, n, c, false, rfl, ⟨by rw [Int.natAbs_natCast]; exact Sl.mono h hb, by simp⟩, hb⟩
  · refine (made_true a n c w).mono ?_
    rintro e w' ⟨rfl, hb⟩
    simp only [if_true] at hz
    subst hz
    refine ⟨a, n, c, _, rfl, ⟨by rw [Int.natAbs_neg, Int.natAbs_natCast]; exact Sl.mono h hb, ?_⟩, hb⟩
    have e : (n = 0) ↔ N = 0 := by
      rw [← dg_nil_iff (b := 16777216) (by omega) (n := N), hn]; exact List.length_eq_zero_iff
    by_cases h0 : N = 0
    · subst h0; have := e.2 rfl; subst this; rfl
    · have : n ≠ 0 := fun e' => h0 (e.1 e')
      have h1 : ((n : Int) == 0) = false := by simpa using this
      rw [h1]
      simp; omega
end Go.Proofs.YtmfplelodnoicaaGreatDoor
namespace Go.Proofs.YtmfplelodnoicaaGreatDoor
open Go.RowKit Dig Flt

def FU (x K : Nat) : Prop := x ≤ (K + 1023) * 4503599627370496
def FL (x : Nat) : Prop := 1023 * 4503599627370496 ≤ x

theorem FU.mono {x K L : Nat} (h : FU x K) (hl : K ≤ L) : FU x L := Nat.le_trans h (Nat.mul_le_mul_right _ (by omega))

theorem near_fu {m : Nat} {p : Int} {K : Nat} (hK : K ≤ 900) (h : Up m p K) : FU (Ieee.double.nearest false m p) (K + 1) := near_ub m p K hK h

theorem fadd_ub {x y K : Nat} (hK : K ≤ 800) (hx : FU x K) (hy : FU y K) : ∃ r, floatBits .add .f64 x y = some r ∧ FU r (K + 2) ∧ (FL x → FL r) := by
  obtain ⟨m, i, e1, u1, l1⟩ := read_ub x K (by omega) hx
  obtain ⟨n, j, e2, u2, _⟩ := read_ub y K (by omega) hy
  obtain ⟨t, e, e3, u3, l3⟩ := sum_up u1 u2
  refine ⟨Ieee.double.nearest false t e, ?_, near_fu (K := K + 1) (by omega) (by rw [Int.natCast_add]; exact u3), fun h => ?_⟩
  · show Ieee.Format.add Ieee.double x y = _
    unfold Ieee.Format.add
    rw [e1, e2, e3]; rfl
  · have l := l3 (l1 h)
    exact near_lb t e l (by have := u3.resolve_left l.1; omega)

theorem fmul_ub {x y K L : Nat} (hK : K + L ≤ 800) (hx : FU x K) (hy : FU y L) : ∃ r, floatBits .mul .f64 x y = some r ∧ FU r (K + L + 2) := by
  obtain ⟨m, i, e1, u1, l1⟩ := read_ub x K (by omega) hx
  obtain ⟨n, j, e2, u2, _⟩ := read_ub y L (by omega) hy
  obtain ⟨t, e, e3, u3⟩ := prod_up u1 u2
  refine ⟨Ieee.double.nearest false t e, ?_, near_fu (K := K + L + 1) (by omega) (by simpa using u3)⟩
  show Ieee.Format.mul Ieee.double x y = _
  unfold Ieee.Format.mul
  rw [e1, e2, e3]; rfl

theorem fquo_ub {x y K L : Nat} (hK : K ≤ 800) (hL : L ≤ 800) (hx : FU x K) (hy : FU y L) (hl : FL y) : ∃ r, floatBits .quo .f64 x y = some r ∧ FU r (K + 1) := by
  obtain ⟨m, i, e1, u1, l1⟩ := read_ub x K (by omega) hx
  obtain ⟨n, j, e2, u2, l2⟩ := read_ub y L (by omega) hy
  obtain ⟨hn, hj⟩ := l2 hl
  obtain ⟨t, e, e3, u3⟩ := quot_up (K := (K : Int)) (j := j) u1 hn
  refine ⟨Ieee.double.nearest false t e, ?_, near_fu (K := K) (by omega) (u3.imp id (fun h => by omega))⟩
  show Ieee.Format.div Ieee.double x y = _
  unfold Ieee.Format.div
  rw [e1, e2, show Ieee.double.fractionBits + 2 = 54 from rfl, e3]; rfl

theorem fint_ub {n : Int} (h : 0 ≤ n ∧ n < 16777216) : FU (floatOfInt .f64 n) 24 ∧ (1 ≤ n → FL (floatOfInt .f64 n)) := by
  obtain ⟨m, rfl⟩ := Int.eq_ofNat_of_zero_le h.1
  have e : floatOfInt .f64 (m : Int) = Ieee.double.nearest false m 0 := by
    show Ieee.double.nearest (decide ((m : Int) < 0)) (m : Int).natAbs 0 = _
    rw [decide_eq_false (by omega), Int.natAbs_natCast]
  rw [e]
  constructor
  · refine near_fu (K := 23) (by omega) ?_
    by_cases hm : m = 0
    · exact .inl hm
    · have := (Nat.log2_lt (k := 24) hm).2 (by omega)
      exact .inr (by omega)
  · intro h1
    refine near_lb m 0 ⟨by omega, by omega⟩ ?_
    have := (Nat.log2_lt (n := m) (k := 24) (by omega)).2 (by omega)
    omega

theorem ftoint_ub {x K : Nat} (hK : K ≤ 61) (hx : FU x K) : ∃ n : Nat, floatToIntVal .f64 x .i64 = some (n : Int) ∧ n < 2 ^ (K + 1) := by
  obtain ⟨m, i, e1, u1, _⟩ := read_ub x K (by omega) hx
  obtain ⟨n, e2, h2⟩ := toInt_up u1
  refine ⟨n, ?_, h2⟩
  have h3 : n < 2 ^ 62 := Nat.lt_of_lt_of_le h2 (Nat.pow_le_pow_right (by omega) (by omega))
  unfold floatToIntVal
  rw [show FloatKind.decode .f64 x = Ieee.Datum.number false m i from e1, e2]
  simp only []
  rw [if_pos]
  constructor
  · simp [IntKind.min, IntKind.signed, IntKind.bits]
  · simp [IntKind.max, IntKind.signed, IntKind.bits]; omega

theorem unit_fu : FU 4715268809856909312 24 := by unfold FU; decide
theorem unit_fl : FL 4715268809856909312 := by unfold FL; decide

/-- the digit at a place, 0 outside -/
def dgt (xs : List Int) (i : Int) : Int := if 0 ≤ i then xs[i.toNat]?.getD 0 else 0
theorem dgt_bd {xs : List Int} (h : ∀ x ∈ xs, 0 ≤ x ∧ x < 16777216) (i : Int) : 0 ≤ dgt xs i ∧ dgt xs i < 16777216 := by
  unfold dgt
  split
  · by_cases hl : i.toNat < xs.length
    · rw [List.getElem?_eq_getElem hl]; exact h _ (List.getElem_mem hl)
    · rw [List.getElem?_eq_none (by omega)]; simp
  · omega

set_option maxHeartbeats 1000000 in
theorem lead1_any (i : Int) (Bs : Nat) (a : Option Addr) (n c : Nat) (xs : List Int) (w : World) (hi : -10 ≤ i ∧ i ≤ 1000000000) (hb : Box w Bs (.slice a n c) 26) (hs : Sl 2 w (.slice a n c) xs) (hl : xs.length ≤ 100000000) :
    Calls Tryz.prog 154 #[.int .i64 i, .pointer (some ⟨Bs, 0, none⟩)] w fun e w' => e = .returned (.float .f64 (floatOfInt .f64 (dgt xs i))) ∧ w' = w := by
  have hn := hs.len
  subst hn
  have bc := hb.cell
  by_cases h0 : 0 ≤ i
  · obtain ⟨j, rfl⟩ := Int.eq_ofNat_of_zero_le h0
    by_cases hj : j < xs.length
    · obtain ⟨g, rfl, hg⟩ := hs.row (by omega)
      have hc := hs.cell hj
      have hd := Lib.hid (show dgt xs (j : Int) = xs[j] by unfold dgt; rw [if_pos (by omega), Int.toNat_natCast, List.getElem?_eq_getElem hj]; rfl)
      clear hs hb
      go_enter Tryz.func154, Tryz.ntmps154
      go_wp2
      go_ret
      exact ⟨by rw [hd.out]; rfl, rfl⟩
    · have hd := Lib.hid (show dgt xs (j : Int) = 0 by unfold dgt; rw [if_pos (by omega), Int.toNat_natCast, List.getElem?_eq_none (by omega)]; rfl)
      clear hs hb
      go_enter Tryz.func154, Tryz.ntmps154
      go_wp2
      go_ret
      exact ⟨by rw [hd.out]; rfl, rfl⟩
  · have hd := Lib.hid (show dgt xs i = 0 by unfold dgt; rw [if_neg h0])
    clear hs hb
    go_enter Tryz.func154, Tryz.ntmps154
    go_wp2
    go_ret
    exact ⟨by rw [hd.out]; rfl, rfl⟩

set_option maxRecDepth 100000 in
set_option maxHeartbeats 1000000 in
theorem leading_any (a : Option Addr) (n c : Nat) (p : Int) (xs : List Int) (w : World) (hp : 0 ≤ p ∧ p ≤ 1000000000) (hs : Sl 2 w (.slice a n c) xs) (hm : ∀ x ∈ xs, 0 ≤ x ∧ x < 16777216) (hl : xs.length ≤ 100000000) :
    Calls Tryz.prog 141 #[.agg #[.slice a n c], .int .i64 p] w fun e w' => ∃ x, e = .returned (.float .f64 x) ∧ FU x 29 ∧ (1 ≤ dgt xs (p - 1) → FL x) ∧ Below w.heap.size w w' := by
  obtain ⟨u1, l1⟩ := fint_ub (dgt_bd hm (p - 1))
  obtain ⟨u2, _⟩ := fint_ub (dgt_bd hm (p - 2))
  obtain ⟨u3, _⟩ := fint_ub (dgt_bd hm (p - 3))
  obtain ⟨x1, e1, v1⟩ := fquo_ub (by omega) (by omega) u2 unit_fu unit_fl
  obtain ⟨x2, e2, v2⟩ := fquo_ub (by omega) (by omega) u3 unit_fu unit_fl
  obtain ⟨x3, e3, v3⟩ := fquo_ub (by omega) (by omega) v2 unit_fu unit_fl
  obtain ⟨x4, e4, v4, k4⟩ := fadd_ub (K := 25) (by omega) (u1.mono (by omega)) v1
  obtain ⟨x5, e5, v5, k5⟩ := fadd_ub (K := 27) (by omega) v4 (v3.mono (by omega))
  have q1 : ∀ t w, (binOp .quo t (.float .f64 (floatOfInt .f64 (dgt xs (p - 2)))) (.float .f64 4715268809856909312)).run Tryz.prog w = .ok (.float .f64 x1) w := fun t w => run_float_arith w .quo t .f64 _ _ _ e1
  have q2 : ∀ t w, (binOp .quo t (.float .f64 (floatOfInt .f64 (dgt xs (p - 3)))) (.float .f64 4715268809856909312)).run Tryz.prog w = .ok (.float .f64 x2) w := fun t w => run_float_arith w .quo t .f64 _ _ _ e2
  have q3 : ∀ t w, (binOp .quo t (.float .f64 x2) (.float .f64 4715268809856909312)).run Tryz.prog w = .ok (.float .f64 x3) w := fun t w => run_float_arith w .quo t .f64 _ _ _ e3
  have q4 : ∀ t w, (binOp .add t (.float .f64 (floatOfInt .f64 (dgt xs (p - 1)))) (.float .f64 x1)).run Tryz.prog w = .ok (.float .f64 x4) w := fun t w => run_float_arith w .add t .f64 _ _ _ e4
  have q5 : ∀ t w, (binOp .add t (.float .f64 x4) (.float .f64 x3)).run Tryz.prog w = .ok (.float .f64 x5) w := fun t w => run_float_arith w .add t .f64 _ _ _ e5
  have HF := Lib.hid (show FU x5 29 ∧ (1 ≤ dgt xs (p - 1) → FL x5) from ⟨v5, fun h => k5 (k4 (l1 h))⟩)
  clear u1 l1 u2 u3 e1 e2 e3 e4 e5 v1 v2 v3 v4 v5 k4 k5
  have hS := Lib.hid (hs.alloc (.cells #[.slice a n c] 26))
  have hB := Lib.hid (Box.new' (w := w) (v := .slice a n c) (t := 26) (b := w.heap.size) rfl)
  clear hs hm
  go_enter Tryz.func141, Tryz.ntmps141
  go_wp2_with (go_at_call 154; refine (lead1_any _ _ _ _ _ xs _ (by omega) hB.out hS.out (by omega)).mono ?_; rintro e w' ⟨rfl, rfl⟩)
  go_ret
  exact ⟨x5, rfl, HF.out.1, HF.out.2, (Below.refl _ _).alloc (Nat.le_refl _) _⟩

set_option maxRecDepth 100000 in
set_option maxHeartbeats 1000000 in
theorem share_any (a : Option Addr) (n c : Nat) (a2 : Option Addr) (n2 c2 : Nat) (M N : Nat) (w : World) (h1 : Dg w (.slice a n c) M) (h2 : Dg w (.slice a2 n2 c2) N) (hN : 0 < N)
    (hlM : (dg 16777216 M).length ≤ 10000000) (hlN : (dg 16777216 N).length ≤ 10000000) :
    Calls Tryz.prog 133 #[.agg #[.slice a n c], .agg #[.slice a2 n2 c2]] w fun e w' => ∃ k : Nat, e = .returned (.int .i64 k) ∧ k < 288230376151711744 ∧ Below w.heap.size w w' := by
  unfold Dg at h1 h2
  have hn := h1.len
  have hn2 := h2.len
  have HM := Lib.hid h1
  have HN := Lib.hid h2
  have MM := Lib.hid (show ∀ x ∈ dg 16777216 M, 0 ≤ x ∧ x < 16777216 from dg_mem (b := 16777216) (by omega) M)
  have MN := Lib.hid (show ∀ x ∈ dg 16777216 N, 0 ≤ x ∧ x < 16777216 from dg_mem (b := 16777216) (by omega) N)
  have htop := Lib.hid (show 1 ≤ dgt (dg 16777216 N) (((dg 16777216 N).length : Int) - 1) from by
    have hp : 0 < (dg 16777216 N).length := by rw [dg_pos (by omega) hN]; simp
    obtain ⟨j, hj⟩ : ∃ j, (dg 16777216 N).length = j + 1 := ⟨(dg 16777216 N).length - 1, by omega⟩
    have hl : j < (dg 16777216 N).length := by omega
    unfold dgt
    rw [hj, if_pos (by omega), show (((j + 1 : Nat) : Int) - 1).toNat = j from by omega, List.getElem?_eq_getElem hl]
    have hnm := dg_norm (b := 16777216) (by omega) N
    have hne : (dg 16777216 N)[j] ≠ 0 := fun e => hnm.2 ((dg 16777216 N).take j) (by
      have := List.take_succ_eq_append_getElem hl
      rw [e, ← hj, List.take_length] at this
      exact this)
    have := hnm.1 _ (List.getElem_mem hl)
    simp only [Option.getD_some]
    omega)
  clear h1 h2
  generalize dg 16777216 M = xs at *
  generalize dg 16777216 N = ys at *
  subst hn; subst hn2
  go_enter Tryz.func133, Tryz.ntmps133
  go_wp2
  have hSx := Lib.hid ((HM.out.alloc (.cells #[.slice a xs.length c] 26)).alloc (.cells #[.slice a2 ys.length c2] 26))
  have hSy := Lib.hid ((HN.out.alloc (.cells #[.slice a xs.length c] 26)).alloc (.cells #[.slice a2 ys.length c2] 26))
  have hB0 := Lib.hid ((Box.new' (w := w) (v := .slice a xs.length c) (t := 26) (b := w.heap.size) rfl).alloc (.cells #[.slice a2 ys.length c2] 26))
  have hB1 := Lib.hid (Box.new' (w := w.alloc (.cells #[.slice a xs.length c] 26)) (v := .slice a2 ys.length c2) (t := 26) (b := w.heap.size + 1) (by simp))
  have hBe := Lib.hid (((Below.refl w.heap.size w).alloc (Nat.le_refl _) (.cells #[.slice a xs.length c] 26)).alloc (by go_size) (.cells #[.slice a2 ys.length c2] 26))
  generalize (w.alloc (.cells #[.slice a xs.length c] 26)).alloc (.cells #[.slice a2 ys.length c2] 26) = W at *
  have hw1 : IntKind.i64.wrap ((ys.length : Int) + 1) = (ys.length : Int) + 1 := IntWalk.i64_in _ (by omega)
  go_region_held3 (fun w' => w'.cell? ⟨w.heap.size, 0, none⟩ = some (.slice a xs.length c) ∧ w'.cell? ⟨w.heap.size + 1, 0, none⟩ = some (.slice a2 ys.length c2))
    (first | exact ⟨(hB0.out.below hb2' hB0.out.lt).cell, (hB1.out.below hb2' hB1.out.lt).cell⟩ | exact ⟨(hB0.out.below hb1' hB0.out.lt).cell, (hB1.out.below hb1' hB1.out.lt).cell⟩ | exact ⟨hB0.out.cell, hB1.out.cell⟩)
    (first
      | (go_at_call_of 141 (Value.slice a xs.length c); refine (leading_any a xs.length c ((ys.length : Int) + 1) xs _ (by omega) (Sl.drew hSx.out) MM.out (by omega)).mono ?_; rintro e w1 ⟨x1, rfl, u1, _, hb⟩
         have hb1' := Below.trans (Below.refl W.heap.size W).drew hb; clear hb
         obtain ⟨x2, e2, u2⟩ := fmul_ub (L := 24) (by omega) u1 unit_fu
         have q2 : ∀ t w, (binOp .mul t (.float .f64 x1) (.float .f64 4715268809856909312)).run Tryz.prog w = .ok (.float .f64 x2) w := fun t w => run_float_arith w .mul t .f64 _ _ _ e2)
      | (go_at_call_of 141 (Value.slice a2 ys.length c2); refine (leading_any a2 ys.length c2 (ys.length : Int) ys _ (by omega) (hSy.out.below hb1' hSy.out.lt) MN.out (by omega)).mono ?_; rintro e w2 ⟨x3, rfl, u3, l3, hb⟩
         have hb2' := Below.trans hb1' (hb.mono hb1'.size); clear hb
         obtain ⟨x4, e4, u4⟩ := fquo_ub (by omega) (by omega) u2 u3 (l3 htop.out)
         have q4 : ∀ t w, (binOp .quo t (.float .f64 x2) (.float .f64 x3)).run Tryz.prog w = .ok (.float .f64 x4) w := fun t w => run_float_arith w .quo t .f64 _ _ _ e4
         obtain ⟨k, e5, hk⟩ := ftoint_ub (by omega) u4
         have q5 : ∀ w, (convert 158 2 (.float .f64 x4)).run Tryz.prog w = .ok (.int .i64 k) w := fun w => run_convert_float_int w 158 2 .f64 .i64 x4 k (by rw [Tryz.underlying158]; rfl) Tryz.underlying2 e5))
  go_wp2
  go_ret
  exact ⟨k, rfl, Nat.lt_of_lt_of_le hk (by decide), hBe.out.trans (hb2'.mono hBe.out.size)⟩

end Go.Proofs.YtmfplelodnoicaaGreatDoor

/- the yard's hops: the iterator's contract; left -/
import Derived.Test.YtchignmnnbepnaaGreatJ37
import Derived.Test.YtchignmnnbepnaaGreatJ35
import Derived.Test.YtchignmnnbepnaaGreatJ11
import Derived.RangeFuncNested
import Derived.RangeFuncBound
import Derived.RangeFuncCalls
import Derived.RangeFuncLeaves
import Derived.RangeFuncBox
import Derived.RangeFuncWrites
import Derived.Shelf.Abstract
import Derived.Shelf.RegionOpen
import Derived.OwnWalkIn
import Derived.TacticsInMore
import Derived.LoopNIn
import Derived.LoopIn
namespace Go.Proofs.YtchignmnnbepnaaGreat
open Go.RowKit Go.Shelf
attribute [local go_sem] Oper.semAt_some

/-- cells stay as they are, but for blocks of one's own -/
def KeepsC (own : List Nat) (A B : World) : Prop := A.heap.size ≤ B.heap.size ∧ ∀ k o, A.heap[k]? = some o → o.isCells = true → k ∉ own → B.heap[k]? = some o
theorem keepsC_r (own : List Nat) (A : World) : KeepsC own A A := ⟨Nat.le_refl _, fun _ _ h _ _ => h⟩
theorem keepsC_t {own : List Nat} {A B C : World} (h : KeepsC own A B) (k : KeepsC own B C) : KeepsC own A C := ⟨Nat.le_trans h.1 k.1, fun i o hi ho hn => k.2 i o (h.2 i o hi ho hn) ho hn⟩
theorem keepsC_b {own : List Nat} {w : World} (W : World) (l : Nat) (o o' : Obj) (_ : w.heap.size ≤ l) (hl : W.heap[l]? = some o) (ho : o.isCells = false) (_ : o.isWalk = false) : KeepsC own W (W.putObj l o') := by
  refine ⟨by simp, fun k p hk hp _ => (World.putObj_heap_other (fun e => ?_)).trans hk⟩
  subst e
  rw [hl] at hk; cases hk; rw [ho] at hp; cases hp
theorem keepsC_below {own : List Nat} {A B : World} (h : Below A.heap.size A B) : KeepsC own A B := ⟨h.size, fun k _ hk _ _ => (h.block k (Array.getElem?_eq_some_iff.1 hk).1).trans hk⟩
theorem cell_heap {W : World} {b i : Nat} {u : Value} (h : W.cell? ⟨b, i, none⟩ = some u) : ∃ o, W.heap[b]? = some o ∧ o.isCells = true := by
  unfold World.cell? at h
  cases hb : W.heap[b]? with
  | none => simp only [hb] at h; cases h
  | some ob => cases ob <;> first | (simp only [hb] at h; cases h) | exact ⟨_, rfl, rfl⟩
theorem KeepsC.same {own : List Nat} {A B : World} (h : KeepsC own A B) {b i : Nat} {u : Value} (hc : A.cell? ⟨b, i, none⟩ = some u) (hn : b ∉ own) : B.heap[b]? = A.heap[b]? := by
  obtain ⟨o, h1, h2⟩ := cell_heap hc
  rw [h.2 b o h1 h2 hn, h1]
theorem KeepsC.cell {own : List Nat} {A B : World} (h : KeepsC own A B) {b i : Nat} {u : Value} (hc : A.cell? ⟨b, i, none⟩ = some u) (hn : b ∉ own) : B.cell? ⟨b, i, none⟩ = some u := (World.cell?_of_block (a := ⟨b, i, none⟩) (h.same hc hn)).trans hc
theorem below_grown {A B : World} (h : Below A.heap.size A B) : A.grownBy B none := ⟨h.os, h.tape, h.output, h.size, fun k hk _ => h.block k hk⟩
theorem Sx.keeps {own : List Nat} {size n c : Nat} {a : Option Addr} {xs : List Value} {W V : World} (hs : Sx size W a n c xs) (h : KeepsC own W V) (hn : 0 < n → ∀ g o, a = some ⟨g, o, none⟩ → g ∉ own) : Sx size V a n c xs := by
  refine ⟨hs.1, hs.2.1, hs.2.2.1, fun h0 => ?_⟩
  obtain ⟨g, o, e, hg, hc⟩ := hs.2.2.2 h0
  exact ⟨g, o, e, Nat.lt_of_lt_of_le hg h.1, fun k u hk' => h.cell (hc k u hk') (hn h0 g o e)⟩

def encH (h : Hop) : Value := .agg #[.int .i64 h.i, .int .i64 h.k, .bool h.b, .int .i64 h.c]
def hop2 (C X : Nat → Nat → Int) (i k : Nat) : List Hop := ⟨i, k, false, C i k⟩ :: if 0 < X i k then [⟨i, k, true, -C i k⟩] else []
def hopRow (nn : Nat) (C X : Nat → Nat → Int) (i : Nat) : List Hop := (List.range nn).flatMap (hop2 C X i)
def hopsOf (np nn : Nat) (C X : Nat → Nat → Int) : List Hop := (List.range np).flatMap (hopRow nn C X)
theorem flat_prefix {α : Type} {f : Nat → List α} {i : Nat} : ∀ {n}, i < n → ∃ r, (List.range n).flatMap f = (List.range i).flatMap f ++ f i ++ r := by
  intro n
  induction n with
  | zero => intro h; omega
  | succ n ih =>
    intro h
    rw [List.range_succ, List.flatMap_append]
    rcases Nat.lt_or_ge i n with h1 | h1
    · obtain ⟨r, hr⟩ := ih h1
      exact ⟨r ++ f n, by rw [hr]; simp⟩
    · obtain rfl : i = n := by omega
      exact ⟨[], by simp⟩
theorem hops_prefix {np nn : Nat} {C X : Nat → Nat → Int} {i k : Nat} (hi : i < np) (hk : k < nn) : ∃ r, hopsOf np nn C X = (hopsOf i nn C X ++ (List.range k).flatMap (hop2 C X i)) ++ hop2 C X i k ++ r := by
  obtain ⟨r, hr⟩ := flat_prefix (f := hopRow nn C X) hi
  obtain ⟨r2, hr2⟩ := flat_prefix (f := hop2 C X i) hk
  refine ⟨r2 ++ r, ?_⟩
  unfold hopsOf
  rw [hr]
  unfold hopRow
  rw [hr2]
  simp
theorem isHop_hops {np nn : Nat} {C X : Nat → Nat → Int} {h : Hop} : h ∈ hopsOf np nn C X ↔ isHop np nn C X h := by
  obtain ⟨i, k, b, c⟩ := h
  unfold hopsOf hopRow hop2 isHop
  simp only [List.mem_flatMap, List.mem_range, List.mem_cons]
  constructor
  · rintro ⟨i', hi', k', hk', h1 | h1⟩
    · cases h1; exact ⟨hi', hk', .inl ⟨rfl, rfl⟩⟩
    · split at h1
      · next hx => rw [List.mem_singleton] at h1; cases h1; exact ⟨hi', hk', .inr ⟨rfl, rfl, hx⟩⟩
      · cases h1
  · rintro ⟨hi, hk, h1⟩
    refine ⟨i, hi, k, hk, ?_⟩
    rcases h1 with ⟨h2, h3⟩ | ⟨h2, h3, h4⟩
    · subst h2; subst h3; exact .inl rfl
    · subst h2; subst h3; exact .inr (by rw [if_pos h4]; exact List.mem_singleton.2 rfl)

/-- what the iterator reads -/
structure YRd (W : World) (bY y : Nat) (a0 a1 : Option Addr) (c0 c1 : Nat) (P : List I3) (N : List I2) (X : Nat → Nat → Int) : Prop where
  bx : W.cell? ⟨bY, 0, none⟩ = some (.pointer (some ⟨y, 0, none⟩))
  y0 : W.cell? ⟨y, 0, none⟩ = some (.slice a0 P.length c0)
  y1 : W.cell? ⟨y, 1, none⟩ = some (.slice a1 N.length c1)
  yx : ∀ i k, i < P.length → k < N.length → W.cell? ⟨y, 4 + (i * 20 + k), none⟩ = some (.int .i64 (X i k))
  sp : Sx 3 W a0 P.length c0 (L3 P)
  sn : Sx 2 W a1 N.length c1 (L2 N)
theorem YRd.keeps {own : List Nat} {W V : World} {bY y : Nat} {a0 a1 : Option Addr} {c0 c1 : Nat} {P : List I3} {N : List I2} {X : Nat → Nat → Int} (h : YRd W bY y a0 a1 c0 c1 P N X) (hk : KeepsC own W V) (hb : bY ∉ own) (hy : y ∉ own)
    (h0 : 0 < P.length → ∀ g o, a0 = some ⟨g, o, none⟩ → g ∉ own) (h1 : 0 < N.length → ∀ g o, a1 = some ⟨g, o, none⟩ → g ∉ own) : YRd V bY y a0 a1 c0 c1 P N X :=
  ⟨hk.cell h.bx hb, hk.cell h.y0 hy, hk.cell h.y1 hy, fun i k hi hk' => hk.cell (h.yx i k hi hk') hy, h.sp.keeps hk h0, h.sn.keeps hk h1⟩
def costC (P : List I3) (N : List I2) (i k : Nat) : Int := unitI (P.getD i (0, 0, 0)) (N.getD k (0, 0))
section
variable (w : World)
set_option maxHeartbeats 1000000 in
theorem left_any (y i : Nat) (a0 ag : Option Addr) (c0 cg : Nat) (P : List I3) (G : List Int) (hy0 : w.cell? ⟨y, 0, none⟩ = some (.slice a0 P.length c0)) (hy2 : w.cell? ⟨y, 2, none⟩ = some (.slice ag P.length cg))
    (hs : Sx 3 w a0 P.length c0 (L3 P)) (hg : Sx 1 w ag P.length cg (L1 G)) (hi : i < P.length) :
    Calls Tryz.prog 122 #[.pointer (some ⟨y, 0, none⟩), .int .i64 i] w (Gives (.bool (decide (G.getD i 0 < (P.getD i (0, 0, 0)).2.1))) w) := by
  have hlen := hg.n1
  obtain ⟨g, o, rfl⟩ := hs.addr (by omega)
  obtain ⟨g2, o2, rfl⟩ := hg.addr (by omega)
  obtain ⟨x0, x1, x2⟩ := hs.at3 hi
  have z0 := hg.at1 (i := i) (by omega)
  rw [getD_at (by omega), show P.getD i (0, 0, 0) = P[i] by rw [List.getD_eq_getElem?_getD, List.getElem?_eq_getElem hi]; rfl]
  generalize P[i] = p at *
  generalize G[i] = q at *
  obtain ⟨p0, p1, p2⟩ := p
  simp only at x0 x1 x2
  clear hs hg
  go_enter Tryz.func122, Tryz.ntmps122
  go_wp2
  go_quiet (fail)
  go_wp2
  go_ret
  exact ⟨rfl, below_dN (Below.refl _ _) _⟩
end
set_option maxRecDepth 100000 in
set_option maxHeartbeats 4000000 in
/-- the iterator: every hop is yielded -/
theorem hops1_in (n : Nat) (hn : 2 ≤ n) (l bY y : Nat) (a0 a1 : Option Addr) (c0 c1 : Nat) (P : List I3) (N : List I2) (X : Nat → Nat → Int) (J Jx : List Hop → World → Prop) (own : List Nat)
    (hP : ∀ p ∈ P, (-1000000 ≤ p.1 ∧ p.1 ≤ 1000000) ∧ 0 ≤ p.2.2 ∧ p.2.2 ≤ 1000000) (hN : ∀ q ∈ N, -1000000 ≤ q.1 ∧ q.1 ≤ 1000000) (hPl : P.length ≤ 20) (hNl : N.length ≤ 20)
    (hbY : bY ∉ own) (hy : y ∉ own) (h0 : 0 < P.length → ∀ g o, a0 = some ⟨g, o, none⟩ → g ∉ own) (h1 : 0 < N.length → ∀ g o, a1 = some ⟨g, o, none⟩ → g ∉ own)
    (hY : ∀ pre x W, J pre W → pre.length < (hopsOf P.length N.length (costC P N) X).length → x ∈ hopsOf P.length N.length (costC P N) X → YieldAt Fence.wide (n - 1) Tryz.prog l #[encH x] W fun e W' =>
      (e = .returned (.bool true) ∧ J (pre ++ [x]) W' ∧ KeepsC own W W') ∨ (e = .returned (.bool false) ∧ Jx (pre ++ [x]) W'))
    (W : World) (hb : ∀ k ∈ own, k < W.heap.size) (hR : YRd W bY y a0 a1 c0 c1 P N X) (hJ : ∀ s A B, J s A → A.grownBy B none → J s B) (hI : J [] W) :
    CallsIn Fence.wide n Tryz.prog 142 #[.func (.yield l) #[] #[], .pointer (some ⟨bY, 0, none⟩)] W fun e W' => (∃ v, e = .returned v) ∧
      ((∃ ys, ys = hopsOf P.length N.length (costC P N) X ∧ J ys W') ∨ (∃ pre, True ∧ Jx pre W')) := by
  have HB := Lib.hid hb
  have HJ := Lib.hid hJ
  have HP := Lib.hid hP
  have HN := Lib.hid hN
  have HY := Lib.hid hY
  have HR := Lib.hid (fun V (hk : KeepsC own W V) => hR.keeps hk hbY hy h0 h1)
  have HO := Lib.hid (And.intro hbY (And.intro hy (And.intro h0 h1)))
  clear hY hP hN hJ
  have b0 := hR.bx
  have b1 := hR.y0
  clear hR hb h0 h1 hbY hy
  refine callsIn_of_wp Tryz.func142 rfl trivial ?_ rfl
  simp only [Tryz.ntmps142, List.size_toArray, List.length_cons, List.length_nil, Nat.reduceAdd, Nat.reduceSub, Array.replicate_succ, Array.replicate_zero, List.push_toArray, List.append_toArray, List.nil_append, List.cons_append]
  gi_wp2
  gi_loopw [13] (fun iv wr => ∃ i : Nat, i ≤ P.length ∧ iv = .int .i64 i ∧ Hid (J (hopsOf i N.length (costC P N) X) wr ∧ KeepsC own W wr)) (fun iv _ => P.length - (intOf iv).toNat)
  case atStart => exact ⟨0, Nat.zero_le _, rfl, Lib.hid ⟨hI, keepsC_r _ _⟩⟩
  case round =>
    obtain ⟨i, hi, rfl, hC⟩ := hrel
    clear b0 b1 hI
    by_cases hlt : i < P.length
    · have hRd := HR.out _ hC.out.2
      obtain ⟨g0, o0, rfl⟩ := hRd.sp.addr (by omega)
      obtain ⟨x0, x1, x2⟩ := hRd.sp.at3 hlt
      have d0 := hRd.bx
      have d1 := hRd.y1
      have lb := World.block_lt_of_cell? _ _ d0
      have ly := World.block_lt_of_cell? _ _ d1
      dsimp only at lb ly
      have HPi := Lib.hid (HP.out _ (List.getElem_mem hlt))
      have HPC := Lib.hid (show ∀ k, costC P N i k = unitI P[i] (N.getD k (0, 0)) from fun k => by unfold costC; rw [List.getD_eq_getElem?_getD, List.getElem?_eq_getElem hlt]; rfl)
      clear hRd
      generalize P[i] = p at *
      obtain ⟨p0, p1, p2⟩ := p
      dsimp only at x0 x1 x2
      have hV := Lib.hid (show J (hopsOf i N.length (costC P N) X) (wr.alloc (.cells #[.int .i64 p0, .int .i64 p1, .int .i64 p2] 73)) ∧ KeepsC own W (wr.alloc (.cells #[.int .i64 p0, .int .i64 p1, .int .i64 p2] 73)) ∧
          (wr.alloc (.cells #[.int .i64 p0, .int .i64 p1, .int .i64 p2] 73)).heap[wr.heap.size]? = some (.cells #[.int .i64 p0, .int .i64 p1, .int .i64 p2] 73 (0, 0)) ∧ wr.heap.size ∉ own from
        ⟨HJ.out _ _ _ hC.out.1 (below_grown (below1 _ _)), keepsC_t hC.out.2 (keepsC_below (below1 _ _)), World.alloc_heap_new _ _, fun hm => by have := HB.out _ hm; have := hC.out.2.1; omega⟩)
      clear hC
      gi_wp2
      generalize wr.alloc (.cells #[.int .i64 p0, .int .i64 p1, .int .i64 p2] 73) = V0 at *
      generalize wr.heap.size = bp at *
      clear x0 x1 x2 d0 d1
      gi_loopw [23] (fun jv wr => ∃ k : Nat, k ≤ N.length ∧ jv = .int .i64 k ∧ Hid (J (hopsOf i N.length (costC P N) X ++ (List.range k).flatMap (hop2 (costC P N) X i)) wr ∧ KeepsC own W wr ∧ wr.heap[bp]? = some (.cells #[.int .i64 p0, .int .i64 p1, .int .i64 p2] 73 (0, 0)) ∧ bp ∉ own)) (fun jv _ => N.length - (intOf jv).toNat)
      case atStart => exact ⟨0, Nat.zero_le _, rfl, Lib.hid ⟨by simpa using hV.out.1, hV.out.2⟩⟩
      case round =>
        clear hV
        obtain ⟨k, hk, rfl, hV⟩ := hrel
        by_cases hkl : k < N.length
        · have hRd := HR.out _ hV.out.2.1
          obtain ⟨g1, o1, rfl⟩ := hRd.sn.addr (by omega)
          obtain ⟨x0, x1⟩ := hRd.sn.at2 hkl
          have HNk := Lib.hid (HN.out _ (List.getElem_mem hkl))
          have HPK := Lib.hid (show costC P N i k = unitI (p0, p1, p2) N[k] from by rw [HPC.out, List.getD_eq_getElem?_getD, List.getElem?_eq_getElem hkl]; rfl)
          clear hRd
          generalize N[k] = q at *
          obtain ⟨q0, q1⟩ := q
          dsimp only at x0 x1
          have z0 : wr.cell? ⟨bp, 0, none⟩ = some (.int .i64 p0) := by unfold World.cell?; rw [hV.out.2.2.1]; rfl
          have z1 : wr.cell? ⟨bp, 1, none⟩ = some (.int .i64 p1) := by unfold World.cell?; rw [hV.out.2.2.1]; rfl
          have z2 : wr.cell? ⟨bp, 2, none⟩ = some (.int .i64 p2) := by unfold World.cell?; rw [hV.out.2.2.1]; rfl
          have lp := World.block_lt_of_cell? _ _ z0
          dsimp only at lp
          have HC := Lib.hid (costs_any (wr.alloc (.cells #[.int .i64 q0, .int .i64 q1] 76)) (p0, p1, p2) (q0, q1) HPi.out.1 HNk.out HPi.out.2)
          have hcs : ∃ cst, unitI (p0, p1, p2) (q0, q1) = cst ∧ 0 ≤ cst ∧ cst ≤ 3000000 := ⟨_, rfl, by unfold unitI; have := HPi.out; have := HNk.out; dsimp only at *; omega, by unfold unitI; have := HPi.out; have := HNk.out; dsimp only at *; omega⟩
          obtain ⟨cst, hcst, hc0, hc1⟩ := hcs
          rw [hcst] at HPK HC
          clear hcst
          gi_wp2_with fail
          refine ⟨trivial, fun _ => by omega, ((callsIn_wide.2 HC.out)).mono ?_⟩
          rintro e V ⟨rfl, hb⟩
          have hB := (below1 wr (.cells #[.int .i64 q0, .int .i64 q1] 76)).trans (hb.mono (by simp))
          have hW := Lib.hid (show J (hopsOf i N.length (costC P N) X ++ (List.range k).flatMap (hop2 (costC P N) X i)) V ∧ KeepsC own W V ∧ V.heap[bp]? = some (.cells #[.int .i64 p0, .int .i64 p1, .int .i64 p2] 73 (0, 0)) ∧ bp ∉ own from
            ⟨HJ.out _ _ _ hV.out.1 (below_grown hB), keepsC_t hV.out.2.1 (keepsC_below hB), (hB.block bp lp).trans hV.out.2.2.1, hV.out.2.2.2⟩)
          clear hb hB hV x0 x1 z0 z1 z2 lp HC
          obtain ⟨rT, hrT⟩ := hops_prefix (C := costC P N) (X := X) hlt hkl
          have HT := Lib.hid hrT
          have HH2 := Lib.hid (show hop2 (costC P N) X i k = ⟨i, k, false, cst⟩ :: if 0 < X i k then [⟨i, k, true, -cst⟩] else [] from by unfold hop2; rw [HPK.out])
          have HSN := Lib.hid (show hopsOf i N.length (costC P N) X ++ (List.range (k + 1)).flatMap (hop2 (costC P N) X i) = (hopsOf i N.length (costC P N) X ++ (List.range k).flatMap (hop2 (costC P N) X i)) ++ hop2 (costC P N) X i k from by rw [List.range_succ, List.flatMap_append]; simp)
          clear hrT
          generalize hopsOf i N.length (costC P N) X ++ (List.range k).flatMap (hop2 (costC P N) X i) = pre at *
          obtain ⟨fn, tmps, assign, body, hy, hR⟩ := show YieldAt Fence.wide (n - 1) Tryz.prog l #[.agg #[.int .i64 i, .int .i64 k, .bool false, .int .i64 cst]] V _ from HY.out pre ⟨i, k, false, cst⟩ V hW.out.1 (by rw [HT.out, HH2.out]; simp) (by rw [HT.out, HH2.out]; simp)
          have HRR := Lib.hid hR
          clear hR
          gi_wp2_with fail
          refine ⟨fun _ => by omega, HRR.out.mono ?_⟩
          rintro e W3 (⟨rfl, hJ3, hk3⟩ | ⟨rfl, hJx3⟩)
          · have hW3 := Lib.hid (show J (pre ++ [⟨i, k, false, cst⟩]) W3 ∧ KeepsC own W W3 ∧ W3.heap[bp]? = some (.cells #[.int .i64 p0, .int .i64 p1, .int .i64 p2] 73 (0, 0)) ∧ bp ∉ own from
              ⟨hJ3, keepsC_t hW.out.2.1 hk3, hk3.2 bp _ hW.out.2.2.1 rfl hW.out.2.2.2, hW.out.2.2.2⟩)
            clear hJ3 hk3 hW HRR hy
            have hRd := HR.out _ hW3.out.2.1
            have d0 := hRd.bx
            have d1 := hRd.yx i k hlt hkl
            rw [← Nat.add_assoc] at d1
            clear hRd
            generalize hx : X i k = x at *
            have HX := Lib.hid hx
            clear hx
            cases hpos : decide (0 < x)
            · have HXX := Lib.hid (of_decide_eq_false hpos)
              gi_wp2_with (refine ⟨fun _ _ => trivial, ?_⟩)
              have hw : IntKind.i64.wrap ((k : Int) + 1) = (k : Int) + 1 := by rw [IntKind.wrap_i64]; omega
              go_roundw
              case rel =>
                refine ⟨k + 1, by omega, by rw [hw]; go_num, Lib.hid ⟨?_, hW3.out.2⟩⟩
                rw [HSN.out, HH2.out, if_neg (by have := HXX.out; omega)]
                exact hW3.out.1
              case measure => simp [intOf]; omega
            · have hxx := of_decide_eq_true hpos
              obtain ⟨fn2, tmps2, assign2, body2, hy2, hR2⟩ := show YieldAt Fence.wide (n - 1) Tryz.prog l #[.agg #[.int .i64 i, .int .i64 k, .bool true, .int .i64 (-cst)]] W3 _ from HY.out (pre ++ [⟨i, k, false, cst⟩]) ⟨i, k, true, -cst⟩ W3 hW3.out.1 (by rw [HT.out, HH2.out, if_pos hxx]; simp) (by rw [HT.out, HH2.out, if_pos hxx]; simp)
              have HRR := Lib.hid hR2
              clear hR2
              gi_wp2_with fail
              refine ⟨fun _ => by omega, HRR.out.mono ?_⟩
              rintro e W4 (⟨rfl, hJ4, hk4⟩ | ⟨rfl, hJx4⟩)
              · have hW4 := Lib.hid (show J ((pre ++ [⟨i, k, false, cst⟩]) ++ [⟨i, k, true, -cst⟩]) W4 ∧ KeepsC own W W4 ∧ W4.heap[bp]? = some (.cells #[.int .i64 p0, .int .i64 p1, .int .i64 p2] 73 (0, 0)) ∧ bp ∉ own from
                  ⟨hJ4, keepsC_t hW3.out.2.1 hk4, hk4.2 bp _ hW3.out.2.2.1 rfl hW3.out.2.2.2, hW3.out.2.2.2⟩)
                clear hJ4 hk4 hW3 HRR hy2
                gi_wp2
                go_roundw
                case rel =>
                  refine ⟨k + 1, by omega, by go_num, Lib.hid ⟨?_, hW4.out.2⟩⟩
                  rw [HSN.out, HH2.out, if_pos hxx]
                  have h := hW4.out.1
                  rw [List.append_assoc] at h
                  exact h
                case measure => simp [intOf]; omega
              · gi_wp2
                refine bodyPost_ret (results_none rfl _ _ _) rfl ?_
                exact ⟨⟨_, rfl⟩, .inr ⟨_, trivial, hJx4⟩⟩
          · gi_wp2_with (refine ⟨fun _ _ => trivial, ?_⟩)
            refine bodyPost_ret (results_none rfl _ _ _) rfl ?_
            exact ⟨⟨_, rfl⟩, .inr ⟨_, trivial, hJx3⟩⟩
        · obtain rfl : k = N.length := by omega
          have HSN := Lib.hid (show hopsOf (i + 1) N.length (costC P N) X = hopsOf i N.length (costC P N) X ++ (List.range N.length).flatMap (hop2 (costC P N) X i) from by unfold hopsOf hopRow; rw [List.range_succ, List.flatMap_append]; simp)
          gi_wp2
          go_roundw
          case rel => exact ⟨i + 1, by omega, by go_num, Lib.hid ⟨by rw [HSN.out]; exact hV.out.1, hV.out.2.1⟩⟩
          case measure => simp [intOf]; omega
    · obtain rfl : i = P.length := by omega
      gi_wp2
      go_end0
      exact ⟨⟨_, rfl⟩, .inl ⟨_, rfl, hC.out.1⟩⟩
end Go.Proofs.YtchignmnnbepnaaGreat

/- gang.Pay in one piece: what it answers, of any plan -/
/- the cheapest chains of hops, plain: what a relaxation keeps, and what holds where none is left -/
/- a least carrying, plain: bringing more along a cheapest chain keeps what proves it least -/
import Derived.Test.YtchignmnnbepnaaGreatJ33
import Derived.Test.YtchignmnnbepnaaGreatJ6
namespace Go.Proofs.YtchignmnnbepnaaGreat
open Go.RowKit
/-- the error and the pay -/
def payR (S : List Sht) (L : List Wal) (nm : ByteArray) (l : List WL) (st : List I3) (pr : List Int) : Int × List Int :=
  if (gangB l && planB S L && priceB pr) = true then
    (match L.find? (isW nm) with
    | none => (6, [])
    | some x => if payOk l.length x.len 0 st = true then (0, st.map (payS l ((S.find? (isS x.sheet)).getD zSht).rood x.ops pr)) else (3, []))
  else (2, [])
theorem payR_bad {S : List Sht} {L : List Wal} {nm : ByteArray} {l : List WL} {st : List I3} {pr : List Int} (h : (gangB l && planB S L && priceB pr) = false) : payR S L nm l st pr = (2, []) := by unfold payR; rw [h]; rfl
theorem payR_name {S : List Sht} {L : List Wal} {nm : ByteArray} {l : List WL} {st : List I3} {pr : List Int} (h : (gangB l && planB S L && priceB pr) = true) (h2 : L.find? (isW nm) = none) : payR S L nm l st pr = (6, []) := by unfold payR; rw [if_pos h, h2]
theorem payR_found {S : List Sht} {L : List Wal} {nm : ByteArray} {l : List WL} {st : List I3} {pr : List Int} (h : (gangB l && planB S L && priceB pr) = true) {x : Wal} (h2 : L.find? (isW nm) = some x) {s : Sht} (hs : S.find? (isS x.sheet) = some s) :
    payR S L nm l st pr = if payOk l.length x.len 0 st = true then (0, st.map (payS l s.rood x.ops pr)) else (3, []) := by unfold payR; rw [if_pos h, h2]; dsimp only; rw [hs]; rfl
theorem payR_n (S : List Sht) (L : List Wal) (nm : ByteArray) (l : List WL) (st : List I3) (pr : List Int) : payR (S.map nS) (L.map nW) nm l st pr = payR S L nm l st pr := by
  unfold payR
  rw [planB_n, List.find?_map, isW_n]
  split
  · cases L.find? (isW nm) with
    | none => rfl
    | some x =>
      simp only [Option.map_some]
      rw [List.find?_map, isS_n, show (nW x).sheet = x.sheet from rfl, show (nW x).len = x.len from rfl, show (nW x).ops = x.ops from rfl]
      cases S.find? (isS x.sheet) <;> rfl
  · rfl
theorem payR_copy {S T : List Sht} {L M : List Wal} (h : T.map nS = S.map nS) (h2 : M.map nW = L.map nW) (nm : ByteArray) (l : List WL) (st : List I3) (pr : List Int) : payR T M nm l st pr = payR S L nm l st pr := by rw [← payR_n T M, h, h2, payR_n]
def RetPay (w : World) (E : Int) (X : List Int) (e : Ending) (w' : World) : Prop := ∃ a c, e = .returned (.tuple #[.slice a X.length c, .int .i64 E]) ∧ Hid (w'.ownsRow w.heap.size 3 1 (.slice a X.length c) X.length (L1 X)) ∧ Below w.heap.size w w'
theorem owns_nil {w w' : World} (h : Below w.heap.size w w') : w'.ownsRow w.heap.size 3 1 (.slice none 0 0) 0 (L1 []) := ownsRow_low (((Sy.enter w').onil 3 1).orow 0 rfl) h.size
theorem gpay_any (w : World) (sa wa : Option Addr) (sn sc wn wc : Nat) (S : List Sht) (L : List Wal) (nm : ByteArray) (a1 : Option Addr) (n1 c1 : Nat) (l : List WL) (p0 p1 p2 p3 : Int) (hS : Shts w sa sn sc S) (hL : Wals w wa wn wc L) (hl : Sx 3 w a1 n1 c1 (LW l)) (hn : ∀ x ∈ l, x.1.size ≤ maxLen)
    (a2 : Option Addr) (n2 c2 : Nat) (st : List I3) (hst : Sx 3 w a2 n2 c2 (L3 st)) (hl2 : st.length ≤ 1000) :
    Calls Tryz.prog 7 #[.agg #[.slice sa sn sc, .slice wa wn wc], .string nm, .slice a1 n1 c1, .slice a2 n2 c2, .agg #[.int .i64 p0, .int .i64 p1, .int .i64 p2, .int .i64 p3]] w (RetPay w (payR S L nm l st [p0, p1, p2, p3]).1 (payR S L nm l st [p0, p1, p2, p3]).2) := by
  cases hb : (gangB l && planB S L && priceB [p0, p1, p2, p3])
  · rw [payR_bad hb]
    refine (gpay_bad w sa wa sn sc wn wc S L nm a1 n1 c1 l (.slice a2 n2 c2) p0 p1 p2 p3 hS hL hl hn hb).mono ?_
    rintro e w' ⟨rfl, h⟩
    exact ⟨none, 0, rfl, Lib.hid (owns_nil h), h⟩
  · have hb' := hb
    simp only [Bool.and_eq_true] at hb'
    obtain ⟨⟨hg, hp⟩, hpr⟩ := hb'
    rcases find_idx (p := isW nm) (l := L) with ⟨h1, h2⟩ | ⟨k, hk, h1, h2, -⟩
    · rw [payR_name hb h2]
      refine (gpay_name w (.slice a2 n2 c2) sa wa sn sc wn wc S L nm a1 n1 c1 l p0 p1 p2 p3 hS hL hl hn hg hp hpr h1).mono ?_
      rintro e w' ⟨rfl, h⟩
      exact ⟨none, 0, rfl, Lib.hid (owns_nil h), h⟩
    · obtain ⟨s, -, hs, -⟩ := plan_wall hk hp
      rw [payR_found hb h2 hs]
      refine (gpay_found w sa wa sn sc wn wc S L nm a1 n1 c1 l p0 p1 p2 p3 hS hL hl hn hg hp hpr hk h1 hs a2 n2 c2 st hst hl2).mono ?_
      rintro e w' (⟨ho, rfl, h⟩ | ⟨ho, a, c, rfl, h, h3⟩)
      · rw [ho]
        exact ⟨none, 0, rfl, Lib.hid (owns_nil h), h⟩
      · rw [if_pos ho]
        exact ⟨a, c, rfl, Lib.hid h, h3⟩
/-- what is one's own lies lower -/
theorem Sy.newer {w W W' V : World} {bs : List (Nat × Array Value × TypeId)} {os : List Rw} {rs : List (World → Prop)} (h : Sy w W bs os rs) (hV : Away (ownOf bs os) W' V) : KeepsNew W.heap.size W' V := ⟨hV.1, fun b hb hl => hV.2 b hl fun hm => by
  have := (h.own_ge hm).2
  omega⟩
def RetPlan2 (w : World) (S : List Sht) (L : List Wal) (e : Ending) (w' : World) : Prop := ∃ (a a' : Option Addr) (c c' : Nat) (T : List Sht) (M : List Wal), Hid (T.map nS = S.map nS) ∧ Hid (M.map nW = L.map nW) ∧ e = .returned (.agg #[.slice a S.length c, .slice a' L.length c']) ∧ Hid (∀ V, KeepsNew w.heap.size w' V → Shts V a S.length c T ∧ Wals V a' L.length c' M) ∧ Below w.heap.size w w'
theorem lPlan_c (w : World) (sa wa : Option Addr) (sn sc wn wc : Nat) (S : List Sht) (L : List Wal) (hS : Shts w sa sn sc S) (hL : Wals w wa wn wc L) (hb : smallB S L = true) :
    Calls Tryz.prog 8 #[.agg #[.slice sa sn sc, .slice wa wn wc]] w (RetPlan2 w S L) := by
  unfold smallB at hb
  simp only [Bool.and_eq_true, decide_eq_true_eq] at hb
  obtain ⟨⟨⟨h1, h2⟩, h3⟩, h4⟩ := hb
  refine (lPlan_any w sa wa sn sc wn wc S L hS hL ⟨by omega, by omega⟩ (fun s hs => ?_) (fun x hx => ?_)).mono ?_
  · have := List.all_eq_true.1 h1 s hs
    unfold smS at this
    simp at this
    omega
  · have := List.all_eq_true.1 h2 x hx
    unfold smW at this
    simp at this
    omega
  · rintro e w' ⟨a, a', c, c', T, M, e1, e2, rfl, -, -, h7, h8⟩
    exact ⟨a, a', c, c', T, M, Lib.hid e1, Lib.hid e2, rfl, Lib.hid h8, h7⟩
end Go.Proofs.YtchignmnnbepnaaGreat
namespace Go.Proofs.YtchignmnnbepnaaGreat

structure Hop where
  i : Nat
  k : Nat
  b : Bool
  c : Int
abbrev hop0 : Hop := ⟨0, 0, false, 0⟩
def farN : Int := 1125899906842624
/-- distances of piles and of needs, and their last hops -/
structure RS where
  d0 : List Int
  d1 : List Int
  b0 : List Hop
  b1 : List Hop
def fires (s : RS) (h : Hop) : Bool :=
  if h.b = true then decide (s.d1.getD h.k 0 < farN) && decide (s.d1.getD h.k 0 + h.c < s.d0.getD h.i 0)
  else decide (s.d0.getD h.i 0 < farN) && decide (s.d0.getD h.i 0 + h.c < s.d1.getD h.k 0)
def relax (s : RS) (h : Hop) : RS :=
  if fires s h = true then (if h.b = true then ⟨s.d0.set h.i (s.d1.getD h.k 0 + h.c), s.d1, s.b0.set h.i h, s.b1⟩ else ⟨s.d0, s.d1.set h.k (s.d0.getD h.i 0 + h.c), s.b0, s.b1.set h.k h⟩) else s

section
variable {np nn : Nat} {C X : Nat → Nat → Int} {F : Nat → Bool} {q0 q1 : Nat → Int}
/-- a hop of this yard -/
def isHop (np nn : Nat) (C X : Nat → Nat → Int) (h : Hop) : Prop := h.i < np ∧ h.k < nn ∧ (h.b = false ∧ h.c = C h.i h.k ∨ h.b = true ∧ h.c = -C h.i h.k ∧ 0 < X h.i h.k)
/-- need k climbs up to a pile where a chain begins, in so many rounds -/
def Up (s : RS) : Nat → Nat → Prop
  | 0, _ => False
  | n + 1, k => s.d1.getD k 0 < farN ∧ ((s.b0.getD (s.b1.getD k hop0).i hop0).b = false ∨ (s.b0.getD (s.b1.getD k hop0).i hop0).b = true ∧ Up s n (s.b0.getD (s.b1.getD k hop0).i hop0).k)
structure RInv (np nn : Nat) (C X : Nat → Nat → Int) (F : Nat → Bool) (q0 q1 : Nat → Int) (s : RS) : Prop where
  l0 : s.d0.length = 20
  l1 : s.d1.length = 20
  l2 : s.b0.length = 20
  l3 : s.b1.length = 20
  lo0 : ∀ i, i < np → q0 i ≤ s.d0.getD i 0
  lo1 : ∀ k, k < nn → q1 k ≤ s.d1.getD k 0
  up0 : ∀ i, i < np → s.d0.getD i 0 ≤ farN
  up1 : ∀ k, k < nn → s.d1.getD k 0 ≤ farN
  fr : ∀ i, i < np → F i = true → s.d0.getD i 0 ≤ 0
  p1 : ∀ k, k < nn → s.d1.getD k 0 < farN → isHop np nn C X (s.b1.getD k hop0) ∧ (s.b1.getD k hop0).k = k ∧ (s.b1.getD k hop0).b = false ∧ s.d0.getD (s.b1.getD k hop0).i 0 + C (s.b1.getD k hop0).i k ≤ s.d1.getD k 0
  p0 : ∀ i, i < np → (s.b0.getD i hop0).b = true → isHop np nn C X (s.b0.getD i hop0) ∧ (s.b0.getD i hop0).i = i ∧ s.d1.getD (s.b0.getD i hop0).k 0 < farN ∧ s.d1.getD (s.b0.getD i hop0).k 0 - C i (s.b0.getD i hop0).k ≤ s.d0.getD i 0
  rt : ∀ i, i < np → (s.b0.getD i hop0).b = false → s.d0.getD i 0 = if F i then 0 else farN
  ac : ∀ k, k < nn → s.d1.getD k 0 < farN → ∃ n, Up s n k
/-- q is a price that no hop undercuts -/
structure Feas (np nn : Nat) (C X : Nat → Nat → Int) (q0 q1 : Nat → Int) : Prop where
  n0 : np ≤ 20
  n1 : nn ≤ 20
  fwd : ∀ i k, i < np → k < nn → q1 k ≤ q0 i + C i k
  bwd : ∀ i k, i < np → k < nn → 0 < X i k → q0 i ≤ q1 k - C i k

theorem relax_fwd {s : RS} {h : Hop} (hb : h.b = false) (hf : fires s h = true) : relax s h = ⟨s.d0, s.d1.set h.k (s.d0.getD h.i 0 + h.c), s.b0, s.b1.set h.k h⟩ ∧ s.d0.getD h.i 0 < farN ∧ s.d0.getD h.i 0 + h.c < s.d1.getD h.k 0 := by
  refine ⟨by unfold relax; rw [if_pos hf, if_neg (by rw [hb]; decide)], ?_⟩
  unfold fires at hf
  rw [if_neg (by rw [hb]; decide), Bool.and_eq_true, decide_eq_true_eq, decide_eq_true_eq] at hf
  exact hf
theorem relax_bwd {s : RS} {h : Hop} (hb : h.b = true) (hf : fires s h = true) : relax s h = ⟨s.d0.set h.i (s.d1.getD h.k 0 + h.c), s.d1, s.b0.set h.i h, s.b1⟩ ∧ s.d1.getD h.k 0 < farN ∧ s.d1.getD h.k 0 + h.c < s.d0.getD h.i 0 := by
  refine ⟨by unfold relax; rw [if_pos hf, if_pos hb], ?_⟩
  unfold fires at hf
  rw [if_pos hb, Bool.and_eq_true, decide_eq_true_eq, decide_eq_true_eq] at hf
  exact hf
theorem relax_no {s : RS} {h : Hop} (hf : fires s h = false) : relax s h = s := by unfold relax; rw [if_neg (by rw [hf]; decide)]

theorem set1 {s : RS} (I : RInv np nn C X F q0 q1 s) (hq : Feas np nn C X q0 q1) {k : Nat} (hk : k < nn) (x : Int) (j : Nat) : (s.d1.set k x).getD j 0 = if k = j then x else s.d1.getD j 0 := getD_set' (by rw [I.l1]; exact Nat.lt_of_lt_of_le hk hq.n1)
theorem set0 {s : RS} (I : RInv np nn C X F q0 q1 s) (hq : Feas np nn C X q0 q1) {i : Nat} (hi : i < np) (x : Int) (j : Nat) : (s.d0.set i x).getD j 0 = if i = j then x else s.d0.getD j 0 := getD_set' (by rw [I.l0]; exact Nat.lt_of_lt_of_le hi hq.n0)
theorem setb1 {s : RS} (I : RInv np nn C X F q0 q1 s) (hq : Feas np nn C X q0 q1) {k : Nat} (hk : k < nn) (x : Hop) (j : Nat) : (s.b1.set k x).getD j hop0 = if k = j then x else s.b1.getD j hop0 := getD_set' (by rw [I.l3]; exact Nat.lt_of_lt_of_le hk hq.n1)
theorem setb0 {s : RS} (I : RInv np nn C X F q0 q1 s) (hq : Feas np nn C X q0 q1) {i : Nat} (hi : i < np) (x : Hop) (j : Nat) : (s.b0.set i x).getD j hop0 = if i = j then x else s.b0.getD j hop0 := getD_set' (by rw [I.l2]; exact Nat.lt_of_lt_of_le hi hq.n0)
/-- a climb that stays below a need's own height is not touched by that need's turn -/
theorem up_below1 {s : RS} (I : RInv np nn C X F q0 q1 s) (hq : Feas np nn C X q0 q1) {k : Nat} (hk : k < nn) {h : Hop} {x : Int} : ∀ n k2, k2 < nn → Up s n k2 → s.d1.getD k2 0 - q1 k2 < s.d1.getD k 0 - q1 k → Up ⟨s.d0, s.d1.set k x, s.b0, s.b1.set k h⟩ n k2 := by
  intro n
  induction n with
  | zero => intro k2 _ h0; exact h0.elim
  | succ n ih =>
    intro k2 hk2 hu hlt
    obtain ⟨hf, hu⟩ := hu
    have hne : k ≠ k2 := fun e => by subst e; omega
    obtain ⟨⟨a1, _, _⟩, _, a3, a4⟩ := I.p1 k2 hk2 hf
    refine ⟨by show (s.d1.set k x).getD k2 0 < farN; rw [set1 I hq hk, if_neg hne]; exact hf, ?_⟩
    show (s.b0.getD ((s.b1.set k h).getD k2 hop0).i hop0).b = false ∨ (s.b0.getD ((s.b1.set k h).getD k2 hop0).i hop0).b = true ∧ Up _ n (s.b0.getD ((s.b1.set k h).getD k2 hop0).i hop0).k
    rw [setb1 I hq hk, if_neg hne]
    refine hu.imp id fun ⟨hb, hu⟩ => ⟨hb, ?_⟩
    obtain ⟨⟨_, b2, b3⟩, b4, _, b6⟩ := I.p0 _ a1 hb
    refine ih _ b2 hu ?_
    have h1 := hq.fwd (s.b1.getD k2 hop0).i k2 a1 hk2
    have h2 : 0 < X (s.b1.getD k2 hop0).i (s.b0.getD (s.b1.getD k2 hop0).i hop0).k := by
      rcases b3 with ⟨h, _⟩ | ⟨_, _, h⟩
      · rw [hb] at h; cases h
      · rwa [b4] at h
    have h3 := hq.bwd _ _ a1 b2 h2
    omega
/-- .. nor by a pile's turn -/
theorem up_below0 {s : RS} (I : RInv np nn C X F q0 q1 s) (hq : Feas np nn C X q0 q1) {i : Nat} (hi : i < np) {h : Hop} {x : Int} : ∀ n k2, k2 < nn → Up s n k2 → s.d1.getD k2 0 - q1 k2 < s.d0.getD i 0 - q0 i → Up ⟨s.d0.set i x, s.d1, s.b0.set i h, s.b1⟩ n k2 := by
  intro n
  induction n with
  | zero => intro k2 _ h0; exact h0.elim
  | succ n ih =>
    intro k2 hk2 hu hlt
    obtain ⟨hf, hu⟩ := hu
    obtain ⟨⟨a1, _, _⟩, _, a3, a4⟩ := I.p1 k2 hk2 hf
    have h1 := hq.fwd (s.b1.getD k2 hop0).i k2 a1 hk2
    have hne : i ≠ (s.b1.getD k2 hop0).i := fun e => by rw [← e] at a4 h1; omega
    refine ⟨hf, ?_⟩
    show ((s.b0.set i h).getD (s.b1.getD k2 hop0).i hop0).b = false ∨ ((s.b0.set i h).getD (s.b1.getD k2 hop0).i hop0).b = true ∧ Up _ n ((s.b0.set i h).getD (s.b1.getD k2 hop0).i hop0).k
    rw [setb0 I hq hi, if_neg hne]
    refine hu.imp id fun ⟨hb, hu⟩ => ⟨hb, ?_⟩
    obtain ⟨⟨_, b2, b3⟩, b4, _, b6⟩ := I.p0 _ a1 hb
    refine ih _ b2 hu ?_
    have h2 : 0 < X (s.b1.getD k2 hop0).i (s.b0.getD (s.b1.getD k2 hop0).i hop0).k := by
      rcases b3 with ⟨h, _⟩ | ⟨_, _, h⟩
      · rw [hb] at h; cases h
      · rwa [b4] at h
    have h3 := hq.bwd _ _ a1 b2 h2
    omega
theorem relax_inv {s : RS} (I : RInv np nn C X F q0 q1 s) (hq : Feas np nn C X q0 q1) {h : Hop} (hh : isHop np nn C X h) : RInv np nn C X F q0 q1 (relax s h) := by
  cases hf : fires s h with
  | false => rw [relax_no hf]; exact I
  | true =>
    obtain ⟨hi, hk, hc⟩ := hh
    cases hb : h.b with
    | false =>
      have hc' : h.c = C h.i h.k := by
        rcases hc with ⟨_, e⟩ | ⟨e, _⟩
        · exact e
        · rw [hb] at e; cases e
      obtain ⟨e, f1, f2⟩ := relax_fwd hb hf
      rw [e]
      have hlow := hq.fwd h.i h.k hi hk
      have hli := I.lo0 h.i hi
      have hupk := I.up1 h.k hk
      have g1 := set1 I hq hk (s.d0.getD h.i 0 + h.c)
      have gb := setb1 I hq hk h
      -- the need's own climb
      have hown : ∃ n, Up ⟨s.d0, s.d1.set h.k (s.d0.getD h.i 0 + h.c), s.b0, s.b1.set h.k h⟩ n h.k := by
        cases hbi : (s.b0.getD h.i hop0).b with
        | false =>
          refine ⟨1, by show (s.d1.set h.k _).getD h.k 0 < farN; rw [g1, if_pos rfl]; omega, .inl ?_⟩
          show (s.b0.getD ((s.b1.set h.k h).getD h.k hop0).i hop0).b = false
          rw [gb, if_pos rfl]; exact hbi
        | true =>
          obtain ⟨⟨_, b2, b3⟩, b4, b5, b6⟩ := I.p0 h.i hi hbi
          obtain ⟨n, hn⟩ := I.ac _ b2 b5
          have h2 : 0 < X h.i (s.b0.getD h.i hop0).k := by
            rcases b3 with ⟨h, _⟩ | ⟨_, _, h⟩
            · rw [hbi] at h; cases h
            · rwa [b4] at h
          have h3 := hq.bwd _ _ hi b2 h2
          have hu := up_below1 I hq hk (h := h) (x := s.d0.getD h.i 0 + h.c) n _ b2 hn (by omega)
          refine ⟨n + 1, by show (s.d1.set h.k _).getD h.k 0 < farN; rw [g1, if_pos rfl]; omega, .inr ?_⟩
          show (s.b0.getD ((s.b1.set h.k h).getD h.k hop0).i hop0).b = true ∧ Up _ n (s.b0.getD ((s.b1.set h.k h).getD h.k hop0).i hop0).k
          rw [gb, if_pos rfl]; exact ⟨hbi, hu⟩
      obtain ⟨no, hno⟩ := hown
      have hall : ∀ n k2, k2 < nn → Up s n k2 → ∃ m, Up ⟨s.d0, s.d1.set h.k (s.d0.getD h.i 0 + h.c), s.b0, s.b1.set h.k h⟩ m k2 := by
        intro n
        induction n with
        | zero => intro k2 _ h0; exact h0.elim
        | succ n ih =>
          intro k2 hk2 hu
          by_cases hne : h.k = k2
          · rw [← hne]; exact ⟨no, hno⟩
          · obtain ⟨u1, u2⟩ := hu
            obtain ⟨⟨a1, _, _⟩, _, _, _⟩ := I.p1 k2 hk2 u1
            have hd : (s.d1.set h.k (s.d0.getD h.i 0 + h.c)).getD k2 0 < farN := by rw [g1, if_neg hne]; exact u1
            have hbb : (s.b1.set h.k h).getD k2 hop0 = s.b1.getD k2 hop0 := by rw [gb, if_neg hne]
            rcases u2 with u2 | ⟨u2, u3⟩
            · refine ⟨1, hd, .inl ?_⟩
              show (s.b0.getD ((s.b1.set h.k h).getD k2 hop0).i hop0).b = false
              rw [hbb]; exact u2
            · obtain ⟨⟨_, b2, _⟩, _, _, _⟩ := I.p0 _ a1 u2
              obtain ⟨m, hm⟩ := ih _ b2 u3
              refine ⟨m + 1, hd, .inr ?_⟩
              show (s.b0.getD ((s.b1.set h.k h).getD k2 hop0).i hop0).b = true ∧ Up _ m (s.b0.getD ((s.b1.set h.k h).getD k2 hop0).i hop0).k
              rw [hbb]; exact ⟨u2, hm⟩
      refine ⟨I.l0, by show (s.d1.set _ _).length = 20; rw [List.length_set]; exact I.l1, I.l2, by show (s.b1.set _ _).length = 20; rw [List.length_set]; exact I.l3, I.lo0, fun k hk2 => ?_, I.up0, fun k hk2 => ?_, I.fr, fun k hk2 hfk => ?_, fun i hi2 hbi => ?_, I.rt, fun k hk2 hfk => ?_⟩
      · show q1 k ≤ (s.d1.set _ _).getD k 0
        rw [g1]
        by_cases e : h.k = k
        · rw [if_pos e]; subst e; omega
        · rw [if_neg e]; exact I.lo1 k hk2
      · show (s.d1.set _ _).getD k 0 ≤ farN
        rw [g1]
        by_cases e : h.k = k
        · rw [if_pos e]; omega
        · rw [if_neg e]; exact I.up1 k hk2
      · show isHop np nn C X ((s.b1.set h.k h).getD k hop0) ∧ ((s.b1.set h.k h).getD k hop0).k = k ∧ ((s.b1.set h.k h).getD k hop0).b = false ∧ s.d0.getD ((s.b1.set h.k h).getD k hop0).i 0 + C ((s.b1.set h.k h).getD k hop0).i k ≤ (s.d1.set _ _).getD k 0
        have hfk' : (s.d1.set h.k (s.d0.getD h.i 0 + h.c)).getD k 0 < farN := hfk
        rw [g1] at hfk' ⊢
        rw [gb]
        by_cases e : h.k = k
        · rw [if_pos e, if_pos e]
          subst e
          exact ⟨⟨hi, hk, .inl ⟨hb, hc'⟩⟩, rfl, hb, by omega⟩
        · rw [if_neg e] at hfk'
          rw [if_neg e, if_neg e]
          exact I.p1 k hk2 hfk'
      · obtain ⟨b1, b4, b5, b6⟩ := I.p0 i hi2 hbi
        refine ⟨b1, b4, ?_, ?_⟩
        · show (s.d1.set _ _).getD (s.b0.getD i hop0).k 0 < farN
          rw [g1]
          by_cases e : h.k = (s.b0.getD i hop0).k
          · rw [if_pos e]; omega
          · rw [if_neg e]; exact b5
        · show (s.d1.set _ _).getD (s.b0.getD i hop0).k 0 - C i (s.b0.getD i hop0).k ≤ s.d0.getD i 0
          rw [g1]
          by_cases e : h.k = (s.b0.getD i hop0).k
          · rw [if_pos e, ← e]; rw [← e] at b6; omega
          · rw [if_neg e]; exact b6
      · have hfk' : (s.d1.set h.k (s.d0.getD h.i 0 + h.c)).getD k 0 < farN := hfk
        rw [g1] at hfk'
        by_cases e : h.k = k
        · rw [← e]; exact ⟨no, hno⟩
        · rw [if_neg e] at hfk'
          obtain ⟨n, hn⟩ := I.ac k hk2 hfk'
          exact hall n k hk2 hn
    | true =>
      have hc' : h.c = -C h.i h.k ∧ 0 < X h.i h.k := by
        rcases hc with ⟨e, _⟩ | ⟨_, e⟩
        · rw [hb] at e; cases e
        · exact e
      obtain ⟨e, f1, f2⟩ := relax_bwd hb hf
      rw [e]
      have hlow := hq.bwd h.i h.k hi hk hc'.2
      have hlk := I.lo1 h.k hk
      have hupi := I.up0 h.i hi
      have g0 := set0 I hq hi (s.d1.getD h.k 0 + h.c)
      have gb := setb0 I hq hi h
      obtain ⟨nk, hnk⟩ := I.ac h.k hk f1
      have hown := up_below0 I hq hi (h := h) (x := s.d1.getD h.k 0 + h.c) nk h.k hk hnk (by omega)
      have hall : ∀ n k2, k2 < nn → Up s n k2 → ∃ m, Up ⟨s.d0.set h.i (s.d1.getD h.k 0 + h.c), s.d1, s.b0.set h.i h, s.b1⟩ m k2 := by
        intro n
        induction n with
        | zero => intro k2 _ h0; exact h0.elim
        | succ n ih =>
          intro k2 hk2 hu
          obtain ⟨u1, u2⟩ := hu
          obtain ⟨⟨a1, _, _⟩, _, _, _⟩ := I.p1 k2 hk2 u1
          by_cases hne : h.i = (s.b1.getD k2 hop0).i
          · refine ⟨nk + 1, u1, .inr ?_⟩
            show ((s.b0.set h.i h).getD (s.b1.getD k2 hop0).i hop0).b = true ∧ Up _ nk ((s.b0.set h.i h).getD (s.b1.getD k2 hop0).i hop0).k
            rw [gb, if_pos hne]
            exact ⟨hb, hown⟩
          · have hbb : (s.b0.set h.i h).getD (s.b1.getD k2 hop0).i hop0 = s.b0.getD (s.b1.getD k2 hop0).i hop0 := by rw [gb, if_neg hne]
            rcases u2 with u2 | ⟨u2, u3⟩
            · refine ⟨1, u1, .inl ?_⟩
              show ((s.b0.set h.i h).getD (s.b1.getD k2 hop0).i hop0).b = false
              rw [hbb]; exact u2
            · obtain ⟨⟨_, b2, _⟩, _, _, _⟩ := I.p0 _ a1 u2
              obtain ⟨m, hm⟩ := ih _ b2 u3
              refine ⟨m + 1, u1, .inr ?_⟩
              show ((s.b0.set h.i h).getD (s.b1.getD k2 hop0).i hop0).b = true ∧ Up _ m ((s.b0.set h.i h).getD (s.b1.getD k2 hop0).i hop0).k
              rw [hbb]; exact ⟨u2, hm⟩
      refine ⟨by show (s.d0.set _ _).length = 20; rw [List.length_set]; exact I.l0, I.l1, by show (s.b0.set _ _).length = 20; rw [List.length_set]; exact I.l2, I.l3, fun i hi2 => ?_, I.lo1, fun i hi2 => ?_, I.up1, fun i hi2 hfi => ?_, fun k hk2 hfk => ?_, fun i hi2 hbi => ?_, fun i hi2 hbi => ?_, fun k hk2 hfk => ?_⟩
      · show q0 i ≤ (s.d0.set _ _).getD i 0
        rw [g0]
        by_cases e : h.i = i
        · rw [if_pos e]; subst e; omega
        · rw [if_neg e]; exact I.lo0 i hi2
      · show (s.d0.set _ _).getD i 0 ≤ farN
        rw [g0]
        by_cases e : h.i = i
        · rw [if_pos e]; omega
        · rw [if_neg e]; exact I.up0 i hi2
      · show (s.d0.set _ _).getD i 0 ≤ 0
        rw [g0]
        by_cases e : h.i = i
        · rw [if_pos e]; subst e; have := I.fr _ hi2 hfi; omega
        · rw [if_neg e]; exact I.fr i hi2 hfi
      · obtain ⟨a1, a2, a3, a4⟩ := I.p1 k hk2 hfk
        refine ⟨a1, a2, a3, ?_⟩
        show (s.d0.set _ _).getD (s.b1.getD k hop0).i 0 + C (s.b1.getD k hop0).i k ≤ s.d1.getD k 0
        rw [g0]
        by_cases e : h.i = (s.b1.getD k hop0).i
        · rw [if_pos e, ← e]; rw [← e] at a4; omega
        · rw [if_neg e]; exact a4
      · show isHop np nn C X ((s.b0.set h.i h).getD i hop0) ∧ ((s.b0.set h.i h).getD i hop0).i = i ∧ s.d1.getD ((s.b0.set h.i h).getD i hop0).k 0 < farN ∧ s.d1.getD ((s.b0.set h.i h).getD i hop0).k 0 - C i ((s.b0.set h.i h).getD i hop0).k ≤ (s.d0.set _ _).getD i 0
        have hbi' : ((s.b0.set h.i h).getD i hop0).b = true := hbi
        rw [gb] at hbi' ⊢
        rw [g0]
        by_cases e : h.i = i
        · rw [if_pos e, if_pos e]
          subst e
          exact ⟨⟨hi, hk, .inr ⟨hb, hc'⟩⟩, rfl, f1, by omega⟩
        · rw [if_neg e] at hbi'
          rw [if_neg e, if_neg e]
          exact I.p0 i hi2 hbi'
      · show (s.d0.set _ _).getD i 0 = if F i then 0 else farN
        have hbi' : ((s.b0.set h.i h).getD i hop0).b = false := hbi
        rw [gb] at hbi'
        by_cases e : h.i = i
        · rw [if_pos e, hb] at hbi'; cases hbi'
        · rw [if_neg e] at hbi'
          rw [g0, if_neg e]
          exact I.rt i hi2 hbi'
      · obtain ⟨n, hn⟩ := I.ac k hk2 hfk
        exact hall n k hk2 hn

/-- how far the distances lie above the price: every relaxation lowers it -/
def rsum (f : Nat → Int) : Nat → Int
  | 0 => 0
  | n + 1 => rsum f n + f n
theorem rsum_congr {f g : Nat → Int} : ∀ n, (∀ i, i < n → f i = g i) → rsum f n = rsum g n
  | 0, _ => rfl
  | n + 1, h => by unfold rsum; rw [rsum_congr n fun i hi => h i (by omega), h n (by omega)]
theorem rsum_one {f g : Nat → Int} {j : Nat} : ∀ n, j < n → (∀ i, i < n → i ≠ j → f i = g i) → rsum f n = rsum g n + (f j - g j)
  | 0, h, _ => absurd h (Nat.not_lt_zero _)
  | n + 1, h, hfg => by
    unfold rsum
    by_cases e : j = n
    · subst e
      rw [rsum_congr j fun i hi => hfg i (by omega) (by omega)]; omega
    · rw [rsum_one n (by omega) fun i hi => hfg i (by omega), hfg n (by omega) (by omega)]; omega
theorem rsum_nonneg {f : Nat → Int} : ∀ n, (∀ i, i < n → 0 ≤ f i) → 0 ≤ rsum f n
  | 0, _ => Int.le_refl _
  | n + 1, h => by have := rsum_nonneg n fun i hi => h i (by omega); have := h n (by omega); unfold rsum; omega
theorem rsum_le {f g : Nat → Int} : ∀ n, (∀ i, i < n → f i ≤ g i) → rsum f n ≤ rsum g n
  | 0, _ => Int.le_refl _
  | n + 1, h => by have := rsum_le n fun i hi => h i (by omega); have := h n (by omega); unfold rsum; omega
theorem rsum_add (f g : Nat → Int) : ∀ n, rsum (fun i => f i + g i) n = rsum f n + rsum g n
  | 0 => rfl
  | n + 1 => by unfold rsum; rw [rsum_add f g n]; omega
theorem rsum_sub (f g : Nat → Int) : ∀ n, rsum (fun i => f i - g i) n = rsum f n - rsum g n
  | 0 => rfl
  | n + 1 => by unfold rsum; rw [rsum_sub f g n]; omega
theorem rsum_mul (c : Int) (f : Nat → Int) : ∀ n, rsum (fun i => c * f i) n = c * rsum f n
  | 0 => by simp [rsum]
  | n + 1 => by unfold rsum; rw [rsum_mul c f n, Int.mul_add]
theorem rsum_zero : ∀ n, rsum (fun _ => 0) n = 0
  | 0 => rfl
  | n + 1 => by unfold rsum; rw [rsum_zero n]; rfl
theorem rsum_swap (f : Nat → Nat → Int) (m : Nat) : ∀ n, rsum (fun i => rsum (fun k => f i k) m) n = rsum (fun k => rsum (fun i => f i k) n) m
  | 0 => (rsum_zero m).symm
  | n + 1 => by
    show rsum (fun i => rsum (fun k => f i k) m) n + rsum (fun k => f n k) m = _
    rw [rsum_swap f m n, ← rsum_add]; rfl
def height (np nn : Nat) (q0 q1 : Nat → Int) (s : RS) : Nat := (rsum (fun i => s.d0.getD i 0 - q0 i) np + rsum (fun k => s.d1.getD k 0 - q1 k) nn).toNat
theorem height_int {s : RS} (I : RInv np nn C X F q0 q1 s) : ((height np nn q0 q1 s : Nat) : Int) = rsum (fun i => s.d0.getD i 0 - q0 i) np + rsum (fun k => s.d1.getD k 0 - q1 k) nn := by
  have h1 := rsum_nonneg (f := fun i => s.d0.getD i 0 - q0 i) np fun i hi => by have := I.lo0 i hi; omega
  have h2 := rsum_nonneg (f := fun k => s.d1.getD k 0 - q1 k) nn fun k hk => by have := I.lo1 k hk; omega
  unfold height
  omega
theorem relax_less {s : RS} (I : RInv np nn C X F q0 q1 s) (hq : Feas np nn C X q0 q1) {h : Hop} (hh : isHop np nn C X h) (hf : fires s h = true) : height np nn q0 q1 (relax s h) < height np nn q0 q1 s := by
  have I2 := relax_inv I hq hh
  have e1 := height_int I
  have e2 := height_int I2
  suffices rsum (fun i => (relax s h).d0.getD i 0 - q0 i) np + rsum (fun k => (relax s h).d1.getD k 0 - q1 k) nn < rsum (fun i => s.d0.getD i 0 - q0 i) np + rsum (fun k => s.d1.getD k 0 - q1 k) nn by omega
  obtain ⟨hi, hk, _⟩ := hh
  cases hb : h.b with
  | false =>
    obtain ⟨e, f1, f2⟩ := relax_fwd hb hf
    rw [e]
    have g1 := set1 I hq hk (s.d0.getD h.i 0 + h.c)
    have := rsum_one (f := fun k => (s.d1.set h.k (s.d0.getD h.i 0 + h.c)).getD k 0 - q1 k) (g := fun k => s.d1.getD k 0 - q1 k) nn hk fun k _ hne => by
      show _ - _ = _
      rw [g1, if_neg (fun e => hne e.symm)]
    simp only [g1, if_pos] at this ⊢
    omega
  | true =>
    obtain ⟨e, f1, f2⟩ := relax_bwd hb hf
    rw [e]
    have g1 := set0 I hq hi (s.d1.getD h.k 0 + h.c)
    have := rsum_one (f := fun k => (s.d0.set h.i (s.d1.getD h.k 0 + h.c)).getD k 0 - q0 k) (g := fun k => s.d0.getD k 0 - q0 k) np hi fun k _ hne => by
      show _ - _ = _
      rw [g1, if_neg (fun e => hne e.symm)]
    simp only [g1, if_pos] at this ⊢
    omega
end

end Go.Proofs.YtchignmnnbepnaaGreat
namespace Go.Proofs.YtchignmnnbepnaaGreat

section
variable {np nn : Nat} {C X : Nat → Nat → Int} {F : Nat → Bool} {q0 q1 : Nat → Int} {s : RS}
def Fixed (np nn : Nat) (C X : Nat → Nat → Int) (s : RS) : Prop := ∀ h, isHop np nn C X h → fires s h = false
def dist0 (np nn : Nat) (F : Nat → Bool) : RS := ⟨(List.range 20).map fun i => if i < np then (if F i then 0 else farN) else 0, (List.range 20).map fun k => if k < nn then farN else 0, List.replicate 20 hop0, List.replicate 20 hop0⟩
theorem getD_range {f : Nat → Int} {n i : Nat} (h : i < n) : ((List.range n).map f).getD i 0 = f i := by
  rw [List.getD_eq_getElem?_getD, List.getElem?_map, List.getElem?_range h]; rfl
theorem dist0_inv (hq : Feas np nn C X q0 q1) (h0 : ∀ i, i < np → q0 i ≤ farN ∧ (F i = true → q0 i ≤ 0)) (h1 : ∀ k, k < nn → q1 k ≤ farN) : RInv np nn C X F q0 q1 (dist0 np nn F) := by
  have e0 : ∀ i, i < np → (dist0 np nn F).d0.getD i 0 = if F i then 0 else farN := fun i hi => by
    show ((List.range 20).map fun i => if i < np then (if F i then 0 else farN) else 0).getD i 0 = _
    rw [getD_range (Nat.lt_of_lt_of_le hi hq.n0), if_pos hi]
  have e1 : ∀ k, k < nn → (dist0 np nn F).d1.getD k 0 = farN := fun k hk => by
    show ((List.range 20).map fun k => if k < nn then farN else 0).getD k 0 = _
    rw [getD_range (Nat.lt_of_lt_of_le hk hq.n1), if_pos hk]
  have eb : ∀ i, (dist0 np nn F).b0.getD i hop0 = hop0 := fun i => by
    show (List.replicate 20 hop0).getD i hop0 = hop0
    rw [List.getD_eq_getElem?_getD, List.getElem?_replicate]; split <;> rfl
  have hf : (0 : Int) ≤ farN := by unfold farN; omega
  refine ⟨by simp [dist0], by simp [dist0], by simp [dist0], by simp [dist0], fun i hi => ?_, fun k hk => ?_, fun i hi => ?_, fun k hk => ?_, fun i hi hF => ?_, fun k hk h => ?_, fun i hi h => ?_, fun i hi _ => e0 i hi, fun k hk h => ?_⟩
  · rw [e0 i hi]
    split
    · rename_i h; exact (h0 i hi).2 h
    · exact (h0 i hi).1
  · rw [e1 k hk]; exact h1 k hk
  · rw [e0 i hi]; split <;> omega
  · rw [e1 k hk]; exact Int.le_refl _
  · rw [e0 i hi, if_pos hF]; exact Int.le_refl _
  · rw [e1 k hk] at h; omega
  · rw [eb] at h; cases h
  · rw [e1 k hk] at h; omega

/-- how many hops back a pile is from where its chain begins -/
def PD (s : RS) : Nat → Nat → Prop
  | 0, i => (s.b0.getD i hop0).b = false
  | n + 1, i => (s.b0.getD i hop0).b = true ∧ PD s n (s.b1.getD (s.b0.getD i hop0).k hop0).i
theorem PD.unique : ∀ {n m i : Nat}, PD s n i → PD s m i → n = m
  | 0, 0, _, _, _ => rfl
  | 0, m + 1, i, h, k => by have h1 : (s.b0.getD i hop0).b = false := h; have k1 := k.1; rw [h1] at k1; cases k1
  | n + 1, 0, i, h, k => by have k1 : (s.b0.getD i hop0).b = false := k; have h1 := h.1; rw [k1] at h1; cases h1
  | n + 1, m + 1, i, h, k => congrArg (· + 1) (PD.unique h.2 k.2)
theorem up_pd : ∀ {n k : Nat}, Up s n k → ∃ m, PD s m (s.b1.getD k hop0).i
  | 0, _, h => h.elim
  | n + 1, k, ⟨_, h⟩ => by
    rcases h with h | ⟨h, h2⟩
    · exact ⟨0, h⟩
    · obtain ⟨m, hm⟩ := up_pd h2
      exact ⟨m + 1, h, hm⟩
/-- the chain behind its first hop, from a pile on -/
def climbP (s : RS) : Nat → Nat → List Hop
  | 0, _ => []
  | n + 1, i => s.b0.getD i hop0 :: s.b1.getD (s.b0.getD i hop0).k hop0 :: climbP s n (s.b1.getD (s.b0.getD i hop0).k hop0).i
def rootP (s : RS) : Nat → Nat → Nat
  | 0, i => i
  | n + 1, i => rootP s n (s.b1.getD (s.b0.getD i hop0).k hop0).i
def climb (s : RS) (n k : Nat) : List Hop := s.b1.getD k hop0 :: climbP s n (s.b1.getD k hop0).i
def sg (b : Bool) : Int := if b then -1 else 1
theorem sg_t : sg true = -1 := rfl
theorem sg_f : sg false = 1 := rfl
/-- how often a pair is brought more, less how often less -/
def hopD (h : Hop) (i k : Nat) : Int := if h.i = i ∧ h.k = k then sg h.b else 0
def chainD : List Hop → Nat → Nat → Int
  | [], _, _ => 0
  | h :: l, i, k => hopD h i k + chainD l i k
def one (b : Bool) : Int := if b then 1 else 0
theorem rsum_single {n j : Nat} (c : Int) : rsum (fun i => if i = j then c else 0) n = if j < n then c else 0 := by
  induction n with
  | zero => simp [rsum]
  | succ n ih =>
    unfold rsum
    rw [ih]
    by_cases h : j < n
    · have h1 : j < n + 1 := by omega
      have h2 : ¬ n = j := by omega
      simp only [h, h1, h2, if_true, if_false]; omega
    · by_cases e : n = j
      · subst e
        simp
      · have h1 : ¬ j < n + 1 := by omega
        simp only [h, h1, e, if_false]; omega
theorem hopD_row {h : Hop} (hk : h.k < nn) (i : Nat) : rsum (fun k => hopD h i k) nn = if h.i = i then sg h.b else 0 := by
  by_cases e : h.i = i
  · rw [if_pos e, rsum_congr (g := fun k => if k = h.k then sg h.b else 0) nn fun k _ => by
      unfold hopD
      by_cases e2 : h.k = k
      · rw [if_pos ⟨e, e2⟩, if_pos e2.symm]
      · rw [if_neg (fun h3 => e2 h3.2), if_neg (fun h3 => e2 h3.symm)]]
    rw [rsum_single, if_pos hk]
  · rw [if_neg e, rsum_congr (g := fun _ => 0) nn fun k _ => by unfold hopD; rw [if_neg (fun h3 => e h3.1)]]
    exact rsum_zero nn
theorem hopD_col {h : Hop} (hi : h.i < np) (k : Nat) : rsum (fun i => hopD h i k) np = if h.k = k then sg h.b else 0 := by
  by_cases e : h.k = k
  · rw [if_pos e, rsum_congr (g := fun i => if i = h.i then sg h.b else 0) np fun i _ => by
      unfold hopD
      by_cases e2 : h.i = i
      · rw [if_pos ⟨e2, e⟩, if_pos e2.symm]
      · rw [if_neg (fun h3 => e2 h3.1), if_neg (fun h3 => e2 h3.symm)]]
    rw [rsum_single, if_pos hi]
  · rw [if_neg e, rsum_congr (g := fun _ => 0) np fun i _ => by unfold hopD; rw [if_neg (fun h3 => e h3.2)]]
    exact rsum_zero np
theorem chainD_row_cons (h : Hop) (l : List Hop) (i : Nat) : rsum (fun k => chainD (h :: l) i k) nn = rsum (fun k => hopD h i k) nn + rsum (fun k => chainD l i k) nn := rsum_add _ _ _
theorem chainD_col_cons (h : Hop) (l : List Hop) (k : Nat) : rsum (fun i => chainD (h :: l) i k) np = rsum (fun i => hopD h i k) np + rsum (fun i => chainD l i k) np := rsum_add _ _ _

/-- along a chain all piles and needs are this yard's, the hops as they were laid -/
theorem climbP_steps (I : RInv np nn C X F q0 q1 s) {n i : Nat} (hi : i < np) (h : PD s (n + 1) i) :
    isHop np nn C X (s.b0.getD i hop0) ∧ (s.b0.getD i hop0).i = i ∧ (s.b0.getD i hop0).b = true ∧ (s.b0.getD i hop0).k < nn ∧ s.d1.getD (s.b0.getD i hop0).k 0 < farN ∧
    isHop np nn C X (s.b1.getD (s.b0.getD i hop0).k hop0) ∧ (s.b1.getD (s.b0.getD i hop0).k hop0).k = (s.b0.getD i hop0).k ∧ (s.b1.getD (s.b0.getD i hop0).k hop0).b = false ∧ (s.b1.getD (s.b0.getD i hop0).k hop0).i < np := by
  obtain ⟨hb, _⟩ := h
  obtain ⟨a1, a2, a3, a4⟩ := I.p0 i hi hb
  obtain ⟨c1, c2, c3, c4⟩ := I.p1 _ a1.2.1 a3
  exact ⟨a1, a2, hb, a1.2.1, a3, c1, c2, c3, c1.1⟩
theorem climbP_hops (I : RInv np nn C X F q0 q1 s) : ∀ {n i : Nat}, i < np → PD s n i → (∀ h ∈ climbP s n i, isHop np nn C X h ∧ (h.b = false → s.d1.getD h.k 0 < farN ∧ h = s.b1.getD h.k hop0)) ∧ rootP s n i < np ∧ (s.b0.getD (rootP s n i) hop0).b = false
  | 0, i, hi, hp => ⟨fun h hh => by simp [climbP] at hh, hi, hp⟩
  | n + 1, i, hi, hp => by
    obtain ⟨a1, a2, a3, a4, a5, a6, a7, a8, a9⟩ := climbP_steps I hi hp
    obtain ⟨b1, b2⟩ := climbP_hops I a9 hp.2
    refine ⟨fun h hh => ?_, b2⟩
    rcases List.mem_cons.1 hh with rfl | hh
    · exact ⟨a1, fun e => by rw [a3] at e; cases e⟩
    rcases List.mem_cons.1 hh with rfl | hh
    · exact ⟨a6, fun _ => by rw [a7]; exact ⟨a5, rfl⟩⟩
    · exact b1 h hh
theorem climbP_row (I : RInv np nn C X F q0 q1 s) : ∀ {n i : Nat}, i < np → PD s n i → ∀ j, rsum (fun k => chainD (climbP s n i) j k) nn = (if rootP s n i = j then 1 else 0) - (if i = j then 1 else 0)
  | 0, i, _, _, j => by
    show rsum (fun _ => 0) nn = _
    rw [rsum_zero]; show (0 : Int) = (if i = j then 1 else 0) - _; omega
  | n + 1, i, hi, hp, j => by
    obtain ⟨a1, a2, a3, a4, a5, a6, a7, a8, a9⟩ := climbP_steps I hi hp
    show rsum (fun k => chainD (_ :: _ :: climbP s n _) j k) nn = _
    rw [chainD_row_cons, chainD_row_cons, hopD_row a4, hopD_row (by rw [a7]; exact a4), climbP_row I a9 hp.2 j, a2, a3, a8, sg_t, sg_f]
    show _ = (if rootP s n (s.b1.getD (s.b0.getD i hop0).k hop0).i = j then 1 else 0) - _
    split <;> split <;> split <;> omega
theorem climbP_col (I : RInv np nn C X F q0 q1 s) : ∀ {n i : Nat}, i < np → PD s n i → ∀ j, rsum (fun i' => chainD (climbP s n i) i' j) np = 0
  | 0, i, _, _, j => rsum_zero np
  | n + 1, i, hi, hp, j => by
    obtain ⟨a1, a2, a3, a4, a5, a6, a7, a8, a9⟩ := climbP_steps I hi hp
    show rsum (fun i' => chainD (_ :: _ :: climbP s n _) i' j) np = _
    rw [chainD_col_cons, chainD_col_cons, hopD_col (by rw [a2]; exact hi), hopD_col a9, climbP_col I a9 hp.2 j, a7, a3, a8, sg_t, sg_f]
    split <;> omega
/-- no pair is brought less twice -/
theorem climbP_back (I : RInv np nn C X F q0 q1 s) : ∀ {n i : Nat}, i < np → PD s n i → ∀ a b, 0 ≤ chainD (climbP s n i) a b ∨
    -1 ≤ chainD (climbP s n i) a b ∧ (∃ h ∈ climbP s n i, h.b = true ∧ h.i = a ∧ h.k = b) ∧ (s.b0.getD a hop0).k = b ∧ ∃ m, PD s (m + 1) a ∧ m + 1 ≤ n
  | 0, i, _, _, a, b => .inl (Int.le_refl _)
  | n + 1, i, hi, hp, a, b => by
    obtain ⟨a1, a2, a3, a4, a5, a6, a7, a8, a9⟩ := climbP_steps I hi hp
    have e : chainD (climbP s (n + 1) i) a b = (if i = a ∧ (s.b0.getD i hop0).k = b then -1 else 0) + ((if (s.b1.getD (s.b0.getD i hop0).k hop0).i = a ∧ (s.b0.getD i hop0).k = b then 1 else 0) + chainD (climbP s n (s.b1.getD (s.b0.getD i hop0).k hop0).i) a b) := by
      show hopD _ _ _ + (hopD _ _ _ + _) = _
      unfold hopD
      rw [a2, a3, a7, a8, sg_t, sg_f]
    rw [e]
    by_cases h0 : i = a ∧ (s.b0.getD i hop0).k = b
    · rw [if_pos h0]
      right
      have hD : 0 ≤ chainD (climbP s n (s.b1.getD (s.b0.getD i hop0).k hop0).i) a b := by
        rcases climbP_back I a9 hp.2 a b with h | ⟨_, _, _, m, h1, h2⟩
        · exact h
        · rw [← h0.1] at h1
          have := PD.unique hp h1
          omega
      refine ⟨by split <;> omega, ⟨_, List.mem_cons_self .., a3, by rw [a2]; exact h0.1, h0.2⟩, by rw [← h0.1]; exact h0.2, n, by rw [← h0.1]; exact hp, Nat.le_refl _⟩
    · rw [if_neg h0]
      rcases climbP_back I a9 hp.2 a b with h | ⟨h1, ⟨g, h2, h3⟩, h4, m, h5, h6⟩
      · left; split <;> omega
      · right
        exact ⟨by split <;> omega, ⟨g, List.mem_cons_of_mem _ (List.mem_cons_of_mem _ h2), h3⟩, h4, m, h5, by omega⟩
theorem chainD_pos : ∀ {l : List Hop} {a b : Nat}, 0 < chainD l a b → ∃ h ∈ l, h.b = false ∧ h.i = a ∧ h.k = b
  | [], _, _, h => absurd h (by unfold chainD; omega)
  | g :: l, a, b, h => by
    unfold chainD at h
    by_cases h1 : 0 < chainD l a b
    · obtain ⟨x, hx, h2⟩ := chainD_pos h1
      exact ⟨x, List.mem_cons_of_mem _ hx, h2⟩
    · have h2 : 0 < hopD g a b := by omega
      unfold hopD at h2
      by_cases h3 : g.i = a ∧ g.k = b
      · rw [if_pos h3] at h2
        cases hb : g.b with
        | false => exact ⟨g, List.mem_cons_self .., hb, h3⟩
        | true => rw [hb, sg_t] at h2; omega
      · rw [if_neg h3] at h2; omega
section
variable (I : RInv np nn C X F q0 q1 s) {k n : Nat} (hk : k < nn) (hf : s.d1.getD k 0 < farN) (hp : PD s n (s.b1.getD k hop0).i)
include I hk hf hp
theorem climb_hops : (∀ h ∈ climb s n k, isHop np nn C X h ∧ (h.b = false → s.d1.getD h.k 0 < farN ∧ h = s.b1.getD h.k hop0)) ∧ rootP s n (s.b1.getD k hop0).i < np ∧ (s.b0.getD (rootP s n (s.b1.getD k hop0).i) hop0).b = false := by
  obtain ⟨c1, c2, c3, c4⟩ := I.p1 k hk hf
  obtain ⟨b1, b2⟩ := climbP_hops I c1.1 hp
  refine ⟨fun h hh => ?_, b2⟩
  rcases List.mem_cons.1 hh with rfl | hh
  · exact ⟨c1, fun _ => by rw [c2]; exact ⟨hf, rfl⟩⟩
  · exact b1 h hh
theorem climb_row (j : Nat) : rsum (fun k' => chainD (climb s n k) j k') nn = if rootP s n (s.b1.getD k hop0).i = j then 1 else 0 := by
  obtain ⟨c1, c2, c3, c4⟩ := I.p1 k hk hf
  show rsum (fun k' => chainD (_ :: climbP s n _) j k') nn = _
  rw [chainD_row_cons, hopD_row c1.2.1, climbP_row I c1.1 hp, c3, sg_f]
  split <;> split <;> omega
theorem climb_col (j : Nat) : rsum (fun i' => chainD (climb s n k) i' j) np = if k = j then 1 else 0 := by
  obtain ⟨c1, c2, c3, c4⟩ := I.p1 k hk hf
  show rsum (fun i' => chainD (_ :: climbP s n _) i' j) np = _
  rw [chainD_col_cons, hopD_col c1.1, climbP_col I c1.1 hp, c3, c2, sg_f]
  split <;> omega
theorem climb_back (a b : Nat) : 0 ≤ chainD (climb s n k) a b ∨ -1 ≤ chainD (climb s n k) a b ∧ ∃ h ∈ climb s n k, h.b = true ∧ h.i = a ∧ h.k = b := by
  obtain ⟨c1, c2, c3, c4⟩ := I.p1 k hk hf
  have e : chainD (climb s n k) a b = hopD (s.b1.getD k hop0) a b + chainD (climbP s n (s.b1.getD k hop0).i) a b := rfl
  have h0 : 0 ≤ hopD (s.b1.getD k hop0) a b := by
    unfold hopD
    rw [c3, sg_f]
    split <;> omega
  rcases climbP_back I c1.1 hp a b with h | ⟨h1, ⟨g, h2, h3⟩, _⟩
  · left; omega
  · right; exact ⟨by omega, g, List.mem_cons_of_mem _ h2, h3⟩
end
/-- where nothing is left to relax -/
theorem Fixed.fwd (hX : Fixed np nn C X s) {i k : Nat} (hi : i < np) (hk : k < nn) (hd : s.d0.getD i 0 < farN) : s.d1.getD k 0 ≤ s.d0.getD i 0 + C i k := by
  have h := hX ⟨i, k, false, C i k⟩ ⟨hi, hk, .inl ⟨rfl, rfl⟩⟩
  unfold fires at h
  rw [if_neg (show ¬ (false = true) by decide)] at h
  simp only [Bool.and_eq_false_iff, decide_eq_false_iff_not] at h
  omega
theorem Fixed.bwd (hX : Fixed np nn C X s) {i k : Nat} (hi : i < np) (hk : k < nn) (hx : 0 < X i k) (hd : s.d1.getD k 0 < farN) : s.d0.getD i 0 ≤ s.d1.getD k 0 - C i k := by
  have h := hX ⟨i, k, true, -C i k⟩ ⟨hi, hk, .inr ⟨rfl, rfl, hx⟩⟩
  unfold fires at h
  rw [if_pos rfl] at h
  simp only [Bool.and_eq_false_iff, decide_eq_false_iff_not] at h
  omega
end

end Go.Proofs.YtchignmnnbepnaaGreat

/- the reference's integers: what they read as; made -/
/- the reference's integers: made -/
/- the reference's integers: readings, ZNeg, ZAbs -/
/- the reference's integers: larger -/
/- the reference's integers: ZInt -/
import Derived.Test.YtmfplelodnoicaaGreatDoorWB
import Derived.Test.YtmfplelodnoicaaGreatDoorWE
import Derived.Deep.DeepCutAuto
import Derived.Test.YtmfplelodnoicaaGreatDoorWA
import Derived.IntWalk
namespace Go.Proofs.YtmfplelodnoicaaGreatDoor
open Go.RowKit Dig

theorem info_int : (Tryz.prog.info? 3).map (fun i => (i.zero, i.size, i.bytes)) = some (some (.int .i64 0), 1, 8) := by kernel_rfl

/-- the sign of an integer -/
def sgnN (z : Int) : Int := if z = 0 then 0 else if z < 0 then -1 else 1
/-- an integer of the reference: its sign, and its groups in base 10000 -/
structure Nz (w : World) (s : Int) (g : Value) (z : Int) : Prop where
  s : s = sgnN z
  g : Sl 3 w g (dg 10000 z.natAbs)

theorem crN_bound : ∀ (c : Int) (l : List Int), (∀ x ∈ l, -1000000000000000 ≤ x ∧ x ≤ 1000000000000000) → -1000000000000 ≤ c → c ≤ 1000000000000 → -1000000000000 ≤ (cr 10000 c l).2 ∧ (cr 10000 c l).2 ≤ 1000000000000
  | c, [], _, h1, h2 => ⟨h1, h2⟩
  | c, x :: l, h, h1, h2 => by
    have hx := h x (by simp)
    rw [cr]
    exact crN_bound _ l (fun y hy => h y (by simp [hy])) (by omega) (by omega)

/-- the row with zeros behind, up to k -/
def ext (xs : List Int) (k : Nat) : List Int := (xs ++ List.replicate 30 0).take k
theorem ext_lt {xs : List Int} {k : Nat} (h : k < xs.length) : ext xs (k + 1) = ext xs k ++ [xs[k]] := by
  unfold ext
  rw [List.take_succ_eq_append_getElem (by rw [List.length_append]; omega), List.getElem_append_left h]
theorem ext_ge {xs : List Int} {k : Nat} (h : xs.length ≤ k) (h2 : k < xs.length + 30) : ext xs (k + 1) = ext xs k ++ [0] := by
  unfold ext
  rw [List.take_succ_eq_append_getElem (by rw [List.length_append, List.length_replicate]; omega), List.getElem_append_right h, List.getElem_replicate]
theorem ext_len {xs : List Int} {k : Nat} (h : k ≤ xs.length + 30) : (ext xs k).length = k := by
  unfold ext
  rw [List.length_take, List.length_append, List.length_replicate]; omega
theorem ext_mem {xs : List Int} (hb : ∀ x ∈ xs, -1000000000000000 ≤ x ∧ x ≤ 1000000000000000) (k : Nat) : ∀ x ∈ ext xs k, -1000000000000000 ≤ x ∧ x ≤ 1000000000000000 := by
  intro x hx
  rcases List.mem_append.1 (List.mem_of_mem_take hx) with h | h
  · exact hb x h
  · have := List.eq_of_mem_replicate h; omega
theorem vl_rep (b : Int) : ∀ n, vl b (List.replicate n 0) = 0
  | 0 => rfl
  | n + 1 => by rw [List.replicate_succ, vl, vl_rep b n]; simp
theorem ext_vl {xs : List Int} {k : Nat} (h : xs.length ≤ k) : vl 10000 (ext xs k) = vl 10000 xs := by
  unfold ext
  rw [List.take_append, List.take_of_length_le h, List.take_replicate, vl_append, vl_rep]; simp
theorem crN_nonneg {xs : List Int} (h0 : 0 ≤ vl 10000 xs) {k : Nat} (h : xs.length ≤ k) : 0 ≤ (cr 10000 0 (ext xs k)).2 :=
  cr_carry_nonneg (b := 10000) (by omega) _ (by rw [show (((10000 : Nat)) : Int) = 10000 from rfl, ext_vl h]; exact h0)
theorem crN_end {xs : List Int} {k : Nat} (h : xs.length ≤ k) (hc : (cr 10000 0 (ext xs k)).2 = 0) : vl 10000 (cr 10000 0 (ext xs k)).1 = vl 10000 xs := by
  have := cr_vl 10000 0 (ext xs k)
  rw [hc, ext_vl h] at this
  simpa using this
theorem tdiv_pos {y : Int} (h : 0 ≤ y) : y.tdiv 10000 = y / 10000 ∧ y.tmod 10000 = y % 10000 := ⟨Int.tdiv_eq_ediv_of_nonneg h, Int.tmod_eq_emod_of_nonneg h⟩
theorem tdiv_neg {y : Int} (h : y < 0) : (y % 10000 = 0 → y.tdiv 10000 = y / 10000 ∧ y.tmod 10000 = 0) ∧ (y % 10000 ≠ 0 → y.tdiv 10000 = y / 10000 + 1 ∧ y.tmod 10000 = y % 10000 - 10000) := by
  have h1 := Int.mul_tdiv_add_tmod y 10000
  have h2 : y.tmod 10000 = -((-y) % 10000) := by
    have := Int.neg_tmod (-y) 10000
    rw [Int.neg_neg, Int.tmod_eq_emod_of_nonneg (a := -y) (by omega)] at this
    exact this
  constructor
  · intro h0; constructor <;> omega
  · intro h0; constructor <;> omega

end Go.Proofs.YtmfplelodnoicaaGreatDoor
namespace Go.Proofs.YtmfplelodnoicaaGreatDoor
open Go.RowKit Dig

theorem St.grown {w W W' : World} {bs : List (Nat × Array Value × TypeId)} {row : Option Nat} (h : St w W bs []) (hg : W.grownBy W' row) (hr : ∀ j, row = some j → w.heap.size ≤ j ∧ ∀ x ∈ bs, x.1 ≠ j) : St w W' bs [] where
  be := h.be.grown hg h.be.size (fun j hj => (hr j hj).1)
  bx x hx := by
    obtain ⟨h1, h2, h3, h4⟩ := h.bx x hx
    exact ⟨h1, Nat.lt_of_lt_of_le h2 hg.size, (hg.block _ h2 (fun e => (hr x.1 e.symm).2 x hx rfl)).trans h3, h4⟩
  inc := h.inc
  rd := by simp

/-- the next digit and the next carry -/
theorem crN_step {l : List Int} {x q r : Int} (hq : ((cr 10000 0 l).2 + x).tdiv 10000 = q) (hr : ((cr 10000 0 l).2 + x).tmod 10000 = r) :
    cr 10000 0 (l ++ [x]) = ((cr 10000 0 l).1 ++ [if r < 0 then r + 10000 else r], if r < 0 then q - 1 else q) := by
  rw [cr_snoc, Int.add_comm x]
  generalize (cr 10000 0 l).2 + x = y at *
  have h : y % 10000 = (if r < 0 then r + 10000 else r) ∧ y / 10000 = (if r < 0 then q - 1 else q) := by
    by_cases hy : 0 ≤ y
    · obtain ⟨h1, h2⟩ := tdiv_pos hy
      have : 0 ≤ r := by omega
      rw [if_neg (by omega), if_neg (by omega)]; omega
    · obtain ⟨h1, h2⟩ := tdiv_neg (show y < 0 by omega)
      by_cases h0 : y % 10000 = 0
      · have := h1 h0; rw [if_neg (by omega), if_neg (by omega)]; omega
      · have := h2 h0; rw [if_pos (by omega), if_pos (by omega)]; omega
  rw [h.1, h.2]

/-- what made answers: a sign, and the groups of V -/
def RetM (w : World) (sg V : Int) (e : Ending) (w' : World) : Prop := ∃ a n c s, e = .returned (.agg #[.int .i64 s, .slice a n c]) ∧ s = (if V = 0 then 0 else sg) ∧ Sl 3 w' (.slice a n c) (dg 10000 V.toNat) ∧ Below w.heap.size w w' ∧ ∀ j, Value.ownBlock (.slice a n c) = some j → w.heap.size ≤ j

set_option maxRecDepth 100000 in
set_option maxHeartbeats 2000000 in
theorem rmade_any (sg : Int) (a : Option Addr) (n c : Nat) (xs : List Int) (w : World) (hs : Sl 3 w (.slice a n c) xs) (hb : ∀ x ∈ xs, -1000000000000000 ≤ x ∧ x ≤ 1000000000000000) (h0 : 0 ≤ vl 10000 xs) (hl : xs.length ≤ 100000) :
    Calls Tryz.prog 107 #[.int .i64 sg, .slice a n c] w (RetM w sg (vl 10000 xs)) := by
  have hn := hs.len
  subst hn
  have hC := Lib.hid ((St.enter w).al w.heap.size #[.int .i64 0, .slice none 0 0] 31 rfl rfl)
  have HS := Lib.hid hs
  have HB := Lib.hid hb
  have H0 := Lib.hid h0
  clear hs hb h0
  go_enter Tryz.func107, Tryz.ntmps107
  go_wp2
  go_loopg [5, 6, 7] (xs.length + 30) (fun gk ov cv iv wr => ∃ (k : Nat) (oa : Option Addr) (on oc : Nat), k ≤ xs.length + 30 ∧ gk = xs.length + 30 - k ∧ iv = .int .i64 k ∧ cv = .int .i64 (cr 10000 0 (ext xs k)).2 ∧ ov = .slice oa on oc ∧
    Hid (xs.length ≤ k → (cr 10000 0 (ext xs k)).2 * 10 ^ (k - xs.length) ≤ 1000000000000) ∧ Hid (Sl 3 wr (.slice oa on oc) (cr 10000 0 (ext xs k)).1) ∧ Hid (∀ j, Value.ownBlock (.slice oa on oc) = some j → w.heap.size < j) ∧
    Hid (St w wr [(w.heap.size, #[.int .i64 0, .slice none 0 0], 31)] []))
  case atStart => exact ⟨0, none, 0, 0, by omega, by omega, rfl, rfl, rfl, fun _ => by simp [ext, cr], Sl.nil, fun j hj => by simp [Value.ownBlock] at hj, hC.out⟩
  case round =>
    clear hC
    obtain ⟨k, oa, on, oc, hk, rfl, rfl, rfl, rfl, HV, HO, HOB, hC⟩ := hrel
    have cb := crN_bound 0 (ext xs k) (ext_mem HB.out k) (by omega) (by omega)
    have hol := HO.out.len
    rw [cr_len, ext_len hk] at hol
    obtain rfl : k = on := hol.symm
    by_cases hlt : k < xs.length
    · have hsr := HS.out.below hC.out.be HS.out.lt
      obtain ⟨g, rfl, hgl⟩ := hsr.row (by omega)
      have hc := hsr.cell (k := k) hlt
      have bx := HB.out _ (List.getElem_mem hlt)
      have HE := Lib.hid (ext_lt hlt)
      obtain ⟨X, hX⟩ : ∃ X : Int, X = xs[k] := ⟨_, rfl⟩
      rw [← hX] at hc bx
      obtain ⟨C, hCy⟩ : ∃ C : Int, C = (cr 10000 0 (ext xs k)).2 := ⟨_, rfl⟩
      rw [← hCy] at cb ⊢
      obtain ⟨q, hq⟩ : ∃ q : Int, (C + X).tdiv 10000 = q := ⟨_, rfl⟩
      obtain ⟨r, hr⟩ : ∃ r : Int, (C + X).tmod 10000 = r := ⟨_, rfl⟩
      have HST := Lib.hid (show cr 10000 0 (ext xs k ++ [xs[k]]) = ((cr 10000 0 (ext xs k)).1 ++ [if r < 0 then r + 10000 else r], if r < 0 then q - 1 else q) from crN_step (l := ext xs k) (x := xs[k]) (by rw [← hX, ← hCy]; exact hq) (by rw [← hX, ← hCy]; exact hr))
      have HX := Lib.hid hX
      have HCY := Lib.hid hCy
      have hlt' : (k : Int) < (xs.length : Int) := by omega
      have hq1 : -1000000000000 ≤ q ∧ q ≤ 1000000000000 ∧ -10000 < r ∧ r < 10000 := by
        by_cases hy : 0 ≤ C + X
        · have := tdiv_pos hy; omega
        · have := tdiv_neg (show C + X < 0 by omega)
          by_cases h0 : (C + X) % 10000 = 0
          · have := this.1 h0; omega
          · have := this.2 h0; omega
      obtain ⟨q1, q2, r1, r2⟩ := hq1
      clear hX hCy hsr
      have hlb : k + 1 ≤ xs.length := hlt
      by_cases hneg : r < 0
      · have hd : decide (r < 0) = true := by simpa using hneg
        go_wp2_with (at_builtin; refine wpList_append_sl _ rfl _ _ 29 rfl 3 Tryz.underlying29 info_int _ _ rfl (HO.out.alloc _) _ _ rfl (Sl.one _ _ _) ?c3 ?_)
        case c3 => simp [cr_len, ext_len hk]; omega
        intro a2 n2 c2 w2 ho2 hg2 hs2
        have hC2 := Lib.hid (hC.out.row.grown hg2 (fun j hj => ⟨by have := HOB.out j hj; omega, fun x hx => by rcases List.mem_singleton.1 hx with rfl; have := HOB.out j hj; show w.heap.size ≠ j; omega⟩))
        have HO2 := Lib.hid ho2
        have HB2 := Lib.hid (show ∀ j, Value.ownBlock (.slice a2 n2 c2) = some j → w.heap.size < j from fun j hj => by
          rcases hs2 j hj with h | h
          · exact HOB.out j h
          · have := hC.out.lt 0 rfl; have h3 : wr.heap.size ≤ j := Nat.le_trans (by simp) h; omega)
        clear ho2 hg2 hs2
        go_wp2
        go_roundg (xs.length + 30 - (k + 1))
        case measure => omega
        case rel =>
          have hst := HST.out
          rw [if_pos (by omega), if_pos (by omega)] at hst
          refine ⟨k + 1, a2, n2, c2, by omega, rfl, by go_num, by rw [HE.out, hst], rfl, ?_, ?_, HB2, hC2⟩
          · intro hh; have e : k + 1 - xs.length = 0 := by omega
            rw [e, HE.out, hst]; show (q - 1) * 10 ^ 0 ≤ 1000000000000; rw [Int.pow_zero, Int.mul_one]; omega
          · rw [HE.out, hst]; exact HO2.out
      · have hd : decide (r < 0) = false := by simpa using hneg
        go_wp2_with (at_builtin; refine wpList_append_sl _ rfl _ _ 29 rfl 3 Tryz.underlying29 info_int _ _ rfl (HO.out.alloc _) _ _ rfl (Sl.one _ _ _) ?c3 ?_)
        case c3 => simp [cr_len, ext_len hk]; omega
        intro a2 n2 c2 w2 ho2 hg2 hs2
        have hC2 := Lib.hid (hC.out.row.grown hg2 (fun j hj => ⟨by have := HOB.out j hj; omega, fun x hx => by rcases List.mem_singleton.1 hx with rfl; have := HOB.out j hj; show w.heap.size ≠ j; omega⟩))
        have HO2 := Lib.hid ho2
        have HB2 := Lib.hid (show ∀ j, Value.ownBlock (.slice a2 n2 c2) = some j → w.heap.size < j from fun j hj => by
          rcases hs2 j hj with h | h
          · exact HOB.out j h
          · have := hC.out.lt 0 rfl; have h3 : wr.heap.size ≤ j := Nat.le_trans (by simp) h; omega)
        clear ho2 hg2 hs2
        go_wp2
        go_roundg (xs.length + 30 - (k + 1))
        case measure => omega
        case rel =>
          have hst := HST.out
          rw [if_neg (by omega), if_neg (by omega)] at hst
          refine ⟨k + 1, a2, n2, c2, by omega, rfl, by go_num, by rw [HE.out, hst], rfl, ?_, ?_, HB2, hC2⟩
          · intro hh; have e : k + 1 - xs.length = 0 := by omega
            rw [e, HE.out, hst]; show q * 10 ^ 0 ≤ 1000000000000; rw [Int.pow_zero, Int.mul_one]; omega
          · rw [HE.out, hst]; exact HO2.out
    · have hge : xs.length ≤ k := by omega
      have hge' : decide ((k : Int) < (xs.length : Int)) = false := by simp; omega
      have cn := crN_nonneg H0.out hge
      have hv := HV.out hge
      by_cases hz : (cr 10000 0 (ext xs k)).2 = 0
      · have HVL := Lib.hid (crN_end hge hz)
        have HM := Lib.hid (cr_mem (b := 10000) (by omega) 0 (ext xs k))
        have hLl : (cr 10000 0 (ext xs k)).1.length = k := by rw [cr_len, ext_len hk]
        have HLL := Lib.hid hLl
        rw [hz]
        clear cb cn hv hz hLl HV
        generalize (cr 10000 0 (ext xs k)).1 = L at *
        go_wp2
        go_loop [5] (fun d => ∃ (a2 : Option Addr) (m c2 : Nat), d = .slice a2 m c2 ∧ m ≤ L.length ∧ Hid (Sl 3 wr (.slice a2 m c2) (L.take m)) ∧ Hid (vl 10000 (L.take m) = vl 10000 L) ∧ Hid (∀ j, Value.ownBlock (.slice a2 m c2) = some j → w.heap.size < j)) (fun d => match d with | .slice _ m _ => m | _ => 0)
        case atStart => exact ⟨oa, k, oc, rfl, Nat.le_of_eq HLL.out.symm, by rw [← HLL.out, List.take_length]; have := HO.out; rw [← HLL.out] at this; exact this, by rw [← HLL.out, List.take_length]; exact rfl, HOB.out⟩
        case round =>
          obtain ⟨a2, m, c2, rfl, hm, HO2, HV2, HB2⟩ := hrel
          have hLk := HLL.out
          have hcap := HO2.out.cap
          have d0 := hC.out.cell 0 0 rfl rfl
          have d1 := hC.out.cell 0 1 rfl rfl
          have g0 := hC.out.free 0 0 rfl
          have g1 := hC.out.free 0 1 rfl
          by_cases hm0 : m = 0
          · subst hm0
            have hz0 : vl 10000 xs = 0 := by rw [← HVL.out, ← HV2.out, List.take_zero]; rfl
            have HZ0 := Lib.hid hz0
            clear hz0
            go_wp2
            refine ret_st (hC.out.set 0 rfl |>.set 0 rfl) (v := .agg #[.int .i64 0, .slice none 0 0]) (fun hF => ?_) rfl (fun hF => ⟨none, 0, 0, 0, rfl, by rw [if_pos HZ0.out], by rw [HZ0.out]; show Sl _ _ _ (dg 10000 0); rw [dg_zero]; exact Sl.nil, hF.be, fun j hj => by simp [Value.ownBlock] at hj⟩)
            have e0 := hF.cell 0 0 rfl rfl
            have e1 := hF.cell 0 1 rfl rfl
            simp [results, Tryz.results107, go_sem, e0, e1]
          · obtain ⟨j, rfl⟩ : ∃ j, m = j + 1 := ⟨m - 1, by omega⟩
            obtain ⟨g, rfl, hgl⟩ := HO2.out.row (by simp; omega)
            have hc : wr.cell? ⟨g, j, none⟩ = some (.int .i64 L[j]) := by
              rw [HO2.out.cell (k := j) (by simp; omega)]; simp
            by_cases hz : L[j] = 0
            · rw [hz] at hc
              have HZJ := Lib.hid hz
              clear hz hm0
              go_wp2
              go_round
              case rel =>
                refine ⟨_, j, c2, rfl, by omega, ?_, ?_, fun i hi => HB2.out i hi⟩
                · have := HO2.out.pop (k := j) (by simp; omega)
                  rwa [List.take_take, Nat.min_eq_left (by omega)] at this
                · rw [← HV2.out, vl_take_zero 10000 hm HZJ.out]; exact rfl
              case measure => simp
            · have hz' : (L[j] == 0) = false := by simpa using hz
              have HZJ := Lib.hid hz
              clear hz hm0
              go_wp2
              have hfin : L.take (j + 1) = dg 10000 (vl 10000 xs).toNat := dg_of_take (by omega) hm HM.out (by rw [Int.toNat_of_nonneg H0.out, ← HVL.out]; exact HV2.out) (fun _ => by
                rw [Nat.add_sub_cancel, List.getElem?_eq_getElem (by omega)]; exact HZJ.out)
              have hVn : vl 10000 xs ≠ 0 := by
                intro e
                rw [e] at hfin
                have := congrArg List.length hfin
                rw [List.length_take, show dg 10000 (0 : Int).toNat = [] from dg_zero _] at this
                simp only [List.length_nil] at this
                omega
              refine ret_st (hC.out.set 0 rfl |>.set 0 rfl) (v := .agg #[.int .i64 sg, .slice (some ⟨g, 0, none⟩) (j + 1) c2]) (fun hF => ?_) rfl (fun hF => ⟨_, _, c2, sg, rfl, by rw [if_neg hVn], ?_, hF.be, fun j hj => Nat.le_of_lt (HB2.out j hj)⟩)
              · have e0 := hF.cell 0 0 rfl rfl
                have e1 := hF.cell 0 1 rfl rfl
                simp [results, Tryz.results107, go_sem, e0, e1]
              · rw [← hfin]
                have hne : Value.ownBlock (.slice (some ⟨g, 0, none⟩) (j + 1) c2) ≠ some w.heap.size := fun e => by have := HB2.out _ e; omega
                exact (HO2.out.other hne _).other hne _
      · have HST0 : cr 10000 0 (ext xs k ++ [0]) = ((cr 10000 0 (ext xs k)).1 ++ [(cr 10000 0 (ext xs k)).2 % 10000], (cr 10000 0 (ext xs k)).2 / 10000) := by rw [cr_snoc, Int.zero_add]
        have hk12 : k < xs.length + 30 := by
          have h1 : (10 : Int) ^ (k - xs.length) ≤ 1000000000000 := by
            have h2 : (1 : Int) * 10 ^ (k - xs.length) ≤ (cr 10000 0 (ext xs k)).2 * 10 ^ (k - xs.length) := Int.mul_le_mul_of_nonneg_right (by omega) (Int.pow_nonneg (by omega))
            omega
          have h3 : (10 : Nat) ^ (k - xs.length) ≤ 1000000000000 := Int.ofNat_le.1 (by rw [Int.natCast_pow]; exact h1)
          rw [show (1000000000000 : Nat) = 10 ^ 12 from rfl] at h3
          have := (Nat.pow_le_pow_iff_right (by omega)).1 h3
          omega
        have HE := Lib.hid (ext_ge hge hk12)
        have HST := Lib.hid HST0
        obtain ⟨C, hCy⟩ : ∃ C : Int, C = (cr 10000 0 (ext xs k)).2 := ⟨_, rfl⟩
        have HV1 := Lib.hid (show C / 10000 * 10 ^ (k + 1 - xs.length) ≤ 1000000000000 from by
          rw [← hCy] at hv cn
          have e1 : k + 1 - xs.length = (k - xs.length) + 1 := by omega
          rw [e1, Int.pow_succ, Int.mul_comm (10 ^ (k - xs.length)) 10, ← Int.mul_assoc]
          refine Int.le_trans (Int.mul_le_mul_of_nonneg_right (show C / 10000 * 10 ≤ C by omega) (Int.pow_nonneg (by omega))) hv)
        have HCY := Lib.hid hCy
        rw [← hCy] at cb cn hz ⊢
        have hz' : (C != 0) = true := bne_iff_ne.2 hz
        clear hCy hz hv HST0
        go_wp2_with (at_builtin; refine wpList_append_sl _ rfl _ _ 29 rfl 3 Tryz.underlying29 info_int _ _ rfl (HO.out.alloc _) _ _ rfl (Sl.one _ _ _) ?c3 ?_)
        case c3 => simp [cr_len, ext_len hk]; omega
        intro a2 n2 c2 w2 ho2 hg2 hs2
        have hC2 := Lib.hid (hC.out.row.grown hg2 (fun j hj => ⟨by have := HOB.out j hj; omega, fun x hx => by rcases List.mem_singleton.1 hx with rfl; have := HOB.out j hj; show w.heap.size ≠ j; omega⟩))
        have HO2 := Lib.hid ho2
        have HB2 := Lib.hid (show ∀ j, Value.ownBlock (.slice a2 n2 c2) = some j → w.heap.size < j from fun j hj => by
          rcases hs2 j hj with h | h
          · exact HOB.out j h
          · have := hC.out.lt 0 rfl; have h3 : wr.heap.size ≤ j := Nat.le_trans (by simp) h; omega)
        clear ho2 hg2 hs2
        go_wp2
        go_roundg (xs.length + 30 - (k + 1))
        case measure => omega
        case rel =>
          have hst := HST.out
          rw [← HCY.out] at hst
          refine ⟨k + 1, a2, n2, c2, by omega, rfl, by go_num, by rw [HE.out, hst], rfl, ?_, ?_, HB2, hC2⟩
          · intro hh; rw [HE.out, hst]; exact HV1.out
          · rw [HE.out, hst]; exact HO2.out

end Go.Proofs.YtmfplelodnoicaaGreatDoor
namespace Go.Proofs.YtmfplelodnoicaaGreatDoor
open Go.RowKit Dig

theorem Nz.keep {w w' : World} {s : Int} {g : Value} {z : Int} (h : Nz w s g z) (hk : Keeps w w') : Nz w' s g z := ⟨h.s, Sl.keep h.g rfl hk⟩
section
variable {w W : World} {bs : List (Nat × Array Value × TypeId)} {rs : List (World → Prop)}
theorem St.pn (h : St w W bs rs) {s : Int} {g : Value} {z : Int} (hz : Nz W s g z) : St w W bs (rs ++ [fun V => Nz V s g z]) := h.push (fun _ _ k hz => hz.keep k) hz
theorem St.n (h : St w W bs rs) (i : Nat) {s : Int} {g : Value} {z : Int} (hx : rs[i]? = some (fun V => Nz V s g z)) : Nz W s g z := (h.rd _ (List.mem_of_getElem? hx)).2
end
/-- the result is the reference's integer z -/
def RetN (w : World) (z : Int) (e : Ending) (w' : World) : Prop := ∃ s a n c, e = .returned (.agg #[.int .i64 s, .slice a n c]) ∧ Nz w' s (.slice a n c) z ∧ Below w.heap.size w w'
/-- and its row is new -/
def RetNF (w : World) (z : Int) (e : Ending) (w' : World) : Prop := ∃ s a n c, e = .returned (.agg #[.int .i64 s, .slice a n c]) ∧ Nz w' s (.slice a n c) z ∧ Below w.heap.size w w' ∧ ∀ j, Value.ownBlock (.slice a n c) = some j → w.heap.size ≤ j
theorem RetNF.n {w w' : World} {z : Int} {e : Ending} (h : RetNF w z e w') : RetN w z e w' := by
  obtain ⟨s, a, n, c, h1, h2, h3, _⟩ := h
  exact ⟨s, a, n, c, h1, h2, h3⟩
theorem RetM.f {w w' : World} {sg V : Int} {e : Ending} (h : RetM w sg V e w') (h0 : 0 ≤ V) (hs : V = 0 ∨ sg = 1 ∨ sg = -1) : RetNF w (sg * V) e w' := by
  obtain ⟨a, n, c, s, rfl, rfl, hsl, hb, hf⟩ := h
  refine ⟨_, a, n, c, rfl, ⟨?_, ?_⟩, hb, hf⟩
  · unfold sgnN
    rcases hs with rfl | rfl | rfl
    · simp
    · by_cases h : V = 0
      · subst h; simp
      · rw [if_neg h, if_neg (by omega), if_neg (by omega)]
    · by_cases h : V = 0
      · subst h; simp
      · rw [if_neg h, if_neg (by omega), if_pos (by omega)]
  · have e : (sg * V).natAbs = V.toNat := by
      rcases hs with rfl | rfl | rfl
      · simp
      · omega
      · omega
    rw [e]; exact hsl
theorem Nz.sb {w : World} {s : Int} {g : Value} {z : Int} (h : Nz w s g z) : s = 0 ∨ s = 1 ∨ s = -1 := by
  rw [h.s]; unfold sgnN; split
  · exact .inl rfl
  · split
    · exact .inr (.inr rfl)
    · exact .inr (.inl rfl)
theorem rmade_b {w : World} {sg : Int} {a : Option Addr} {n c : Nat} {xs : List Int} (hs : Sl 3 w (.slice a n c) xs) (hb : ∀ x ∈ xs, -1000000000000000 ≤ x ∧ x ≤ 1000000000000000) (h0 : 0 ≤ vl 10000 xs) (hl : xs.length ≤ 100000) (hsg : vl 10000 xs = 0 ∨ sg = 1 ∨ sg = -1) :
    Calls Tryz.prog 107 #[.int .i64 sg, .slice a n c] w (RetN w (sg * vl 10000 xs)) :=
  (rmade_any sg a n c xs w hs hb h0 hl).mono fun _ _ h => (h.f h0 hsg).n
theorem rmade_f {w : World} {sg : Int} {a : Option Addr} {n c : Nat} {xs : List Int} (hs : Sl 3 w (.slice a n c) xs) (hb : ∀ x ∈ xs, -1000000000000000 ≤ x ∧ x ≤ 1000000000000000) (h0 : 0 ≤ vl 10000 xs) (hl : xs.length ≤ 100000) (hsg : vl 10000 xs = 0 ∨ sg = 1 ∨ sg = -1) :
    Calls Tryz.prog 107 #[.int .i64 sg, .slice a n c] w (RetNF w (sg * vl 10000 xs)) :=
  (rmade_any sg a n c xs w hs hb h0 hl).mono fun _ _ h => h.f h0 hsg

set_option maxRecDepth 100000 in
set_option maxHeartbeats 1000000 in
theorem zneg_any (s1 : Int) (a1 : Option Addr) (n1 c1 : Nat) (z1 : Int) (w : World) (h1 : Nz w s1 (.slice a1 n1 c1) z1) :
    Calls Tryz.prog 44 #[.agg #[.int .i64 s1, .slice a1 n1 c1]] w (RetN w (-z1)) := by
  have hs := h1.sb
  have HG := Lib.hid h1.g
  have HS := Lib.hid (show -s1 = sgnN (-z1) from by rw [h1.s]; unfold sgnN; by_cases h : z1 = 0; subst h; rfl; by_cases h2 : z1 < 0; rw [if_neg h, if_pos h2, if_neg (by omega), if_neg (by omega)]; omega; rw [if_neg h, if_neg h2, if_neg (by omega), if_pos (by omega)])
  have b1 : -1 ≤ s1 := by omega
  have b2 : s1 ≤ 1 := by omega
  clear hs
  have hC := Lib.hid ((((St.enter w).pn h1).al (w.heap.size) #[.int .i64 s1, .slice a1 n1 c1] 31 rfl rfl).al (w.heap.size + 1) #[.int .i64 (-s1), .slice a1 n1 c1] 31 (by simp) rfl)
  clear h1
  go_enter Tryz.func44, Tryz.ntmps44
  go_wp2
  refine ret_st hC.out (v := .agg #[.int .i64 (-s1), .slice a1 n1 c1]) (fun hF => ?_) rfl (fun hF => ⟨_, _, _, _, rfl, ⟨HS.out, by rw [Int.natAbs_neg]; exact (hF.n 0 rfl).g⟩, hF.be⟩)
  · have e0 := hF.cell 1 0 rfl rfl
    have e1 := hF.cell 1 1 rfl rfl
    simp [results, Tryz.results44, go_sem, e0, e1]

set_option maxRecDepth 100000 in
set_option maxHeartbeats 1000000 in
theorem zabs_any (s1 : Int) (a1 : Option Addr) (n1 c1 : Nat) (z1 : Int) (w : World) (h1 : Nz w s1 (.slice a1 n1 c1) z1) :
    Calls Tryz.prog 46 #[.agg #[.int .i64 s1, .slice a1 n1 c1]] w (RetN w (z1.natAbs : Int)) := by
  have HS := Lib.hid (show s1 * s1 = sgnN (z1.natAbs : Int) from by rw [h1.s]; unfold sgnN; by_cases h : z1 = 0; subst h; rfl; by_cases h2 : z1 < 0; rw [if_neg h, if_pos h2, if_neg (by omega), if_neg (by omega)]; rfl; rw [if_neg h, if_neg h2, if_neg (by omega), if_neg (by omega)]; rfl)
  have hw : IntKind.i64.wrap (s1 * s1) = s1 * s1 := by
    rcases h1.sb with h | h | h <;> rw [h] <;> rfl
  have hC := Lib.hid ((((St.enter w).pn h1).al (w.heap.size) #[.int .i64 s1, .slice a1 n1 c1] 31 rfl rfl).al (w.heap.size + 1) #[.int .i64 (s1 * s1), .slice a1 n1 c1] 31 (by simp) rfl)
  clear h1
  go_enter Tryz.func46, Tryz.ntmps46
  go_wp2
  refine ret_st hC.out (v := .agg #[.int .i64 (s1 * s1), .slice a1 n1 c1]) (fun hF => ?_) rfl (fun hF => ⟨_, _, _, _, rfl, ⟨HS.out, by rw [Int.natAbs_natCast]; exact (hF.n 0 rfl).g⟩, hF.be⟩)
  · have e0 := hF.cell 1 0 rfl rfl
    have e1 := hF.cell 1 1 rfl rfl
    simp [results, Tryz.results46, go_sem, e0, e1]

end Go.Proofs.YtmfplelodnoicaaGreatDoor
namespace Go.Proofs.YtmfplelodnoicaaGreatDoor
open Go.RowKit Dig

set_option maxRecDepth 100000 in
set_option maxHeartbeats 2000000 in
theorem larger_any (s1 : Int) (a1 : Option Addr) (n1 c1 : Nat) (z1 : Int) (s2 : Int) (a2 : Option Addr) (n2 c2 : Nat) (z2 : Int) (w : World) (h1 : Nz w s1 (.slice a1 n1 c1) z1) (h2 : Nz w s2 (.slice a2 n2 c2) z2)
    (hl1 : (dg 10000 z1.natAbs).length ≤ 10000000) (hl2 : (dg 10000 z2.natAbs).length ≤ 10000000) :
    Calls Tryz.prog 108 #[.agg #[.int .i64 s1, .slice a1 n1 c1], .agg #[.int .i64 s2, .slice a2 n2 c2]] w fun e w' => e = .returned (.int .i64 (cmpN z1.natAbs z2.natAbs)) ∧ Below w.heap.size w w' := by
  have hn := h1.g.len
  have hn2 := h2.g.len
  have hC := Lib.hid ((((St.enter w).al w.heap.size #[.int .i64 s1, .slice a1 n1 c1] 31 rfl rfl).al (w.heap.size + 1) #[.int .i64 s2, .slice a2 n2 c2] 31 (by simp) rfl))
  have L1 := Lib.hid h1.g.lt
  have L2 := Lib.hid h2.g.lt
  have HM := Lib.hid h1.g
  have HN := Lib.hid h2.g
  obtain ⟨M, hM⟩ : ∃ M : Nat, z1.natAbs = M := ⟨_, rfl⟩
  obtain ⟨N, hN⟩ : ∃ N : Nat, z2.natAbs = N := ⟨_, rfl⟩
  rw [hM] at HM hn hl1 ⊢
  rw [hN] at HN hn2 hl2 ⊢
  clear hM hN
  have LT := Lib.hid (fun h => lt_of_len_lt (b := 10000) (by omega) (m := M) (n := N) h)
  have GT := Lib.hid (fun h => lt_of_len_lt (b := 10000) (by omega) (m := N) (n := M) h)
  have VM := Lib.hid (show vl 10000 (dg 10000 M) = (M : Int) from vl_dg (b := 10000) (by omega) M)
  have VN := Lib.hid (show vl 10000 (dg 10000 N) = (N : Int) from vl_dg (b := 10000) (by omega) N)
  have MM := Lib.hid (show ∀ x ∈ dg 10000 M, 0 ≤ x ∧ x < 10000 from dg_mem (b := 10000) (by omega) M)
  have MN := Lib.hid (show ∀ x ∈ dg 10000 N, 0 ≤ x ∧ x < 10000 from dg_mem (b := 10000) (by omega) N)
  clear h1 h2
  generalize dg 10000 M = xs at *
  generalize dg 10000 N = ys at *
  subst hn; subst hn2
  go_enter Tryz.func108, Tryz.ntmps108
  go_wp2
  go_loopw [5, 6] (fun dv iv wr => ∃ (k : Nat) (d : Int), iv = .int .i64 ((k : Int) - 1) ∧ dv = .int .i64 d ∧ k ≤ xs.length ∧ -10000000 ≤ d ∧ d ≤ 10000000 ∧ Hid (d = 0 → ys.length = xs.length ∧ xs.drop k = ys.drop k) ∧ Hid (d < 0 → M < N) ∧ Hid (0 < d → N < M) ∧
    Hid (St w wr [(w.heap.size, #[.int .i64 s1, .slice a1 xs.length c1], 31), (w.heap.size + 1, #[.int .i64 s2, .slice a2 ys.length c2], 31)] [])) (fun _ iv _ => (intOf iv + 1).toNat)
  case atStart => exact ⟨xs.length, (xs.length : Int) - ys.length, rfl, rfl, Nat.le_refl _, by omega, by omega, fun h => ⟨by omega, by rw [List.drop_length, List.drop_of_length_le (by omega)]⟩, fun h => LT.out (by omega), fun h => GT.out (by omega), hC.out⟩
  case round =>
    clear hC
    obtain ⟨k, d, rfl, rfl, hk, d1, d2, HD, HD1, HD2, hC⟩ := hrel
    have FIN := Lib.hid (show (k = 0 ∨ d ≠ 0) → (if 0 < d then (1 : Int) else if d < 0 then -1 else 0) = cmpN M N from by
      intro h
      unfold cmpN
      by_cases h1 : 0 < d
      · have := HD2.out h1; rw [if_pos h1, if_neg (by omega), if_pos this]
      · by_cases h2 : d < 0
        · have := HD1.out h2; rw [if_neg h1, if_pos h2, if_pos this]
        · have h0 : d = 0 := by omega
          have hk0 : k = 0 := by omega
          have e := (HD.out h0).2
          rw [hk0, List.drop_zero, List.drop_zero] at e
          have e2 : (M : Int) = N := by rw [← VM.out, ← VN.out, e]
          rw [if_neg h1, if_neg h2, if_neg (by omega), if_neg (by omega)])
    by_cases hd0 : d = 0
    · cases k with
      | zero =>
        subst hd0
        have HF := Lib.hid (FIN.out (.inl rfl))
        clear HD HD1 HD2 FIN
        go_wp2
        go_ret
        exact ⟨ret_int (by rw [← HF.out]; rfl), hC.out.be⟩
      | succ k =>
        subst hd0
        obtain ⟨hle, hdr⟩ := HD.out rfl
        have HLE := Lib.hid hle
        have HDR := Lib.hid hdr
        have hky : k < ys.length := by omega
        have sx := HM.out.below hC.out.be L1.out
        have sy := HN.out.below hC.out.be L2.out
        obtain ⟨g1, rfl, hg1⟩ := sx.row (by omega)
        obtain ⟨g2, rfl, hg2⟩ := sy.row (by omega)
        have cx := Lib.hid (sx.cell (k := k) (by omega))
        have cy := Lib.hid (sy.cell hky)
        obtain ⟨X, hX⟩ : ∃ X : Int, X = xs[k] := ⟨_, rfl⟩
        obtain ⟨Y, hY⟩ : ∃ Y : Int, Y = ys[k] := ⟨_, rfl⟩
        have bX := MM.out _ (List.getElem_mem (show k < xs.length by omega))
        have bY := MN.out _ (List.getElem_mem hky)
        have T1 := Lib.hid (show X < Y → M < N from fun h => by
          have := vl_lt_of_top (b := 10000) (by omega) (l := xs) (r := ys) (by omega) MM.out MN.out hdr (by omega) hky (by omega)
          have e1 := VM.out; have e2 := VN.out
          simp only [show ((10000 : Nat) : Int) = 10000 from rfl] at this
          omega)
        have T2 := Lib.hid (show Y < X → N < M from fun h => by
          have := vl_lt_of_top (b := 10000) (by omega) (l := ys) (r := xs) (by omega) MN.out MM.out hdr.symm hky (by omega) (by omega)
          have e1 := VM.out; have e2 := VN.out
          simp only [show ((10000 : Nat) : Int) = 10000 from rfl] at this
          omega)
        rw [← hX] at cx bX
        rw [← hY] at cy bY
        have HX := Lib.hid hX
        have HY := Lib.hid hY
        have i1 : (0 : Int) ≤ (k : Int) := by omega
        have i2 : (k : Int) < (xs.length : Int) := by omega
        have i3 : (k : Int) < (ys.length : Int) := by omega
        have i4 : IntKind.i64.wrap (X - Y) = X - Y := IntWalk.i64_in _ (by omega)
        clear hX hY hle hdr sx sy HD HD1 HD2 FIN
        rw [show ((k + 1 : Nat) : Int) - 1 = (k : Int) from by omega]
        go_wp2
        go_region_held3 (fun w' => w'.cell? ⟨w.heap.size, 1, none⟩ = some (.slice (some ⟨g1, 0, none⟩) xs.length c1) ∧ w'.cell? ⟨w.heap.size + 1, 1, none⟩ = some (.slice (some ⟨g2, 0, none⟩) ys.length c2) ∧ w'.cell? ⟨g1, k, none⟩ = some (.int .i64 X) ∧ w'.cell? ⟨g2, k, none⟩ = some (.int .i64 Y))
          (exact ⟨hC.out.drew.cell 0 1 rfl rfl, hC.out.drew.cell 1 1 rfl rfl, cx.out, cy.out⟩) (fail)
        go_wp2
        go_roundw
        case rel =>
          refine ⟨k, X - Y, rfl, rfl, by omega, by omega, by omega, fun h => ⟨HLE.out, ?_⟩, fun h => T1.out (by omega), fun h => T2.out (by omega), hC.out.drew⟩
          rw [List.drop_eq_getElem_cons (show k < xs.length by omega), List.drop_eq_getElem_cons hky, HDR.out, ← HX.out, ← HY.out, show X = Y by omega]
        case measure => simp [intOf]
    · have HF := Lib.hid (FIN.out (.inr hd0))
      have hd0' : (d == 0) = false := by simpa using hd0
      clear HD HD1 HD2 FIN
      by_cases h1 : 0 < d
      · go_wp2
        all_goals
          go_ret
          exact ⟨ret_int (by rw [← HF.out, if_pos h1]), hC.out.be⟩
      · have h2 : d < 0 := by omega
        go_wp2
        all_goals
          go_ret
          exact ⟨ret_int (by rw [← HF.out, if_neg (by omega), if_pos h2]), hC.out.be⟩

end Go.Proofs.YtmfplelodnoicaaGreatDoor
namespace Go.Proofs.YtmfplelodnoicaaGreatDoor
open Go.RowKit Dig

theorem neg_tm (p : Nat) : (-(p : Int)).tmod 10000 = -((p % 10000 : Nat) : Int) ∧ (-(p : Int)).tdiv 10000 = -((p / 10000 : Nat) : Int) := by
  rw [Int.neg_tmod, Int.neg_tdiv, Int.tmod_eq_emod_of_nonneg (by omega), Int.tdiv_eq_ediv_of_nonneg (by omega)]
  constructor <;> rfl

set_option maxRecDepth 100000 in
set_option maxHeartbeats 2000000 in
theorem zint_pos (P : Nat) (hP : P < 9223372036854775808) (w : World) : Calls Tryz.prog 36 #[.int .i64 (P : Int)] w (RetN w (P : Int)) := by
  have hC := Lib.hid ((St.enter w).al w.heap.size #[.int .i64 0, .slice none 0 0] 31 rfl rfl)
  go_enter Tryz.func36, Tryz.ntmps36
  go_wp2
  go_loopg [0, 4] P (fun gk nv gv wr => ∃ (p : Nat) (L : List Int) (ga : Option Addr) (gn gc : Nat), nv = .int .i64 (p : Int) ∧ p = gk ∧ gv = .slice ga gn gc ∧ p ≤ 9223372036854775808 ∧ Hid (L ++ dg 10000 p = dg 10000 P) ∧ L.length ≤ 1000 ∧ p ≤ P ∧ Hid (Sl 3 wr (.slice ga gn gc) L) ∧ Hid (∀ j, Value.ownBlock (.slice ga gn gc) = some j → w.heap.size < j) ∧ Hid (St w wr [(w.heap.size, #[.int .i64 0, .slice none 0 0], 31)] []))
  case atStart => exact ⟨P, [], none, 0, 0, rfl, rfl, rfl, by omega, rfl, by simp, by omega, Sl.nil, fun j hj => by simp [Value.ownBlock] at hj, hC.out⟩
  case round =>
    clear hC
    obtain ⟨p, L, ga, gn, gc, rfl, rfl, rfl, hp, HD, hLL, hpP, HO, HOB, hC⟩ := hrel
    have hlen : L.length ≤ 5 := by
      have h1 := congrArg List.length HD.out
      have h2 : (dg 10000 P).length ≤ 5 := dg_len_le (by omega) (by omega)
      rw [List.length_append] at h1; omega
    by_cases hp0 : p = 0
    · subst hp0
      have HLD := Lib.hid (show L = dg 10000 P from by have := HD.out; rw [dg_zero, List.append_nil] at this; exact this)
      have hVL := vl_dg (b := 10000) (by omega) P
      simp only [show ((10000 : Nat) : Int) = 10000 from rfl] at hVL
      have HVL := Lib.hid hVL
      have hM := dg_mem (b := 10000) (by omega) P
      have HM := Lib.hid hM
      clear hVL hM HD
      have c00 := hC.out.cell 0 0 rfl rfl
      have c01 := hC.out.cell 0 1 rfl rfl
      have f00 := hC.out.free 0 0 rfl
      have f01 := hC.out.free 0 1 rfl
      go_wp2_with fail
      refine (rmade_b (xs := L) HO.out (fun x hx => by have := HM.out x (by rw [← HLD.out]; exact hx); omega) (by rw [HLD.out, HVL.out]; omega) (by omega) (.inr (.inl rfl))).mono ?_
      rintro e w3 ⟨s3, a3, n3, c3, rfl, hz, hb⟩
      have hC3 := Lib.hid ((hC.out.call hb).pn hz)
      clear hz hb c00 c01 f00 f01 hC
      have c00 := hC3.out.cell 0 0 rfl rfl
      have c01 := hC3.out.cell 0 1 rfl rfl
      have f00 := hC3.out.free 0 0 rfl
      have f01 := hC3.out.free 0 1 rfl
      go_wp2
      refine ret_st (hC3.out.set 0 rfl |>.set 0 rfl) (v := .agg #[.int .i64 s3, .slice a3 n3 c3]) (fun hF => ?_) rfl (fun hF => ⟨s3, a3, n3, c3, rfl, ?_, hF.be⟩)
      · have e0 := hF.cell 0 0 rfl rfl
        have e1 := hF.cell 0 1 rfl rfl
        simp [results, Tryz.results36, go_sem, e0, e1]
      · have := hF.n 0 rfl
        rw [HLD.out, HVL.out] at this
        rwa [Int.one_mul] at this
    · have HP0 := Lib.hid hp0
      have HPP := Lib.hid (show dg 10000 p = ((p % 10000 : Nat) : Int) :: dg 10000 (p / 10000) from dg_pos (by omega) (by omega))
      have hne : ((p : Int) != 0) = true := by simp; omega
      clear hp0
      go_wp2_with (at_builtin; refine wpList_append_sl _ rfl _ _ 29 rfl 3 Tryz.underlying29 info_int _ _ rfl (HO.out.alloc _) _ _ rfl (Sl.one _ _ _) ?c3 ?_)
      case c3 => simp; omega
      intro a2 n2 c2 w2 ho2 hg2 hs2
      have hC2 := Lib.hid (hC.out.row.grown hg2 (fun j hj => ⟨by have := HOB.out j hj; omega, fun x hx => by rcases List.mem_singleton.1 hx with rfl; have := HOB.out j hj; show w.heap.size ≠ j; omega⟩))
      have HO2 := Lib.hid ho2
      have HB2 := Lib.hid (show ∀ j, Value.ownBlock (.slice a2 n2 c2) = some j → w.heap.size < j from fun j hj => by
        rcases hs2 j hj with h | h
        · exact HOB.out j h
        · have := hC.out.lt 0 rfl; have h3 : wr.heap.size ≤ j := Nat.le_trans (by simp) h; omega)
      clear ho2 hg2 hs2
      go_wp2
      go_roundg (p / 10000)
      case measure => have := HP0.out; omega
      case rel =>
        refine ⟨p / 10000, L ++ [((p % 10000 : Nat) : Int)], a2, n2, c2, by go_num, rfl, rfl, by omega, ?_, by rw [List.length_append, List.length_singleton]; omega, by omega, ?_, HB2, hC2⟩
        · have := HD.out; rw [HPP.out] at this; unfold Hid; rw [← this]; simp
        · exact HO2.out

set_option maxRecDepth 100000 in
set_option maxHeartbeats 2000000 in
theorem zint_neg (P : Nat) (hP : 0 < P ∧ P ≤ 9223372036854775808) (w : World) : Calls Tryz.prog 36 #[.int .i64 (-(P : Int))] w (RetN w (-(P : Int))) := by
  have hC := Lib.hid ((St.enter w).al w.heap.size #[.int .i64 0, .slice none 0 0] 31 rfl rfl)
  obtain ⟨hP0, hP⟩ := hP
  go_enter Tryz.func36, Tryz.ntmps36
  go_wp2
  go_loopg [0, 4] P (fun gk nv gv wr => ∃ (p : Nat) (L : List Int) (ga : Option Addr) (gn gc : Nat), nv = .int .i64 (-(p : Int)) ∧ p = gk ∧ gv = .slice ga gn gc ∧ p ≤ 9223372036854775808 ∧ Hid (L ++ dg 10000 p = dg 10000 P) ∧ L.length ≤ 1000 ∧ p ≤ P ∧ Hid (Sl 3 wr (.slice ga gn gc) L) ∧ Hid (∀ j, Value.ownBlock (.slice ga gn gc) = some j → w.heap.size < j) ∧ Hid (St w wr [(w.heap.size, #[.int .i64 0, .slice none 0 0], 31)] []))
  case atStart => exact ⟨P, [], none, 0, 0, rfl, rfl, rfl, by omega, rfl, by simp, by omega, Sl.nil, fun j hj => by simp [Value.ownBlock] at hj, hC.out⟩
  case round =>
    clear hC
    obtain ⟨p, L, ga, gn, gc, rfl, rfl, rfl, hp, HD, hLL, hpP, HO, HOB, hC⟩ := hrel
    have hlen : L.length ≤ 5 := by
      have h1 := congrArg List.length HD.out
      have h2 : (dg 10000 P).length ≤ 5 := dg_len_le (by omega) (by omega)
      rw [List.length_append] at h1; omega
    by_cases hp0 : p = 0
    · subst hp0
      have HLD := Lib.hid (show L = dg 10000 P from by have := HD.out; rw [dg_zero, List.append_nil] at this; exact this)
      have hVL := vl_dg (b := 10000) (by omega) P
      simp only [show ((10000 : Nat) : Int) = 10000 from rfl] at hVL
      have HVL := Lib.hid hVL
      have hM := dg_mem (b := 10000) (by omega) P
      have HM := Lib.hid hM
      clear hVL hM HD
      have c00 := hC.out.cell 0 0 rfl rfl
      have c01 := hC.out.cell 0 1 rfl rfl
      have f00 := hC.out.free 0 0 rfl
      have f01 := hC.out.free 0 1 rfl
      go_wp2_with fail
      refine (rmade_b (xs := L) HO.out (fun x hx => by have := HM.out x (by rw [← HLD.out]; exact hx); omega) (by rw [HLD.out, HVL.out]; omega) (by omega) (.inr (.inr rfl))).mono ?_
      rintro e w3 ⟨s3, a3, n3, c3, rfl, hz, hb⟩
      have hC3 := Lib.hid ((hC.out.call hb).pn hz)
      clear hz hb c00 c01 f00 f01 hC
      have c00 := hC3.out.cell 0 0 rfl rfl
      have c01 := hC3.out.cell 0 1 rfl rfl
      have f00 := hC3.out.free 0 0 rfl
      have f01 := hC3.out.free 0 1 rfl
      go_wp2
      refine ret_st (hC3.out.set 0 rfl |>.set 0 rfl) (v := .agg #[.int .i64 s3, .slice a3 n3 c3]) (fun hF => ?_) rfl (fun hF => ⟨s3, a3, n3, c3, rfl, ?_, hF.be⟩)
      · have e0 := hF.cell 0 0 rfl rfl
        have e1 := hF.cell 0 1 rfl rfl
        simp [results, Tryz.results36, go_sem, e0, e1]
      · have := hF.n 0 rfl
        rw [HLD.out, HVL.out] at this
        rwa [Int.neg_one_mul] at this
    · have HP0 := Lib.hid hp0
      have HPP := Lib.hid (show dg 10000 p = ((p % 10000 : Nat) : Int) :: dg 10000 (p / 10000) from dg_pos (by omega) (by omega))
      have hne : (-(p : Int) != 0) = true := by simp; omega
      have hq := (neg_tm p).2
      obtain ⟨R, hR⟩ : ∃ R : Nat, R = p % 10000 := ⟨_, rfl⟩
      have hr := (neg_tm p).1
      rw [← hR] at hr
      have HR := Lib.hid hR
      have hR1 : R < 10000 := by omega
      clear hp0 hR
      by_cases hR0 : R = 0
      · subst hR0
        have hr' : (-(p : Int)).tmod 10000 = 0 := by rw [hr]; rfl
        clear hr
        go_wp2_with (at_builtin; refine wpList_append_sl _ rfl _ _ 29 rfl 3 Tryz.underlying29 info_int _ _ rfl (HO.out.alloc _) _ _ rfl (Sl.one _ _ _) ?c3 ?_)
        case c3 => simp; omega
        intro a2 n2 c2 w2 ho2 hg2 hs2
        have hC2 := Lib.hid (hC.out.row.grown hg2 (fun j hj => ⟨by have := HOB.out j hj; omega, fun x hx => by rcases List.mem_singleton.1 hx with rfl; have := HOB.out j hj; show w.heap.size ≠ j; omega⟩))
        have HO2 := Lib.hid ho2
        have HB2 := Lib.hid (show ∀ j, Value.ownBlock (.slice a2 n2 c2) = some j → w.heap.size < j from fun j hj => by
          rcases hs2 j hj with h | h
          · exact HOB.out j h
          · have := hC.out.lt 0 rfl; have h3 : wr.heap.size ≤ j := Nat.le_trans (by simp) h; omega)
        clear ho2 hg2 hs2
        go_wp2
        go_roundg (p / 10000)
        case measure => have := HP0.out; omega
        case rel =>
          refine ⟨p / 10000, L ++ [((p % 10000 : Nat) : Int)], a2, n2, c2, rfl, rfl, rfl, by omega, ?_, by rw [List.length_append, List.length_singleton]; omega, by omega, ?_, HB2, hC2⟩
          · have := HD.out; rw [HPP.out] at this; unfold Hid; rw [← this]; simp
          · exact (by have := HO2.out; rw [← HR.out]; exact this)
      · have hRp : (-(R : Int)) < 0 := by omega
        go_wp2_with (at_builtin; refine wpList_append_sl _ rfl _ _ 29 rfl 3 Tryz.underlying29 info_int _ _ rfl (HO.out.alloc _) _ _ rfl (Sl.one _ _ _) ?c3 ?_)
        case c3 => simp; omega
        intro a2 n2 c2 w2 ho2 hg2 hs2
        have hC2 := Lib.hid (hC.out.row.grown hg2 (fun j hj => ⟨by have := HOB.out j hj; omega, fun x hx => by rcases List.mem_singleton.1 hx with rfl; have := HOB.out j hj; show w.heap.size ≠ j; omega⟩))
        have HO2 := Lib.hid ho2
        have HB2 := Lib.hid (show ∀ j, Value.ownBlock (.slice a2 n2 c2) = some j → w.heap.size < j from fun j hj => by
          rcases hs2 j hj with h | h
          · exact HOB.out j h
          · have := hC.out.lt 0 rfl; have h3 : wr.heap.size ≤ j := Nat.le_trans (by simp) h; omega)
        clear ho2 hg2 hs2
        go_wp2
        go_roundg (p / 10000)
        case measure => have := HP0.out; omega
        case rel =>
          refine ⟨p / 10000, L ++ [((p % 10000 : Nat) : Int)], a2, n2, c2, rfl, rfl, rfl, by omega, ?_, by rw [List.length_append, List.length_singleton]; omega, by omega, ?_, HB2, hC2⟩
          · have := HD.out; rw [HPP.out] at this; unfold Hid; rw [← this]; simp
          · exact (by have := HO2.out; rw [← HR.out]; exact this)

theorem zint_any (n : Int) (hn : -9223372036854775808 ≤ n ∧ n < 9223372036854775808) (w : World) : Calls Tryz.prog 36 #[.int .i64 n] w (RetN w n) := by
  by_cases h : 0 ≤ n
  · obtain ⟨P, rfl⟩ := Int.eq_ofNat_of_zero_le h
    exact zint_pos P (by omega) w
  · obtain ⟨P, hP⟩ := Int.eq_ofNat_of_zero_le (show 0 ≤ -n by omega)
    obtain rfl : n = -(P : Int) := by omega
    exact zint_neg P (by omega) w

end Go.Proofs.YtmfplelodnoicaaGreatDoor

/- texts: ParseZ, Text, Int64 -/
import Derived.Test.YtnimnoodpnhodaaDoorParse
namespace Go.Proofs.YtnimnoodpnhodaaDoor
open Go.RowKit Dig

/-- the result is the integer z, and an errno -/
def RetZE (w : World) (z : Int) (k : Int) (e : Ending) (w' : World) : Prop := ∃ a n c m, e = .returned (.tuple #[.agg #[.slice a n c, .bool m], .int .i64 k]) ∧ Zd w' (.slice a n c) m z ∧ Below w.heap.size w w'

theorem Zd.nil {w : World} : Zd w (.slice none 0 0) false 0 := ⟨by unfold Dg; rw [Int.natAbs_zero, dg_zero]; exact Sl.nil, by simp⟩

/-- what ParseZ answers -/
def zres (l : List UInt8) : Int × Int := if 1000 < l.length then (0, 5) else match Dec.zread l with | some z => (z, 0) | none => (0, 4)

theorem zread_eq (l : List UInt8) : Dec.zread l = if Dec.isDec (Lib.trimPrefix l [45]) then some (if Lib.hasPrefix l [45] = true then -((Dec.val (Lib.trimPrefix l [45]) : Nat) : Int) else ((Dec.val (Lib.trimPrefix l [45]) : Nat) : Int)) else none := by
  unfold Dec.zread
  split
  · rename_i r
    simp [Lib.trimPrefix, Lib.hasPrefix, List.isPrefixOf]
  · rename_i h
    have hp : Lib.hasPrefix l [45] = false := by
      unfold Lib.hasPrefix
      cases l with
      | nil => rfl
      | cons x r =>
        simp only [List.isPrefixOf, Bool.and_true, beq_eq_false_iff_ne, ne_eq]
        intro e
        exact h r (by rw [← e])
    simp [Lib.trimPrefix, hp]

theorem trimPrefix_len (l : List UInt8) : (Lib.trimPrefix l [45]).length ≤ l.length := by
  unfold Lib.trimPrefix; split
  · simp
  · exact Nat.le_refl _

set_option maxRecDepth 100000 in
set_option maxHeartbeats 1000000 in
theorem parseZ_any (s : ByteArray) (w : World) (hs : s.size ≤ 100000) :
    Calls Tryd.prog 4 #[.string s] w (RetZE w (zres s.data.toList).1 (zres s.data.toList).2) := by
  have hC := Lib.hid ((St.enter w).al w.heap.size #[.slice none 0 0, .bool false] 27 rfl rfl)
  have hsl : s.data.toList.length = s.size := by simp
  by_cases h1 : 1000 < s.size
  · have HR := Lib.hid (show zres s.data.toList = (0, 5) from by unfold zres; rw [if_pos (by rw [hsl]; exact h1)])
    clear hsl
    go_enter Tryd.func4, Tryd.ntmps4
    go_wp2
    refine ret_st hC.out (v := .tuple #[.agg #[.slice none 0 0, .bool false], .int .i64 5]) (fun hF => ?_) rfl (fun hF => ⟨none, 0, 0, false, by rw [HR.out], by rw [HR.out]; exact Zd.nil, hF.be⟩)
    have e0 := hF.cell 0 0 rfl rfl
    have e1 := hF.cell 0 1 rfl rfl
    simp [results, Tryd.results4, go_sem, e0, e1]
  · have HZ := Lib.hid (show zres s.data.toList = match Dec.zread s.data.toList with | some z => (z, 0) | none => (0, 4) from by unfold zres; rw [if_neg (by rw [hsl]; exact h1)])
    have HQ := Lib.hid (zread_eq s.data.toList)
    have hle := trimPrefix_len s.data.toList
    obtain ⟨T, hT⟩ : ∃ T : ByteArray, T = ⟨(Lib.trimPrefix s.data.toList [45]).toArray⟩ := ⟨_, rfl⟩
    have HT := Lib.hid hT
    have HTL := Lib.hid (show T.data.toList = Lib.trimPrefix s.data.toList [45] from by rw [hT])
    have HTS := Lib.hid (show T.size ≤ 1000 from by rw [hT]; show (Lib.trimPrefix s.data.toList [45]).toArray.size ≤ 1000; simp only [List.size_toArray]; omega)
    obtain ⟨m, hm⟩ : ∃ m : Bool, m = Lib.hasPrefix s.data.toList [45] := ⟨_, rfl⟩
    have HM := Lib.hid hm
    clear hsl hle hT hm
    go_enter Tryd.func4, Tryd.ntmps4
    go_wp2_with fail
    refine (Tryd.strings_CutPrefix s ⟨#[45]⟩ _).mono ?_
    rintro e w1 ⟨rfl, rfl⟩
    have e1 : (⟨(Lib.trimPrefix s.data.toList (⟨#[45]⟩ : ByteArray).data.toList).toArray⟩ : ByteArray) = T := HT.out.symm
    have e2 : Lib.hasPrefix s.data.toList (⟨#[45]⟩ : ByteArray).data.toList = m := HM.out.symm
    rw [e1, e2]
    clear e1 e2
    go_wp2_with fail
    refine (isDigits_any T _ (by have := HTS.out; omega)).mono ?_
    rintro e w2 ⟨rfl, hb⟩
    have hC2 := Lib.hid (hC.out.call hb)
    clear hC hb
    by_cases hd : Dec.isDec T.data.toList = true
    · have HD := Lib.hid hd
      rw [hd]
      clear hd
      have c0 := hC2.out.cell 0 0 rfl rfl
      have c1 := hC2.out.cell 0 1 rfl rfl
      have f0 := hC2.out.free 0 0 rfl
      have f1 := hC2.out.free 0 1 rfl
      go_wp2_with fail
      refine (read_any T _ (fun c hc => ?_) (by have := HTS.out; omega)).mono ?_
      · have := HD.out
        unfold Dec.isDec at this
        simp only [Bool.and_eq_true] at this
        exact List.all_eq_true.1 this.1.2 c hc
      rintro e w3 ⟨b1, k1, l1, rfl, hdd, hb⟩
      have hC3 := Lib.hid ((hC2.out.call hb).pd hdd)
      clear hb hdd c0 c1 f0 f1 hC2
      go_wp2_with fail
      refine (made_any m b1 k1 l1 _ _ (hC3.out.d 0 rfl) _ rfl).mono ?_
      rintro e w4 ⟨b2, k2, l2, m2, rfl, hz, hb⟩
      have hC4 := Lib.hid ((hC3.out.call hb).pz hz)
      clear hb hz hC3
      have c0 := hC4.out.cell 0 0 rfl rfl
      have c1 := hC4.out.cell 0 1 rfl rfl
      have f0 := hC4.out.free 0 0 rfl
      have f1 := hC4.out.free 0 1 rfl
      go_wp2
      refine ret_st (hC4.out.set 0 rfl |>.set 0 rfl) (v := .tuple #[.agg #[.slice b2 k2 l2, .bool m2], .int .i64 0]) (fun hF => ?_) rfl (fun hF => ⟨b2, k2, l2, m2, ?_, ?_, hF.be⟩)
      · have e0 := hF.cell 0 0 rfl rfl
        have e1 := hF.cell 0 1 rfl rfl
        simp [results, Tryd.results4, go_sem, e0, e1]
      · rw [HZ.out, HQ.out, ← HTL.out, ← HM.out, HD.out]; rfl
      · have := hF.z 1 rfl
        rw [HZ.out, HQ.out, ← HTL.out, ← HM.out, HD.out]; exact this
    · have hd' : Dec.isDec T.data.toList = false := by simpa using hd
      have HD := Lib.hid hd'
      rw [hd']
      clear hd hd'
      have c0 := hC2.out.cell 0 0 rfl rfl
      have c1 := hC2.out.cell 0 1 rfl rfl
      have f0 := hC2.out.free 0 0 rfl
      have f1 := hC2.out.free 0 1 rfl
      go_wp2
      refine ret_st (hC2.out.set 0 rfl |>.set 0 rfl) (v := .tuple #[.agg #[.slice none 0 0, .bool false], .int .i64 4]) (fun hF => ?_) rfl (fun hF => ⟨none, 0, 0, false, ?_, ?_, hF.be⟩)
      · have e0 := hF.cell 0 0 rfl rfl
        have e1 := hF.cell 0 1 rfl rfl
        simp [results, Tryd.results4, go_sem, e0, e1]
      · rw [HZ.out, HQ.out, ← HTL.out, ← HM.out, HD.out]; rfl
      · rw [HZ.out, HQ.out, ← HTL.out, ← HM.out, HD.out]; exact Zd.nil

theorem ret_str {a b : ByteArray} (h : a = b) : Ending.returned (.string a) = .returned (.string b) := by rw [h]
theorem ba_append (a b : List UInt8) : (⟨a.toArray⟩ : ByteArray) ++ ⟨b.toArray⟩ = ⟨(a ++ b).toArray⟩ := by
  apply ByteArray.ext; simp [ByteArray.data_append]
theorem dec_len_m (m : Nat) {k : Nat} {z : Int} (h : Bd k z) (hk : k ≤ m) : (Dec.dec z.natAbs).length ≤ m + 1 := by
  refine Dec.dec_len (Nat.lt_of_lt_of_le (h.mono hk) (Nat.le_trans (Nat.pow_le_pow_left (show 2 ≤ 10 by omega) _) (Nat.pow_le_pow_right (by omega) (by omega))))
theorem dec_len_bd {k : Nat} {z : Int} (h : Bd k z) (hk : k ≤ 1000000) : (Dec.dec z.natAbs).length ≤ 1000001 := dec_len_m 1000000 h hk
theorem ztext_len {k : Nat} {z : Int} (h : Bd k z) (hk : k ≤ 1000000) : (Dec.ztext z).length ≤ 1000002 := by
  have := dec_len_bd h hk
  unfold Dec.ztext
  split
  · rw [List.length_cons]; omega
  · omega

set_option maxRecDepth 100000 in
set_option maxHeartbeats 1000000 in
theorem ztext_any (a : Option Addr) (n c : Nat) (m : Bool) (z : Int) (w : World) (h : Zd w (.slice a n c) m z) (k : Nat) (hb : Bd k z) (hk : k ≤ 1000000) :
    Calls Tryd.prog 15 #[.agg #[.slice a n c, .bool m]] w fun e w' => e = .returned (.string ⟨(Dec.ztext z).toArray⟩) ∧ Below w.heap.size w w' := by
  have hC := Lib.hid (((St.enter w).pz h).al w.heap.size #[.slice a n c, .bool m] 27 rfl rfl)
  have HL := Lib.hid (hb.len hk)
  have hm := h.m
  have hlen := dec_len_bd hb hk
  clear h hb
  by_cases hz : z < 0
  · obtain rfl : m = true := by rw [hm]; simpa using hz
    have HT := Lib.hid (show Dec.ztext z = 45 :: Dec.dec z.natAbs from by unfold Dec.ztext; rw [if_pos hz])
    clear hm hz
    go_enter Tryd.func15, Tryd.ntmps15
    have c0 := hC.out.cell 0 0 rfl rfl
    go_wp2_with fail
    refine (text_any _ _ _ _ _ (hC.out.zd 0 rfl) HL.out).mono ?_
    rintro e w1 ⟨rfl, hb⟩
    have hC1 := Lib.hid (hC.out.call hb)
    clear hC hb c0
    go_wp2
    go_ret
    exact ⟨ret_str (by rw [HT.out]; exact ba_append [45] _), hC1.out.be⟩
  · obtain rfl : m = false := by rw [hm]; simpa using hz
    have HT := Lib.hid (show Dec.ztext z = Dec.dec z.natAbs from by unfold Dec.ztext; rw [if_neg hz])
    clear hm hz
    go_enter Tryd.func15, Tryd.ntmps15
    have c0 := hC.out.cell 0 0 rfl rfl
    go_wp2_with fail
    refine (text_any _ _ _ _ _ (hC.out.zd 0 rfl) HL.out).mono ?_
    rintro e w1 ⟨rfl, hb⟩
    have hC1 := Lib.hid (hC.out.call hb)
    clear hC hb c0
    go_wp2
    go_ret
    exact ⟨by rw [HT.out]; rfl, hC1.out.be⟩

/-- what Int64 answers -/
def i64res (z : Int) : Int × Bool := if -9223372036854775808 ≤ z ∧ z ≤ 9223372036854775807 then (z, true) else (0, false)
theorem sgn_neg {z : Int} (h : z < 0) : sgn z = -1 := by unfold sgn; rw [if_neg (by omega), if_pos h]
theorem sgn_nonneg {z : Int} (h : 0 ≤ z) : 0 ≤ sgn z := by unfold sgn; split; omega; split <;> omega
theorem sgn_pos {z : Int} (h : 0 < z) : sgn z = 1 := by unfold sgn; rw [if_neg (by omega), if_neg (by omega)]
theorem sgn_nonpos {z : Int} (h : z ≤ 0) : sgn z ≤ 0 := by unfold sgn; split; omega; split <;> omega

set_option maxRecDepth 100000 in
set_option maxHeartbeats 2000000 in
theorem int64_any (a : Option Addr) (n c : Nat) (m : Bool) (z : Int) (w : World) (h : Zd w (.slice a n c) m z) (k : Nat) (hb : Bd k z) (hk : k ≤ 1000000) :
    Calls Tryd.prog 24 #[.agg #[.slice a n c, .bool m]] w fun e w' => e = .returned (.tuple #[.int .i64 (i64res z).1, .bool (i64res z).2]) ∧ Below w.heap.size w w' := by
  have hC := Lib.hid (((St.enter w).pz h).al w.heap.size #[.slice a n c, .bool m] 27 rfl rfl)
  have HL := Lib.hid (Nat.le_trans (hb.len hk) (show 50000 ≤ 10000000 by omega))
  have HLm := Lib.hid (Nat.le_trans ((Bd.i64 (k := -9223372036854775808) (by omega)).len (by omega)) (show 50000 ≤ 10000000 by omega))
  have HLx := Lib.hid (Nat.le_trans ((Bd.i64 (k := 9223372036854775807) (by omega)).len (by omega)) (show 50000 ≤ 10000000 by omega))
  have HM := Lib.hid h.m
  clear h hb
  by_cases h1 : z < -9223372036854775808
  · have V1 := Lib.hid (sgn_neg (z := z - -9223372036854775808) (by omega))
    have HR := Lib.hid (show i64res z = (0, false) from by unfold i64res; rw [if_neg (by omega)])
    clear h1
    go_enter Tryd.func24, Tryd.ntmps24
    have x0 := hC.out.cell 0 0 rfl rfl
    have x1 := hC.out.cell 0 1 rfl rfl
    go_wp2
    go_region_with (first
      | (go_at_call 23; refine (cmp_any _ _ _ _ _ _ _ _ _ _ _ (hCa.out.z 0 rfl) (hCa.out.z 1 rfl) HL.out HLm.out).mono ?_; rintro e wb ⟨rfl, hb⟩; have hCb := Lib.hid (hCa.out.call hb); clear hb; rw [V1.out])
      | (go_at_call 11; refine (int_any (-9223372036854775808) (by omega) _).mono ?_; rintro e wa ⟨ba, ka, la, ma, rfl, hza, hb⟩; have hCa := Lib.hid ((hC.out.drew.call hb).pz hza); clear hza hb; have y0 := hCa.out.cell 0 0 rfl rfl; have y1 := hCa.out.cell 0 1 rfl rfl))
    all_goals
      go_wp2
      go_ret2
      exact ⟨by rw [HR.out]; rfl, hCb.out.be⟩
  · obtain ⟨v, hv⟩ : ∃ v : Int, sgn (z - -9223372036854775808) = v := ⟨_, rfl⟩
    have d1 : decide (v < 0) = false := by have := sgn_nonneg (z := z - -9223372036854775808) (by omega); simp; omega
    have V1 := Lib.hid hv
    clear hv
    by_cases h2 : 9223372036854775807 < z
    · have V2 := Lib.hid (sgn_pos (z := z - 9223372036854775807) (by omega))
      have HR := Lib.hid (show i64res z = (0, false) from by unfold i64res; rw [if_neg (by omega)])
      clear h1 h2
      go_enter Tryd.func24, Tryd.ntmps24
      go_wp2
      go_region_held3 (fun w' => w'.cell? ⟨w.heap.size, 0, none⟩ = some (.slice a n c) ∧ w'.cell? ⟨w.heap.size, 1, none⟩ = some (.bool m) ∧ True)
        (first
          | (with_reducible refine And.intro (?_ : World.cell? wd _ = _) ?_; exact hCd.out.cell 0 0 rfl rfl; exact ⟨hCd.out.cell 0 1 rfl rfl, trivial⟩)
          | (with_reducible refine And.intro (?_ : World.cell? wc _ = _) ?_; exact hCc.out.cell 0 0 rfl rfl; exact ⟨hCc.out.cell 0 1 rfl rfl, trivial⟩)
          | (with_reducible refine And.intro (?_ : World.cell? wb _ = _) ?_; exact hCb.out.cell 0 0 rfl rfl; exact ⟨hCb.out.cell 0 1 rfl rfl, trivial⟩)
          | (with_reducible refine And.intro (?_ : World.cell? wa _ = _) ?_; exact hCa.out.cell 0 0 rfl rfl; exact ⟨hCa.out.cell 0 1 rfl rfl, trivial⟩)
          | (with_reducible refine And.intro (?_ : World.cell? _ _ = _) ?_; exact hC.out.drew.cell 0 0 rfl rfl; exact ⟨hC.out.drew.cell 0 1 rfl rfl, trivial⟩))
        (first
          | (have _t := hCc; go_at_call 23; refine (cmp_any _ _ _ _ _ _ _ _ _ _ _ (hCc.out.z 0 rfl) (hCc.out.z 2 rfl) HL.out HLx.out).mono ?_; rintro e wd ⟨rfl, hb⟩; have hCd := Lib.hid (hCc.out.call hb); clear hb; rw [V2.out]; clear _t hCc)
          | (have _t := hCb; go_at_call 11; refine (int_any 9223372036854775807 (by omega) _).mono ?_; rintro e wc ⟨bc, kc, lc, mc, rfl, hzc, hb⟩; have hCc := Lib.hid ((hCb.out.call hb).pz hzc); clear hzc hb; clear _t hCb)
          | (have _t := hCa; go_at_call 23; refine (cmp_any _ _ _ _ _ _ _ _ _ _ _ (hCa.out.z 0 rfl) (hCa.out.z 1 rfl) HL.out HLm.out).mono ?_; rintro e wb ⟨rfl, hb⟩; have hCb := Lib.hid (hCa.out.call hb); clear hb; rw [V1.out]; clear _t hCa)
          | (have _t := hC; go_at_call 11; refine (int_any (-9223372036854775808) (by omega) _).mono ?_; rintro e wa ⟨ba, ka, la, ma, rfl, hza, hb⟩; have hCa := Lib.hid ((hC.out.drew.call hb).pz hza); clear hza hb; clear _t hC))
      go_wp2
      go_ret2
      exact ⟨by rw [HR.out]; rfl, hCd.out.be⟩
    · obtain ⟨v2, hv2⟩ : ∃ v : Int, sgn (z - 9223372036854775807) = v := ⟨_, rfl⟩
      have d2 : decide (0 < v2) = false := by have := sgn_nonpos (z := z - 9223372036854775807) (by omega); simp; omega
      have V2 := Lib.hid hv2
      clear hv2
      have HR := Lib.hid (show i64res z = (z, true) from by unfold i64res; rw [if_pos (by omega)])
      have HB := Lib.hid (show z.natAbs < 18446744073709551616 by omega)
      obtain ⟨u, hu⟩ : ∃ u : Int, IntKind.i64.wrap ((z.natAbs : Nat) : Int) = u := ⟨_, rfl⟩
      have HU := Lib.hid (show if m then IntKind.i64.wrap (-u) = z else u = z from by
        have hm := HM.out
        rw [IntKind.wrap_i64] at hu
        cases m
        · have : ¬ z < 0 := by simpa using hm.symm
          simp only [Bool.false_eq_true, if_false]; omega
        · have : z < 0 := by simpa using hm.symm
          simp only [if_true]
          rw [IntKind.wrap_i64]; omega)
      clear h1 h2
      go_enter Tryd.func24, Tryd.ntmps24
      go_wp2
      go_region_held3 (fun w' => w'.cell? ⟨w.heap.size, 0, none⟩ = some (.slice a n c) ∧ w'.cell? ⟨w.heap.size, 1, none⟩ = some (.bool m) ∧ True)
        (first
          | (with_reducible refine And.intro (?_ : World.cell? wd _ = _) ?_; exact hCd.out.cell 0 0 rfl rfl; exact ⟨hCd.out.cell 0 1 rfl rfl, trivial⟩)
          | (with_reducible refine And.intro (?_ : World.cell? wc _ = _) ?_; exact hCc.out.cell 0 0 rfl rfl; exact ⟨hCc.out.cell 0 1 rfl rfl, trivial⟩)
          | (with_reducible refine And.intro (?_ : World.cell? wb _ = _) ?_; exact hCb.out.cell 0 0 rfl rfl; exact ⟨hCb.out.cell 0 1 rfl rfl, trivial⟩)
          | (with_reducible refine And.intro (?_ : World.cell? wa _ = _) ?_; exact hCa.out.cell 0 0 rfl rfl; exact ⟨hCa.out.cell 0 1 rfl rfl, trivial⟩)
          | (with_reducible refine And.intro (?_ : World.cell? _ _ = _) ?_; exact hC.out.drew.cell 0 0 rfl rfl; exact ⟨hC.out.drew.cell 0 1 rfl rfl, trivial⟩))
        (first
          | (have _t := hCc; go_at_call 23; refine (cmp_any _ _ _ _ _ _ _ _ _ _ _ (hCc.out.z 0 rfl) (hCc.out.z 2 rfl) HL.out HLx.out).mono ?_; rintro e wd ⟨rfl, hb⟩; have hCd := Lib.hid (hCc.out.call hb); clear hb; rw [V2.out]; clear _t hCc)
          | (have _t := hCb; go_at_call 11; refine (int_any 9223372036854775807 (by omega) _).mono ?_; rintro e wc ⟨bc, kc, lc, mc, rfl, hzc, hb⟩; have hCc := Lib.hid ((hCb.out.call hb).pz hzc); clear hzc hb; clear _t hCb)
          | (have _t := hCa; go_at_call 23; refine (cmp_any _ _ _ _ _ _ _ _ _ _ _ (hCa.out.z 0 rfl) (hCa.out.z 1 rfl) HL.out HLm.out).mono ?_; rintro e wb ⟨rfl, hb⟩; have hCb := Lib.hid (hCa.out.call hb); clear hb; rw [V1.out]; clear _t hCa)
          | (have _t := hC; go_at_call 11; refine (int_any (-9223372036854775808) (by omega) _).mono ?_; rintro e wa ⟨ba, ka, la, ma, rfl, hza, hb⟩; have hCa := Lib.hid ((hC.out.drew.call hb).pz hza); clear hza hb; clear _t hC))
      have x0 := hCd.out.cell 0 0 rfl rfl
      have x1 := hCd.out.cell 0 1 rfl rfl
      go_wp2_with fail
      refine (dword_any _ _ _ _ _ (hCd.out.zd 0 rfl) HB.out).mono ?_
      rintro e we ⟨rfl, hb⟩
      have hCe := Lib.hid (hCd.out.call hb)
      clear hb x0 x1
      have x1 := hCe.out.cell 0 1 rfl rfl
      cases m
      · go_wp2
        go_ret2
        exact ⟨by rw [HR.out]; have := HU.out; simp only [Bool.false_eq_true, if_false] at this; rw [← this]; rfl, hCe.out.be⟩
      · have hu2 : IntKind.i64.wrap (-u) = z := by have := HU.out; simpa using this
        go_wp2
        go_ret2
        exact ⟨by rw [HR.out]; rfl, hCe.out.be⟩

end Go.Proofs.YtnimnoodpnhodaaDoor

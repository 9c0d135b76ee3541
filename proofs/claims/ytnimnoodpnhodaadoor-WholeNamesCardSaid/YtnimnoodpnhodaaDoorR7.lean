/- ratios: Parse -/
import Derived.Test.YtnimnoodpnhodaaDoorR4
import Derived.Test.YtnimnoodpnhodaaDoorCut
namespace Go.Proofs.YtnimnoodpnhodaaDoor
open Go.RowKit Dig

theorem ext_take (s : ByteArray) (k : Nat) : (s.extract 0 k).data.toList = s.data.toList.take k := by
  rw [ByteArray.data_extract, Array.toList_extract]
  simp [List.extract_eq_take_drop]
theorem parseZ_some (s : ByteArray) (w : World) (hs : s.size ≤ 1000) {z : Int} (hz : Dec.zread s.data.toList = some z) : Calls Tryd.prog 4 #[.string s] w (RetZE w z 0) := by
  have := parseZ_any s w (by omega)
  unfold zres at this
  rw [if_neg (by simp; omega), hz] at this
  exact this
theorem parseZ_none (s : ByteArray) (w : World) (hs : s.size ≤ 1000) (hz : Dec.zread s.data.toList = none) : Calls Tryd.prog 4 #[.string s] w (RetZE w 0 4) := by
  have := parseZ_any s w (by omega)
  unfold zres at this
  rw [if_neg (by simp; omega), hz] at this
  exact this
theorem isDec_all {l : List UInt8} (h : Dec.isDec l = true) : ∀ c ∈ l, Dec.isDig c = true := by
  unfold Dec.isDec at h
  simp only [Bool.and_eq_true] at h
  exact fun c hc => List.all_eq_true.1 h.1.2 c hc

/-- the ratio of a text, and the errno -/
def rparse (l : List UInt8) : Rat × Int :=
  if 1000 < l.length then (0, 5) else
  if Lib.indexByte l 47 < 0 then match Dec.zread l with | some z => ((z : Rat), 0) | none => (0, 4)
  else match Dec.zread (l.take (Lib.indexByte l 47).toNat) with
    | none => (0, 4)
    | some z => if Dec.isDec (l.drop ((Lib.indexByte l 47).toNat + 1)) = true then (Rat.divInt z (Dec.val (l.drop ((Lib.indexByte l 47).toNat + 1)) : Nat), ofzE (Dec.val (l.drop ((Lib.indexByte l 47).toNat + 1)) : Nat)) else (0, 4)

theorem val_bd_m (m : Nat) {l : List UInt8} (h : ∀ c ∈ l, Dec.isDig c = true) (hl : l.length ≤ m) : Bd (4 * m) ((Dec.val l : Nat) : Int) := by
  unfold Bd
  rw [Int.natAbs_natCast]
  have h1 := Dec.val_lt h
  refine Nat.lt_of_lt_of_le h1 (Nat.le_trans (Nat.pow_le_pow_right (by omega) hl) ?_)
  rw [Nat.pow_mul]
  exact Nat.pow_le_pow_left (by omega) _
theorem val_bd {l : List UInt8} (h : ∀ c ∈ l, Dec.isDig c = true) (hl : l.length ≤ 1000) : Bd 4000 ((Dec.val l : Nat) : Int) := (val_bd_m 1000 h hl).mono (by omega)
theorem zread_bd {l : List UInt8} {z : Int} (h : Dec.zread l = some z) (hl : l.length ≤ 1000) : Bd 4000 z := by
  rw [zread_eq] at h
  split at h
  · rename_i hd
    have := val_bd (isDec_all hd) (Nat.le_trans (trimPrefix_len l) hl)
    simp only [Option.some.injEq] at h
    rw [← h]
    split
    · exact this.neg
    · exact this
  · exact absurd h (by simp)

set_option maxRecDepth 100000 in
set_option maxHeartbeats 2000000 in
theorem rparse_long (s : ByteArray) (w : World) (hs : 1000 < s.size) (hm : s.size ≤ 100000) : Calls Tryd.prog 5 #[.string s] w (RetRE w (0) (5)) := by
  have hC := Lib.hid ((St.enter w).al (w.heap.size) #[.slice none 0 0, .bool false, .slice none 0 0] 32 rfl rfl)
  go_enter Tryd.func5, Tryd.ntmps5
  go_wp2
  refine ret_st hC.out (v := .tuple #[.agg #[.slice none 0 0, .bool false, .slice none 0 0], .int .i64 5]) (fun hF => ?_) rfl (fun hF => ⟨_, _, _, _, _, _, _, rfl, Rd.nil, hF.be⟩)
  · have e0 := hF.cell 0 0 rfl rfl
    have e1 := hF.cell 0 1 rfl rfl
    have e2 := hF.cell 0 2 rfl rfl
    simp [results, Tryd.results5, go_sem, e0, e1, e2]

set_option maxRecDepth 100000 in
set_option maxHeartbeats 2000000 in
theorem rparse_int (s : ByteArray) (w : World) (hs : s.size ≤ 1000) (hi : Lib.indexByte s.data.toList 47 < 0) (z : Int) (hz : Dec.zread s.data.toList = some z) : Calls Tryd.prog 5 #[.string s] w (RetRE w ((z : Rat)) (0)) := by
  have HI := Lib.hid hi
  have HZT := Lib.hid hz
  clear hi hz
  have hC := Lib.hid ((St.enter w).al (w.heap.size) #[.slice none 0 0, .bool false, .slice none 0 0] 32 rfl rfl)
  go_enter Tryd.func5, Tryd.ntmps5
  go_wp2_with fail
  refine (cut_no s _ HI.out).mono ?_
  rintro e w1 ⟨rfl, hb⟩
  have hC1 := Lib.hid (hC.out.call hb)
  clear hC hb
  go_wp2_with fail
  refine (parseZ_some s _ hs HZT.out).mono ?_
  rintro e w2 ⟨a3, n3, c3, m3, rfl, hz, hb⟩
  have hC2 := Lib.hid (((hC1.out.call hb).pz hz).al w2.heap.size #[.slice a3 n3 c3, .bool m3] 27 rfl rfl)
  clear hC1 hz hb
  have hC2_c10 := hC2.out.cell 1 0 rfl rfl
  have hC2_f10 := hC2.out.free 1 0 rfl
  have hC2_c11 := hC2.out.cell 1 1 rfl rfl
  have hC2_f11 := hC2.out.free 1 1 rfl
  go_wp2_with fail
  refine (whole_any _ _ _ _ _ _ (hC2.out.z 0 rfl)).mono ?_
  rintro e w4 ⟨a4, n4, c4, m4, d4, e4, f4, rfl, hz, hb⟩
  have hC4 := Lib.hid ((hC2.out.call hb).pr hz)
  clear hb hz
  have hC4_c00 := hC4.out.cell 0 0 rfl rfl
  have hC4_f00 := hC4.out.free 0 0 rfl
  have hC4_c01 := hC4.out.cell 0 1 rfl rfl
  have hC4_f01 := hC4.out.free 0 1 rfl
  have hC4_c02 := hC4.out.cell 0 2 rfl rfl
  have hC4_f02 := hC4.out.free 0 2 rfl
  clear hC2
  go_wp2
  refine ret_st (hC4.out |>.set 0 rfl |>.set 0 rfl |>.set 0 rfl) (v := .tuple #[.agg #[.slice a4 n4 c4, .bool m4, .slice d4 e4 f4], .int .i64 0]) (fun hF => ?_) rfl (fun hF => ⟨_, _, _, _, _, _, _, rfl, hF.r 1 rfl, hF.be⟩)
  · have e0 := hF.cell 0 0 rfl rfl
    have e1 := hF.cell 0 1 rfl rfl
    have e2 := hF.cell 0 2 rfl rfl
    simp [results, Tryd.results5, go_sem, e0, e1, e2]

set_option maxRecDepth 100000 in
set_option maxHeartbeats 2000000 in
theorem rparse_intbad (s : ByteArray) (w : World) (hs : s.size ≤ 1000) (hi : Lib.indexByte s.data.toList 47 < 0) (hz : Dec.zread s.data.toList = none) : Calls Tryd.prog 5 #[.string s] w (RetRE w (0) (4)) := by
  have HI := Lib.hid hi
  have HZT := Lib.hid hz
  clear hi hz
  have hC := Lib.hid ((St.enter w).al (w.heap.size) #[.slice none 0 0, .bool false, .slice none 0 0] 32 rfl rfl)
  go_enter Tryd.func5, Tryd.ntmps5
  go_wp2_with fail
  refine (cut_no s _ HI.out).mono ?_
  rintro e w1 ⟨rfl, hb⟩
  have hC1 := Lib.hid (hC.out.call hb)
  clear hC hb
  go_wp2_with fail
  refine (parseZ_none s _ hs HZT.out).mono ?_
  rintro e w2 ⟨a3, n3, c3, m3, rfl, hz, hb⟩
  have hC2 := Lib.hid (((hC1.out.call hb).pz hz).al w2.heap.size #[.slice a3 n3 c3, .bool m3] 27 rfl rfl)
  clear hC1 hz hb
  have hC2_c00 := hC2.out.cell 0 0 rfl rfl
  have hC2_f00 := hC2.out.free 0 0 rfl
  have hC2_c01 := hC2.out.cell 0 1 rfl rfl
  have hC2_f01 := hC2.out.free 0 1 rfl
  have hC2_c02 := hC2.out.cell 0 2 rfl rfl
  have hC2_f02 := hC2.out.free 0 2 rfl
  go_wp2
  refine ret_st (hC2.out |>.set 0 rfl |>.set 0 rfl |>.set 0 rfl) (v := .tuple #[.agg #[.slice none 0 0, .bool false, .slice none 0 0], .int .i64 4]) (fun hF => ?_) rfl (fun hF => ⟨_, _, _, _, _, _, _, rfl, Rd.nil, hF.be⟩)
  · have e0 := hF.cell 0 0 rfl rfl
    have e1 := hF.cell 0 1 rfl rfl
    have e2 := hF.cell 0 2 rfl rfl
    simp [results, Tryd.results5, go_sem, e0, e1, e2]

set_option maxRecDepth 100000 in
set_option maxHeartbeats 2000000 in
theorem rparse_topbad (s : ByteArray) (w : World) (hs : s.size ≤ 1000) (k : Nat) (hi : Lib.indexByte s.data.toList 47 = (k : Int)) (hk : k < s.size) (hz : Dec.zread (s.data.toList.take k) = none) : Calls Tryd.prog 5 #[.string s] w (RetRE w (0) (4)) := by
  have HI := Lib.hid hi
  have HK := Lib.hid hk
  obtain ⟨T, hT⟩ : ∃ T : ByteArray, T = s.extract 0 k := ⟨_, rfl⟩
  obtain ⟨U, hU⟩ : ∃ U : ByteArray, U = s.extract (k + 1) s.size := ⟨_, rfl⟩
  have HT := Lib.hid hT
  have HU := Lib.hid hU
  have HTL := Lib.hid (show T.data.toList = s.data.toList.take k from by rw [hT]; exact ext_take s k)
  have HUL := Lib.hid (show U.data.toList = s.data.toList.drop (k + 1) from by rw [hU]; exact Lib.extract_to_end s (k + 1))
  have HTS := Lib.hid (show T.size ≤ 1000 from by have := congrArg List.length HTL.out; simp at this; omega)
  have HUS := Lib.hid (show U.size ≤ 1000 from by have := congrArg List.length HUL.out; simp at this; omega)
  have HZT := Lib.hid (show Dec.zread T.data.toList = none from by rw [HTL.out]; exact hz)
  clear hi hk hz hT hU
  have hC := Lib.hid ((St.enter w).al (w.heap.size) #[.slice none 0 0, .bool false, .slice none 0 0] 32 rfl rfl)
  go_enter Tryd.func5, Tryd.ntmps5
  go_wp2_with fail
  refine (cut_at s k _ HI.out HK.out (by omega)).mono ?_
  rintro e w1 ⟨rfl, hb⟩
  have hC1 := Lib.hid (hC.out.call hb)
  clear hC hb
  rw [← HT.out, ← HU.out]
  go_wp2_with fail
  refine (parseZ_none T _ HTS.out HZT.out).mono ?_
  rintro e w2 ⟨a3, n3, c3, m3, rfl, hz, hb⟩
  have hC2 := Lib.hid (((hC1.out.call hb).pz hz).al w2.heap.size #[.slice a3 n3 c3, .bool m3] 27 rfl rfl)
  clear hC1 hz hb
  have hC2_c00 := hC2.out.cell 0 0 rfl rfl
  have hC2_f00 := hC2.out.free 0 0 rfl
  have hC2_c01 := hC2.out.cell 0 1 rfl rfl
  have hC2_f01 := hC2.out.free 0 1 rfl
  have hC2_c02 := hC2.out.cell 0 2 rfl rfl
  have hC2_f02 := hC2.out.free 0 2 rfl
  go_wp2
  refine ret_st (hC2.out |>.set 0 rfl |>.set 0 rfl |>.set 0 rfl) (v := .tuple #[.agg #[.slice none 0 0, .bool false, .slice none 0 0], .int .i64 4]) (fun hF => ?_) rfl (fun hF => ⟨_, _, _, _, _, _, _, rfl, Rd.nil, hF.be⟩)
  · have e0 := hF.cell 0 0 rfl rfl
    have e1 := hF.cell 0 1 rfl rfl
    have e2 := hF.cell 0 2 rfl rfl
    simp [results, Tryd.results5, go_sem, e0, e1, e2]

set_option maxRecDepth 100000 in
set_option maxHeartbeats 2000000 in
theorem rparse_botbad (s : ByteArray) (w : World) (hs : s.size ≤ 1000) (k : Nat) (hi : Lib.indexByte s.data.toList 47 = (k : Int)) (hk : k < s.size) (z : Int) (hz : Dec.zread (s.data.toList.take k) = some z) (hd : Dec.isDec (s.data.toList.drop (k + 1)) = false) : Calls Tryd.prog 5 #[.string s] w (RetRE w (0) (4)) := by
  have HD := Lib.hid hd
  clear hd
  have HI := Lib.hid hi
  have HK := Lib.hid hk
  obtain ⟨T, hT⟩ : ∃ T : ByteArray, T = s.extract 0 k := ⟨_, rfl⟩
  obtain ⟨U, hU⟩ : ∃ U : ByteArray, U = s.extract (k + 1) s.size := ⟨_, rfl⟩
  have HT := Lib.hid hT
  have HU := Lib.hid hU
  have HTL := Lib.hid (show T.data.toList = s.data.toList.take k from by rw [hT]; exact ext_take s k)
  have HUL := Lib.hid (show U.data.toList = s.data.toList.drop (k + 1) from by rw [hU]; exact Lib.extract_to_end s (k + 1))
  have HTS := Lib.hid (show T.size ≤ 1000 from by have := congrArg List.length HTL.out; simp at this; omega)
  have HUS := Lib.hid (show U.size ≤ 1000 from by have := congrArg List.length HUL.out; simp at this; omega)
  have HZT := Lib.hid (show Dec.zread T.data.toList = some z from by rw [HTL.out]; exact hz)
  clear hi hk hz hT hU
  have hC := Lib.hid ((St.enter w).al (w.heap.size) #[.slice none 0 0, .bool false, .slice none 0 0] 32 rfl rfl)
  go_enter Tryd.func5, Tryd.ntmps5
  go_wp2_with fail
  refine (cut_at s k _ HI.out HK.out (by omega)).mono ?_
  rintro e w1 ⟨rfl, hb⟩
  have hC1 := Lib.hid (hC.out.call hb)
  clear hC hb
  rw [← HT.out, ← HU.out]
  go_wp2_with fail
  refine (parseZ_some T _ HTS.out HZT.out).mono ?_
  rintro e w2 ⟨a3, n3, c3, m3, rfl, hz, hb⟩
  have hC2 := Lib.hid (((hC1.out.call hb).pz hz).al w2.heap.size #[.slice a3 n3 c3, .bool m3] 27 rfl rfl)
  clear hC1 hz hb
  go_wp2_with fail
  refine (isDigits_any U _ (by have := HUS.out; omega)).mono ?_
  rintro e w3 ⟨rfl, hb⟩
  have hC3 := Lib.hid (hC2.out.call hb)
  clear hC2 hb
  rw [HUL.out, HD.out]
  have hC3_c00 := hC3.out.cell 0 0 rfl rfl
  have hC3_f00 := hC3.out.free 0 0 rfl
  have hC3_c01 := hC3.out.cell 0 1 rfl rfl
  have hC3_f01 := hC3.out.free 0 1 rfl
  have hC3_c02 := hC3.out.cell 0 2 rfl rfl
  have hC3_f02 := hC3.out.free 0 2 rfl
  go_wp2
  refine ret_st (hC3.out |>.set 0 rfl |>.set 0 rfl |>.set 0 rfl) (v := .tuple #[.agg #[.slice none 0 0, .bool false, .slice none 0 0], .int .i64 4]) (fun hF => ?_) rfl (fun hF => ⟨_, _, _, _, _, _, _, rfl, Rd.nil, hF.be⟩)
  · have e0 := hF.cell 0 0 rfl rfl
    have e1 := hF.cell 0 1 rfl rfl
    have e2 := hF.cell 0 2 rfl rfl
    simp [results, Tryd.results5, go_sem, e0, e1, e2]

set_option maxRecDepth 100000 in
set_option maxHeartbeats 2000000 in
theorem rparse_frac (s : ByteArray) (w : World) (hs : s.size ≤ 1000) (k : Nat) (hi : Lib.indexByte s.data.toList 47 = (k : Int)) (hk : k < s.size) (z : Int) (hz : Dec.zread (s.data.toList.take k) = some z) (hd : Dec.isDec (s.data.toList.drop (k + 1)) = true) : Calls Tryd.prog 5 #[.string s] w (RetRE w (Rat.divInt z (Dec.val (s.data.toList.drop (k + 1)) : Nat)) (ofzE (Dec.val (s.data.toList.drop (k + 1)) : Nat))) := by
  have HD := Lib.hid hd
  have HBZ := Lib.hid (zread_bd hz (by simp; omega))
  have HBV := Lib.hid (val_bd (isDec_all hd) (by simp; omega))
  obtain ⟨V, hV⟩ : ∃ V : Nat, Dec.val (s.data.toList.drop (k + 1)) = V := ⟨_, rfl⟩
  have HV := Lib.hid hV
  rw [hV] at HBV ⊢
  clear hd hV
  have HI := Lib.hid hi
  have HK := Lib.hid hk
  obtain ⟨T, hT⟩ : ∃ T : ByteArray, T = s.extract 0 k := ⟨_, rfl⟩
  obtain ⟨U, hU⟩ : ∃ U : ByteArray, U = s.extract (k + 1) s.size := ⟨_, rfl⟩
  have HT := Lib.hid hT
  have HU := Lib.hid hU
  have HTL := Lib.hid (show T.data.toList = s.data.toList.take k from by rw [hT]; exact ext_take s k)
  have HUL := Lib.hid (show U.data.toList = s.data.toList.drop (k + 1) from by rw [hU]; exact Lib.extract_to_end s (k + 1))
  have HTS := Lib.hid (show T.size ≤ 1000 from by have := congrArg List.length HTL.out; simp at this; omega)
  have HUS := Lib.hid (show U.size ≤ 1000 from by have := congrArg List.length HUL.out; simp at this; omega)
  have HZT := Lib.hid (show Dec.zread T.data.toList = some z from by rw [HTL.out]; exact hz)
  clear hi hk hz hT hU
  have hC := Lib.hid ((St.enter w).al (w.heap.size) #[.slice none 0 0, .bool false, .slice none 0 0] 32 rfl rfl)
  go_enter Tryd.func5, Tryd.ntmps5
  go_wp2_with fail
  refine (cut_at s k _ HI.out HK.out (by omega)).mono ?_
  rintro e w1 ⟨rfl, hb⟩
  have hC1 := Lib.hid (hC.out.call hb)
  clear hC hb
  rw [← HT.out, ← HU.out]
  go_wp2_with fail
  refine (parseZ_some T _ HTS.out HZT.out).mono ?_
  rintro e w2 ⟨a3, n3, c3, m3, rfl, hz, hb⟩
  have hC2 := Lib.hid (((hC1.out.call hb).pz hz).al w2.heap.size #[.slice a3 n3 c3, .bool m3] 27 rfl rfl)
  clear hC1 hz hb
  go_wp2_with fail
  refine (isDigits_any U _ (by have := HUS.out; omega)).mono ?_
  rintro e w3 ⟨rfl, hb⟩
  have hC3 := Lib.hid (hC2.out.call hb)
  clear hC2 hb
  rw [HUL.out, HD.out]
  go_wp2
  go_region_held3 (fun w' => w'.cell? ⟨w2.heap.size, 0, none⟩ = some (.slice a3 n3 c3) ∧ w'.cell? ⟨w2.heap.size, 1, none⟩ = some (.bool m3) ∧ True)
    (first
      | (with_reducible refine And.intro (?_ : World.cell? (World.setCell (World.setCell (World.setCell w5 _ _) _ _) _ _) _ = _) ?_; exact (hC5.out |>.set 0 rfl |>.set 0 rfl |>.set 0 rfl).cell 1 0 rfl rfl; exact ⟨(hC5.out |>.set 0 rfl |>.set 0 rfl |>.set 0 rfl).cell 1 1 rfl rfl, trivial⟩)
      | (with_reducible refine And.intro (?_ : World.cell? w5 _ = _) ?_; exact hC5.out.cell 1 0 rfl rfl; exact ⟨hC5.out.cell 1 1 rfl rfl, trivial⟩)
      | (with_reducible refine And.intro (?_ : World.cell? w4 _ = _) ?_; exact hC4.out.cell 1 0 rfl rfl; exact ⟨hC4.out.cell 1 1 rfl rfl, trivial⟩)
      | (with_reducible refine And.intro (?_ : World.cell? _ _ = _) ?_; exact hC3.out.drew.cell 1 0 rfl rfl; exact ⟨hC3.out.drew.cell 1 1 rfl rfl, trivial⟩))
    (first
      | (have _t := hC4; go_at_call 34; refine (ofz_b (hC4.out.z 0 rfl) (show Zd w4 (.slice a4 n4 c4) false (V : Int) from ⟨by rw [Int.natAbs_natCast]; exact hC4.out.d 1 rfl, by simp⟩) HBZ.out HBV.out (by omega) (by omega)).mono ?_; rintro e w5 ⟨a5, n5, c5, m5, d5, e5, f5, rfl, hz, hb⟩; have hC5 := Lib.hid ((hC4.out.call hb).pr hz); clear hz hb; have hC5_c00 := hC5.out.cell 0 0 rfl rfl; have hC5_f00 := hC5.out.free 0 0 rfl; have hC5_c01 := hC5.out.cell 0 1 rfl rfl; have hC5_f01 := hC5.out.free 0 1 rfl; have hC5_c02 := hC5.out.cell 0 2 rfl rfl; have hC5_f02 := hC5.out.free 0 2 rfl; clear _t hC4)
      | (have _t := hC3; go_at_call 31; refine (read_any U _ (by rw [HUL.out]; exact isDec_all HD.out) (by have := HUS.out; omega)).mono ?_; rintro e w4 ⟨a4, n4, c4, rfl, hz, hb⟩; have hC4 := Lib.hid ((hC3.out.drew.call hb).pd (show Dg _ _ V from by rw [HUL.out, HV.out] at hz; exact hz)); clear hz hb; clear _t hC3)
      | fail)
  go_wp2
  refine ret_st (hC5.out |>.set 0 rfl |>.set 0 rfl |>.set 0 rfl) (v := .tuple #[.agg #[.slice a5 n5 c5, .bool m5, .slice d5 e5 f5], .int .i64 (ofzE (V : Int))]) (fun hF => ?_) rfl (fun hF => ⟨_, _, _, _, _, _, _, rfl, hF.r 2 rfl, hF.be⟩)
  · have e0 := hF.cell 0 0 rfl rfl
    have e1 := hF.cell 0 1 rfl rfl
    have e2 := hF.cell 0 2 rfl rfl
    simp [results, Tryd.results5, go_sem, e0, e1, e2]

theorem indexByte_lt : ∀ (l : List UInt8) (c : UInt8), Lib.indexByte l c < 0 ∨ ∃ k : Nat, Lib.indexByte l c = (k : Int) ∧ k < l.length := by
  intro l c
  induction l with
  | nil => exact .inl (by unfold Lib.indexByte; omega)
  | cons b l ih =>
    unfold Lib.indexByte
    split
    · exact .inr ⟨0, rfl, by simp⟩
    · rcases ih with h | ⟨k, h, hk⟩
      · have := Lib.indexByte_ge l c
        rw [if_pos (by simp; omega)]
        exact .inl (by omega)
      · rw [if_neg (by simp; omega)]
        exact .inr ⟨k + 1, by omega, by simp; omega⟩

theorem rparse_b (s : ByteArray) (w : World) (hs : s.size ≤ 100000) : Calls Tryd.prog 5 #[.string s] w (RetRE w (rparse s.data.toList).1 (rparse s.data.toList).2) := by
  have hl : s.data.toList.length = s.size := by simp
  unfold rparse
  by_cases h1 : 1000 < s.size
  · rw [if_pos (by rw [hl]; exact h1)]
    exact rparse_long s w h1 hs
  · rw [if_neg (by rw [hl]; exact h1)]
    rcases indexByte_lt s.data.toList 47 with hi | ⟨k, hi, hk⟩
    · rw [if_pos hi]
      cases hz : Dec.zread s.data.toList with
      | none => exact rparse_intbad s w (by omega) hi hz
      | some z => exact rparse_int s w (by omega) hi z hz
    · rw [if_neg (by omega), hi, Int.toNat_natCast]
      cases hz : Dec.zread (s.data.toList.take k) with
      | none => exact rparse_topbad s w (by omega) k hi (by omega) hz
      | some z =>
        cases hd : Dec.isDec (s.data.toList.drop (k + 1)) with
        | false => exact rparse_botbad s w (by omega) k hi (by omega) z hz hd
        | true => exact rparse_frac s w (by omega) k hi (by omega) z hz hd

end Go.Proofs.YtnimnoodpnhodaaDoor

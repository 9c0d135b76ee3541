/- the reference's digits, IsInt -/
/- the reference's ZParse -/
/- the reference's Parse -/
import Derived.Test.YtmfplelodnoicaaGreatDoorWR
import Derived.Test.YtmfplelodnoicaaGreatDoorWG
import Derived.Test.YtmfplelodnoicaaGreatDoorWN
import Derived.Test.YtmfplelodnoicaaGreatDoorWX
import Derived.Test.YtmfplelodnoicaaGreatDoorWK
namespace Go.Proofs.YtmfplelodnoicaaGreatDoor
open Go.RowKit Dig

theorem dig_iff {c : UInt8} : Dec.isDig c = true ↔ 48 ≤ (c.toNat : Int) ∧ (c.toNat : Int) ≤ 57 := by
  unfold Dec.isDig
  simp
  omega
theorem mem_at {s : ByteArray} {c : UInt8} (h : c ∈ s.data.toList) : ∃ (k : Nat) (hk : k < s.size), s[k] = c := by
  obtain ⟨k, hk, e⟩ := List.getElem_of_mem h
  exact ⟨k, by simpa using hk, by rw [← e]; rfl⟩
theorem at_mem {s : ByteArray} {k : Nat} (hk : k < s.size) : s[k] ∈ s.data.toList := by
  show s.data[k] ∈ _
  exact Array.getElem_mem_toList hk
theorem isDec_no {s : ByteArray} {k : Nat} (hk : k < s.size) (h : ¬ (48 ≤ (s[k].toNat : Int) ∧ (s[k].toNat : Int) ≤ 57)) : Dec.isDec s.data.toList = false := by
  unfold Dec.isDec
  have : s.data.toList.all Dec.isDig = false := by
    rw [List.all_eq_false]
    exact ⟨_, at_mem hk, fun e => h (dig_iff.1 e)⟩
  rw [this]; simp
theorem isDec_end {s : ByteArray} (h : ∀ j, j < s.size → ∃ h : j < s.size, Dec.isDig s[j] = true) (h1 : ¬ s.toList = []) (h0 : 0 < s.size) (h48 : ¬ s.toList = [48]) : Dec.isDec s.data.toList = ((s[0].toNat : Int) != 48) := by
  rw [Go.ByteArray.toList_eq] at h1 h48
  have hall : s.data.toList.all Dec.isDig = true := by
    rw [List.all_eq_true]
    intro c hc
    obtain ⟨k, hk, rfl⟩ := mem_at hc
    exact (h k hk).2
  unfold Dec.isDec
  rw [hall]
  have hne : s.data.toList.isEmpty = false := by simpa using h1
  rw [hne]
  have hh : s.data.toList.head? = some s[0] := by
    rw [List.head?_eq_getElem?]
    show s.data.toList[0]? = some s.data[0]
    simp
  rw [hh]
  have e2 : ((some s[0] == some (48 : UInt8)) : Bool) = ((s[0].toNat : Int) == 48) := by
    rw [Bool.eq_iff_iff]
    simp only [beq_iff_eq, Option.some.injEq]
    constructor
    · intro e; rw [e]; rfl
    · intro e; exact UInt8.toNat_inj.1 (by rw [show (48 : UInt8).toNat = 48 from rfl]; omega)
  rw [e2]
  by_cases hl : s.data.toList.length = 1
  · rw [hl]
    have : ¬ ((s[0].toNat : Int) == 48) = true := by
      intro e
      apply h48
      have e' : s[0] = 48 := UInt8.toNat_inj.1 (by rw [show (48 : UInt8).toNat = 48 from rfl]; have := beq_iff_eq.1 e; omega)
      obtain ⟨x, hx⟩ := List.length_eq_one_iff.1 hl
      rw [hx] at hh ⊢
      simp only [List.head?_cons, Option.some.injEq] at hh
      rw [hh, e']
    have e3 : ((s[0].toNat : Int) == 48) = false := by simpa using this
    simp [bne, e3]
  · have : (s.data.toList.length == 1) = false := by simpa using hl
    rw [this]
    simp [bne]

set_option maxHeartbeats 1000000 in
theorem digitsN_any (s : ByteArray) (w : World) (hs : s.size ≤ 100000) :
    Calls Tryz.prog 114 #[.string s] w fun e w' => e = .returned (.bool (Dec.isDec s.data.toList)) ∧ w' = w := by
  go_enter Tryz.func114, Tryz.ntmps114
  go_wp2
  go_loop [3] (fun i => ∃ k : Nat, k ≤ s.size ∧ i = .int .i64 k ∧ Hid (∀ j, j < k → ∃ h : j < s.size, Dec.isDig s[j] = true)) (fun i => s.size - (intOf i).toNat)
  case atStart => exact ⟨0, Nat.zero_le _, rfl, Lib.hid (fun j hj => absurd hj (Nat.not_lt_zero j))⟩
  case round =>
    obtain ⟨k, hk, rfl, HJ⟩ := hrel
    by_cases hlt : k < s.size
    · by_cases h1 : (s[k].toNat : Int) < 48
      · go_wp2
        go_ret
        exact ⟨ret_bool (isDec_no hlt (by omega)).symm, rfl⟩
      · by_cases h2 : 57 < (s[k].toNat : Int)
        · go_wp2
          go_ret
          exact ⟨ret_bool (isDec_no hlt (by omega)).symm, rfl⟩
        · go_wp2
          go_round
          case rel =>
            refine ⟨k + 1, by omega, by go_num, Lib.hid (fun j hj => ?_)⟩
            by_cases e : j < k
            · exact HJ.out j e
            · obtain rfl : j = k := by omega
              exact ⟨hlt, dig_iff.2 (by omega)⟩
          case measure => simp [intOf]; omega
    · have HA : Hid (∀ j, j < s.size → ∃ h : j < s.size, Dec.isDig s[j] = true) := Lib.hid (fun j hj => HJ.out j (by omega))
      clear HJ
      by_cases e0 : s.toList = [48]
      · go_wp2
        go_ret
        exact ⟨ret_bool (by rw [Go.ByteArray.toList_eq] at e0; rw [e0]; rfl), rfl⟩
      · by_cases e1 : s.toList = []
        · go_wp2
          go_ret
          exact ⟨ret_bool (by rw [Go.ByteArray.toList_eq] at e1; rw [e1]; rfl), rfl⟩
        · have h0 : 0 < s.size := by
            rcases Nat.eq_zero_or_pos s.size with h | h
            · exfalso; apply e1; rw [Go.ByteArray.toList_eq]; exact List.eq_nil_of_length_eq_zero (by simpa using h)
            · exact h
          have HE := Lib.hid (isDec_end HA.out e1 h0 e0)
          go_wp2
          go_ret
          refine ⟨ret_bool ?_, rfl⟩
          rw [HE.out]
          have z1 : (s.toList == [48]) = false := by simpa using e0
          have z2 : s.toList.isEmpty = false := by simpa using e1
          simp [z1, z2]

theorem isInt_neg {s : ByteArray} {r : List UInt8} (h : s.data.toList = 45 :: r) : (Dec.zread s.data.toList).isSome = Dec.isDec r := by
  rw [h]
  show (if Dec.isDec r = true then some (-(Dec.val r : Int)) else none).isSome = _
  cases Dec.isDec r <;> rfl
theorem isInt_pos {l : List UInt8} (h : ∀ r, l ≠ 45 :: r) : (Dec.zread l).isSome = Dec.isDec l := by
  unfold Dec.zread
  split
  · rename_i r; exact absurd rfl (h r)
  · cases Dec.isDec l <;> rfl
theorem cons_at {s : ByteArray} (h0 : 0 < s.size) : s.data.toList = s[0] :: s.data.toList.drop 1 := by
  have hl : 0 < s.data.toList.length := by simpa using h0
  have := List.drop_eq_getElem_cons (i := 0) hl
  rw [List.drop_zero] at this
  exact this

set_option maxHeartbeats 1000000 in
theorem isIntN_any (s : ByteArray) (w : World) (hs : s.size ≤ 100000) :
    Calls Tryz.prog 24 #[.string s] w fun e w' => e = .returned (.bool ((Dec.zread s.data.toList).isSome)) ∧ w' = w := by
  obtain ⟨v, hv⟩ : ∃ v : Bool, (Dec.zread s.data.toList).isSome = v := ⟨_, rfl⟩
  rw [hv]
  by_cases e1 : s.toList = []
  · have HV := Lib.hid (show Dec.isDec s.data.toList = v from by
      have e2 : s.data.toList = [] := by rw [← Go.ByteArray.toList_eq]; exact e1
      rw [← hv]
      exact (isInt_pos (fun r e => by rw [e2] at e; exact absurd e (by simp))).symm)
    clear hv
    go_enter Tryz.func24, Tryz.ntmps24
    go_wp2_with fail
    refine (digitsN_any s w hs).mono ?_
    rw [HV.out]
    rintro e w' ⟨rfl, rfl⟩
    go_wp2
    go_ret
    exact ⟨rfl, rfl⟩
  · have h0 : 0 < s.size := by
      rcases Nat.eq_zero_or_pos s.size with h | h
      · exfalso; apply e1; rw [Go.ByteArray.toList_eq]; exact List.eq_nil_of_length_eq_zero (by simpa using h)
      · exact h
    have HC := Lib.hid (cons_at h0)
    have h1s : (1 : Int) ≤ (s.size : Int) := by omega
    have h1n : 1 ≤ s.size := by omega
    have hne : (!s.toList.isEmpty) = true := by simpa using e1
    have hne2 : s.toList.isEmpty = false := by simpa using e1
    by_cases hm : (s[0].toNat : Int) = 45
    · have h45 : s[0] = 45 := UInt8.toNat_inj.1 (by rw [show (45 : UInt8).toNat = 45 from rfl]; omega)
      obtain ⟨S1, hS1⟩ : ∃ S1 : ByteArray, s.extract 1 s.size = S1 := ⟨_, rfl⟩
      have HV := Lib.hid (show Dec.isDec S1.data.toList = v from by
        rw [← hv, isInt_neg (r := s.data.toList.drop 1) (by rw [← h45]; exact HC.out), ← hS1, Lib.extract_to_end])
      have HX := Lib.hid (show S1.size ≤ 100000 by rw [← hS1]; simp; omega)
      have HS := Lib.hid hS1
      clear h45 hv hS1
      go_enter Tryz.func24, Tryz.ntmps24
      go_wp2_with fail
      rw [HS.out]
      refine (digitsN_any S1 w HX.out).mono ?_
      rw [HV.out]
      rintro e w' ⟨rfl, rfl⟩
      go_wp2
      go_ret
      exact ⟨rfl, rfl⟩
    · have HV := Lib.hid (show Dec.isDec s.data.toList = v from by
        rw [← hv]
        refine (isInt_pos (fun r e => ?_)).symm
        have e3 := HC.out.symm.trans e
        simp only [List.cons.injEq] at e3
        exact hm (by rw [e3.1]; decide))
      clear hv
      go_enter Tryz.func24, Tryz.ntmps24
      go_wp2_with fail
      refine (digitsN_any s w hs).mono ?_
      rw [HV.out]
      rintro e w' ⟨rfl, rfl⟩
      go_wp2
      go_ret
      exact ⟨rfl, rfl⟩

end Go.Proofs.YtmfplelodnoicaaGreatDoor
namespace Go.Proofs.YtmfplelodnoicaaGreatDoor
open Go.RowKit Dig

theorem val_append (l r : List UInt8) : Dec.val (l ++ r) = Dec.val l * 10 ^ r.length + Dec.val r := by
  induction r using Dec.rind with
  | h0 => simp [Dec.val_nil]
  | hs r c ih =>
    rw [← List.append_assoc, Dec.val_snoc, ih, Dec.val_snoc, List.length_append, List.length_singleton, Nat.pow_succ]
    rw [Nat.mul_add, ← Nat.add_assoc]
    congr 2
    rw [Nat.mul_comm 10, Nat.mul_assoc]
theorem part_snoc {T : ByteArray} {k j : Nat} (hk : k ≤ j) (hj : j < T.size) : (T.data.toList.take (j + 1)).drop k = (T.data.toList.take j).drop k ++ [T[j]] := by
  have hl : j < T.data.toList.length := by simpa using hj
  rw [List.take_succ_eq_append_getElem hl, List.drop_append_of_le_length (by rw [List.length_take]; omega)]
  rfl
theorem part_digs {l : List UInt8} (h : ∀ c ∈ l, Dec.isDig c = true) (k j : Nat) : ∀ c ∈ (l.take j).drop k, Dec.isDig c = true := fun c hc => h c (List.mem_of_mem_take (List.mem_of_mem_drop hc))
theorem part_lt {l : List UInt8} (h : ∀ c ∈ l, Dec.isDig c = true) {k j : Nat} {m : Nat} (hj : j ≤ k + m) : Dec.val ((l.take j).drop k) < 10 ^ m := by
  refine Nat.lt_of_lt_of_le (Dec.val_lt (part_digs h k j)) (Nat.pow_le_pow_right (by omega) ?_)
  rw [List.length_drop, List.length_take]; omega
/-- a group off the end -/
theorem part_step {l : List UInt8} {N : Int} {L : List Int} {k : Nat} (hE : N = (Dec.val l : Int) * 10000 ^ L.length + vl 10000 L) (hk : l.length = k + 4 ∨ k = 0) (hk2 : k ≤ l.length) :
    N = (Dec.val (l.take k) : Int) * 10000 ^ (L ++ [((Dec.val ((l.take l.length).drop k) : Nat) : Int)]).length + vl 10000 (L ++ [((Dec.val ((l.take l.length).drop k) : Nat) : Int)]) := by
  rw [List.take_length, List.length_append, List.length_singleton, vl_append]
  have e : Dec.val l = Dec.val (l.take k) * 10 ^ (l.drop k).length + Dec.val (l.drop k) := by
    rw [← val_append, List.take_append_drop]
  have hv : vl 10000 [((Dec.val (l.drop k) : Nat) : Int)] = ((Dec.val (l.drop k) : Nat) : Int) := by simp [vl]
  rw [hv, hE, e]
  rcases hk with h4 | h0
  · rw [List.length_drop, show l.length - k = 4 by omega]
    simp only [Int.natCast_add, Int.natCast_mul]
    rw [show ((10 ^ 4 : Nat) : Int) = 10000 from rfl, Int.pow_succ, Int.add_mul]
    generalize (10000 : Int) ^ L.length = p
    generalize ((Dec.val (l.take k) : Nat) : Int) = a
    generalize ((Dec.val (l.drop k) : Nat) : Int) = b
    rw [Int.mul_assoc, Int.mul_comm 10000 p, Int.mul_comm b p]
    omega
  · subst h0
    simp only [List.take_zero, Dec.val_nil, List.drop_zero, Nat.zero_mul, Nat.zero_add]
    simp only [Int.natCast_zero, Int.zero_mul, Int.zero_add]
    generalize (10000 : Int) ^ L.length = p
    generalize ((Dec.val l : Nat) : Int) = b
    rw [Int.mul_comm b p]
    omega

set_option maxRecDepth 100000 in
set_option maxHeartbeats 8000000 in
theorem zparse_dig (S : ByteArray) (w : World) (hs : S.size ≤ 90000) (hd : ∀ c ∈ S.data.toList, Dec.isDig c = true) : Calls Tryz.prog 25 #[.string S] w (RetN w (Dec.val S.data.toList : Int)) := by
  have hC := Lib.hid ((St.enter w).al w.heap.size #[.int .i64 0, .slice none 0 0] 31 rfl rfl)
  obtain ⟨N, hN⟩ : ∃ N : Int, (Dec.val S.data.toList : Int) = N := ⟨_, rfl⟩
  have HV := Lib.hid hN
  have HD := Lib.hid hd
  have HN0 := Lib.hid (show 0 ≤ N by omega)
  rw [hN]
  have h45 : ∀ h : 0 < S.size, ((S[0].toNat : Int) == 45) = false := fun h => by
    have := dig_iff.1 (hd _ (at_mem h))
    have h2 : ¬ (S[0].toNat : Int) = 45 := by omega
    simpa using h2
  have H45 := Lib.hid h45
  clear hN hd h45
  by_cases e1 : S.toList = []
  · have hne2 : S.toList.isEmpty = true := by rw [e1]; rfl
    go_enter Tryz.func25, Tryz.ntmps25
    go_wp2
    go_loopg [0, 3] S.size (fun gk sv gv wr => ∃ (T : ByteArray) (L : List Int) (ga : Option Addr) (gn gc : Nat), sv = .string T ∧ T.size = gk ∧ gv = .slice ga gn gc ∧ L.length + T.size ≤ S.size ∧ Hid (∀ c ∈ T.data.toList, Dec.isDig c = true) ∧ Hid (N = (Dec.val T.data.toList : Int) * 10000 ^ L.length + vl 10000 L) ∧ Hid (∀ x ∈ L, 0 ≤ x ∧ x < 10000) ∧ Hid (Sl 3 wr (.slice ga gn gc) L) ∧ Hid (∀ j, Value.ownBlock (.slice ga gn gc) = some j → w.heap.size < j) ∧ Hid (St w wr [(w.heap.size, #[.int .i64 0, .slice none 0 0], 31)] []))
    case atStart => exact ⟨S, [], none, 0, 0, rfl, rfl, rfl, by simp, HD, Lib.hid (by rw [← HV.out]; simp [vl]), Lib.hid (by simp), Lib.hid Sl.nil, Lib.hid (fun j hj => by simp [Value.ownBlock] at hj), hC⟩
    case round =>
      clear hC
      obtain ⟨T, L, ga, gn, gc, rfl, rfl, rfl, hLT, HT, HE, HL, HO, HOB, hC⟩ := hrel
      by_cases hT0 : T.size = 0
      · have hg0 : ¬ (0 : Int) < (T.size : Int) := by omega
        have HX := Lib.hid (show N = vl 10000 L from by
          have e : T.data.toList = [] := List.eq_nil_of_length_eq_zero (by simpa using hT0)
          have h := HE.out
          rw [e, Dec.val_nil] at h
          simpa using h)
        have c00 := hC.out.cell 0 0 rfl rfl
        have c01 := hC.out.cell 0 1 rfl rfl
        have f00 := hC.out.free 0 0 rfl
        have f01 := hC.out.free 0 1 rfl
        go_wp2_with fail
        refine (rmade_b (xs := L) HO.out (fun x hx => by have := HL.out x hx; omega) (by rw [← HX.out]; exact HN0.out) (by omega) (.inr (.inl rfl))).mono ?_
        rintro e w3 ⟨s3, a3, n3, c3, rfl, hz, hb⟩
        have hC3 := Lib.hid ((hC.out.call hb).pn hz)
        clear hz hb c00 c01 f00 f01 hC
        have c00 := hC3.out.cell 0 0 rfl rfl
        have c01 := hC3.out.cell 0 1 rfl rfl
        have f00 := hC3.out.free 0 0 rfl
        have f01 := hC3.out.free 0 1 rfl
        go_wp2
        refine ret_st (hC3.out.set 0 rfl |>.set 0 rfl) (v := .agg #[.int .i64 s3, .slice a3 n3 c3]) (fun hF => ?_) rfl (fun hF => ⟨s3, a3, n3, c3, rfl, ?_, hF.be⟩)
        · have e0 := hF.cell 0 0 rfl rfl
          have e1 := hF.cell 0 1 rfl rfl
          simp [results, Tryz.results25, go_sem, e0, e1]
        · have := hF.n 0 rfl
          rw [← HX.out, Int.one_mul] at this
          exact this
      · have hg0 : (0 : Int) < (T.size : Int) := by omega
        obtain ⟨wo, rfl⟩ : ∃ wo : World, wo = wr := ⟨_, rfl⟩
        by_cases h4 : 4 ≤ T.size
        · obtain ⟨k, hk⟩ : ∃ k : Nat, T.size = k + 4 := ⟨T.size - 4, by omega⟩
          have h4i : ¬ (T.size : Int) - 4 < 0 := by omega
          have h4e : (T.size : Int) - 4 = (k : Int) := by omega
          have hkT : k ≤ T.size := by omega
          have hkm : T.size ≤ k + 4 := by omega
          have HK := Lib.hid (show T.data.toList.length = k + 4 ∨ k = 0 from .inl (by simpa using hk))
          clear hk
          have hsz : T.size ≤ 90000 := by omega
          go_wp2
          go_loop [5, 6] (fun xv iv => ∃ j : Nat, k ≤ j ∧ j ≤ T.size ∧ iv = .int .i64 (j : Int) ∧ xv = .int .i64 ((Dec.val ((T.data.toList.take j).drop k) : Nat) : Int)) (fun _ iv => T.size - (intOf iv).toNat)
          case atStart => exact ⟨k, Nat.le_refl _, hkT, by go_num, by rw [List.drop_eq_nil_of_le (by rw [List.length_take]; omega)]; rfl⟩
          case round =>
            obtain ⟨j, hkj, hjT, rfl, rfl⟩ := hrel
            by_cases hlt : j < T.size
            · have hdg := dig_iff.1 (HT.out _ (at_mem hlt))
              have hvl := part_lt HT.out (k := k) (j := j) (m := 3) (by omega)
              have HPS := Lib.hid (show Dec.val ((T.data.toList.take (j + 1)).drop k) = 10 * Dec.val ((T.data.toList.take j).drop k) + (T[j].toNat - 48) from by rw [part_snoc hkj hlt, Dec.val_snoc])
              obtain ⟨v, hv⟩ : ∃ v : Nat, Dec.val ((T.data.toList.take j).drop k) = v := ⟨_, rfl⟩
              rw [hv] at hvl HPS ⊢
              have hv0 : (0 : Int) ≤ (v : Int) := by omega
              have hv1 : (v : Int) < 1000 := by omega
              obtain ⟨d1, d2⟩ := hdg
              have h8 : IntKind.u8.wrap ((T[j].toNat : Int) - 48) = (T[j].toNat : Int) - 48 := by rw [IntKind.wrap_u8]; omega
              have h9 : IntKind.i64.wrap ((T[j].toNat : Int) - 48) = (T[j].toNat : Int) - 48 := IntWalk.i64_in _ (by omega)
              clear hv hvl
              go_wp2
              go_round
              case rel => exact ⟨j + 1, by omega, by omega, by go_num, by rw [HPS.out]; go_num⟩
              case measure => simp [intOf]; omega
            · obtain rfl : j = T.size := by omega
              have hvl := part_lt HT.out (k := k) (j := T.size) (m := 4) (by omega)
              have HS := Lib.hid (part_step (k := k) HE.out HK.out (by simpa using hkT))
              rw [show T.data.toList.length = T.size from by simp] at HS
              obtain ⟨T2, hT2⟩ : ∃ T2 : ByteArray, T2 = T.extract 0 k := ⟨_, rfl⟩
              have HTT := Lib.hid (show T2.data.toList = T.data.toList.take k from by rw [hT2, ByteArray.data_extract, Array.toList_extract]; simp [List.extract])
              have HTS := Lib.hid (show T2.size = k by rw [hT2]; simp; omega)
              have HT2 := Lib.hid hT2
              clear hT2
              obtain ⟨v, hv⟩ : ∃ v : Nat, Dec.val ((T.data.toList.take T.size).drop k) = v := ⟨_, rfl⟩
              rw [hv] at hvl HS ⊢
              have hlen : L.length ≤ 90000 := by omega
              have hki : (k : Int) ≤ (T.size : Int) := by omega
              have hk0 : (0 : Int) ≤ (k : Int) := by omega
              clear hv
              go_wp2_with (at_builtin; refine wpList_append_sl _ rfl _ _ 29 rfl 3 Tryz.underlying29 info_int _ _ rfl (HO.out.alloc _) _ _ rfl (Sl.one _ _ _) ?c3 ?_)
              case c3 => omega
              intro a2 n2 c2 w2 ho2 hg2 hs2
              have hC2 := Lib.hid (hC.out.row.grown hg2 (fun j hj => ⟨by have := HOB.out j hj; omega, fun x hx => by rcases List.mem_singleton.1 hx with rfl; have := HOB.out j hj; show w.heap.size ≠ j; omega⟩))
              have HO2 := Lib.hid ho2
              have HB2 := Lib.hid (show ∀ j, Value.ownBlock (.slice a2 n2 c2) = some j → w.heap.size < j from fun j hj => by
                rcases hs2 j hj with h | h
                · exact HOB.out j h
                · have := hC.out.lt 0 rfl; have h3 : wo.heap.size ≤ j := Nat.le_trans (by simp) h; omega)
              clear ho2 hg2 hs2
              go_wp2
              go_roundg k
              case measure => omega
              case rel =>
                refine ⟨T2, L ++ [(v : Int)], a2, n2, c2, by rw [HT2.out], HTS.out, rfl, by have h1 := HTS.out; rw [List.length_append, List.length_singleton, h1]; omega, ?_, ?_, ?_, HO2, HB2, hC2⟩
                · exact Lib.hid (fun c hc => by rw [HTT.out] at hc; exact HT.out c (List.mem_of_mem_take hc))
                · exact Lib.hid (by rw [HTT.out]; exact HS.out)
                · exact Lib.hid (fun x hx => by rcases List.mem_append.1 hx with h | h; exact HL.out x h; rcases List.mem_singleton.1 h with rfl; omega)
        · have h4i : (T.size : Int) - 4 < 0 := by omega
          obtain ⟨k, hk0⟩ : ∃ k : Nat, k = 0 := ⟨_, rfl⟩
          have hkT : k ≤ T.size := by omega
          have hkm : T.size ≤ k + 4 := by omega
          have HK := Lib.hid (show T.data.toList.length = k + 4 ∨ k = 0 from .inr hk0)
          have HK0 := Lib.hid hk0
          clear hk0
          have hsz : T.size ≤ 90000 := by omega
          go_wp2
          go_loop [5, 6] (fun xv iv => ∃ j : Nat, k ≤ j ∧ j ≤ T.size ∧ iv = .int .i64 (j : Int) ∧ xv = .int .i64 ((Dec.val ((T.data.toList.take j).drop k) : Nat) : Int)) (fun _ iv => T.size - (intOf iv).toNat)
          case atStart => exact ⟨k, Nat.le_refl _, hkT, by rw [HK0.out]; rfl, by rw [List.drop_eq_nil_of_le (by rw [List.length_take]; omega)]; rfl⟩
          case round =>
            obtain ⟨j, hkj, hjT, rfl, rfl⟩ := hrel
            by_cases hlt : j < T.size
            · have hdg := dig_iff.1 (HT.out _ (at_mem hlt))
              have hvl := part_lt HT.out (k := k) (j := j) (m := 3) (by omega)
              have HPS := Lib.hid (show Dec.val ((T.data.toList.take (j + 1)).drop k) = 10 * Dec.val ((T.data.toList.take j).drop k) + (T[j].toNat - 48) from by rw [part_snoc hkj hlt, Dec.val_snoc])
              obtain ⟨v, hv⟩ : ∃ v : Nat, Dec.val ((T.data.toList.take j).drop k) = v := ⟨_, rfl⟩
              rw [hv] at hvl HPS ⊢
              have hv0 : (0 : Int) ≤ (v : Int) := by omega
              have hv1 : (v : Int) < 1000 := by omega
              obtain ⟨d1, d2⟩ := hdg
              have h8 : IntKind.u8.wrap ((T[j].toNat : Int) - 48) = (T[j].toNat : Int) - 48 := by rw [IntKind.wrap_u8]; omega
              have h9 : IntKind.i64.wrap ((T[j].toNat : Int) - 48) = (T[j].toNat : Int) - 48 := IntWalk.i64_in _ (by omega)
              clear hv hvl
              go_wp2
              go_round
              case rel => exact ⟨j + 1, by omega, by omega, by go_num, by rw [HPS.out]; go_num⟩
              case measure => simp [intOf]; omega
            · obtain rfl : j = T.size := by omega
              have hvl := part_lt HT.out (k := k) (j := T.size) (m := 4) (by omega)
              have HS := Lib.hid (part_step (k := k) HE.out HK.out (by simpa using hkT))
              rw [show T.data.toList.length = T.size from by simp] at HS
              obtain ⟨T2, hT2⟩ : ∃ T2 : ByteArray, T2 = ByteArray.empty := ⟨_, rfl⟩
              have HTT := Lib.hid (show T2.data.toList = T.data.toList.take k from by rw [hT2, HK0.out]; rfl)
              have HTS := Lib.hid (show T2.size = k by rw [hT2]; rw [HK0.out]; rfl)
              have HT2 := Lib.hid hT2
              clear hT2
              obtain ⟨v, hv⟩ : ∃ v : Nat, Dec.val ((T.data.toList.take T.size).drop k) = v := ⟨_, rfl⟩
              rw [hv] at hvl HS ⊢
              have hlen : L.length ≤ 90000 := by omega
              have hki : (k : Int) ≤ (T.size : Int) := by omega
              have hk0 : (0 : Int) ≤ (k : Int) := by omega
              clear hv
              go_wp2_with (at_builtin; refine wpList_append_sl _ rfl _ _ 29 rfl 3 Tryz.underlying29 info_int _ _ rfl (HO.out.alloc _) _ _ rfl (Sl.one _ _ _) ?c3 ?_)
              case c3 => omega
              intro a2 n2 c2 w2 ho2 hg2 hs2
              have hC2 := Lib.hid (hC.out.row.grown hg2 (fun j hj => ⟨by have := HOB.out j hj; omega, fun x hx => by rcases List.mem_singleton.1 hx with rfl; have := HOB.out j hj; show w.heap.size ≠ j; omega⟩))
              have HO2 := Lib.hid ho2
              have HB2 := Lib.hid (show ∀ j, Value.ownBlock (.slice a2 n2 c2) = some j → w.heap.size < j from fun j hj => by
                rcases hs2 j hj with h | h
                · exact HOB.out j h
                · have := hC.out.lt 0 rfl; have h3 : wo.heap.size ≤ j := Nat.le_trans (by simp) h; omega)
              clear ho2 hg2 hs2
              go_wp2
              go_roundg k
              case measure => have := HK0.out; omega
              case rel =>
                refine ⟨T2, L ++ [(v : Int)], a2, n2, c2, by rw [HT2.out], HTS.out, rfl, by have h1 := HTS.out; rw [List.length_append, List.length_singleton, h1]; have := HK0.out; omega, ?_, ?_, ?_, HO2, HB2, hC2⟩
                · exact Lib.hid (fun c hc => by rw [HTT.out] at hc; exact HT.out c (List.mem_of_mem_take hc))
                · exact Lib.hid (by rw [HTT.out]; exact HS.out)
                · exact Lib.hid (fun x hx => by rcases List.mem_append.1 hx with h | h; exact HL.out x h; rcases List.mem_singleton.1 h with rfl; omega)
  · have h0 : 0 < S.size := by
      rcases Nat.eq_zero_or_pos S.size with h | h
      · exfalso; apply e1; rw [Go.ByteArray.toList_eq]; exact List.eq_nil_of_length_eq_zero (by simpa using h)
      · exact h
    have hne : (!S.toList.isEmpty) = true := by simpa using e1
    have hne2 : S.toList.isEmpty = false := by simpa using e1
    have h45 := H45.out h0
    go_enter Tryz.func25, Tryz.ntmps25
    go_wp2
    go_loopg [0, 3] S.size (fun gk sv gv wr => ∃ (T : ByteArray) (L : List Int) (ga : Option Addr) (gn gc : Nat), sv = .string T ∧ T.size = gk ∧ gv = .slice ga gn gc ∧ L.length + T.size ≤ S.size ∧ Hid (∀ c ∈ T.data.toList, Dec.isDig c = true) ∧ Hid (N = (Dec.val T.data.toList : Int) * 10000 ^ L.length + vl 10000 L) ∧ Hid (∀ x ∈ L, 0 ≤ x ∧ x < 10000) ∧ Hid (Sl 3 wr (.slice ga gn gc) L) ∧ Hid (∀ j, Value.ownBlock (.slice ga gn gc) = some j → w.heap.size < j) ∧ Hid (St w wr [(w.heap.size, #[.int .i64 0, .slice none 0 0], 31)] []))
    case atStart => exact ⟨S, [], none, 0, 0, rfl, rfl, rfl, by simp, HD, Lib.hid (by rw [← HV.out]; simp [vl]), Lib.hid (by simp), Lib.hid Sl.nil, Lib.hid (fun j hj => by simp [Value.ownBlock] at hj), hC⟩
    case round =>
      clear hC
      obtain ⟨T, L, ga, gn, gc, rfl, rfl, rfl, hLT, HT, HE, HL, HO, HOB, hC⟩ := hrel
      by_cases hT0 : T.size = 0
      · have hg0 : ¬ (0 : Int) < (T.size : Int) := by omega
        have HX := Lib.hid (show N = vl 10000 L from by
          have e : T.data.toList = [] := List.eq_nil_of_length_eq_zero (by simpa using hT0)
          have h := HE.out
          rw [e, Dec.val_nil] at h
          simpa using h)
        have c00 := hC.out.cell 0 0 rfl rfl
        have c01 := hC.out.cell 0 1 rfl rfl
        have f00 := hC.out.free 0 0 rfl
        have f01 := hC.out.free 0 1 rfl
        go_wp2_with fail
        refine (rmade_b (xs := L) HO.out (fun x hx => by have := HL.out x hx; omega) (by rw [← HX.out]; exact HN0.out) (by omega) (.inr (.inl rfl))).mono ?_
        rintro e w3 ⟨s3, a3, n3, c3, rfl, hz, hb⟩
        have hC3 := Lib.hid ((hC.out.call hb).pn hz)
        clear hz hb c00 c01 f00 f01 hC
        have c00 := hC3.out.cell 0 0 rfl rfl
        have c01 := hC3.out.cell 0 1 rfl rfl
        have f00 := hC3.out.free 0 0 rfl
        have f01 := hC3.out.free 0 1 rfl
        go_wp2
        refine ret_st (hC3.out.set 0 rfl |>.set 0 rfl) (v := .agg #[.int .i64 s3, .slice a3 n3 c3]) (fun hF => ?_) rfl (fun hF => ⟨s3, a3, n3, c3, rfl, ?_, hF.be⟩)
        · have e0 := hF.cell 0 0 rfl rfl
          have e1 := hF.cell 0 1 rfl rfl
          simp [results, Tryz.results25, go_sem, e0, e1]
        · have := hF.n 0 rfl
          rw [← HX.out, Int.one_mul] at this
          exact this
      · have hg0 : (0 : Int) < (T.size : Int) := by omega
        obtain ⟨wo, rfl⟩ : ∃ wo : World, wo = wr := ⟨_, rfl⟩
        by_cases h4 : 4 ≤ T.size
        · obtain ⟨k, hk⟩ : ∃ k : Nat, T.size = k + 4 := ⟨T.size - 4, by omega⟩
          have h4i : ¬ (T.size : Int) - 4 < 0 := by omega
          have h4e : (T.size : Int) - 4 = (k : Int) := by omega
          have hkT : k ≤ T.size := by omega
          have hkm : T.size ≤ k + 4 := by omega
          have HK := Lib.hid (show T.data.toList.length = k + 4 ∨ k = 0 from .inl (by simpa using hk))
          clear hk
          have hsz : T.size ≤ 90000 := by omega
          go_wp2
          go_loop [5, 6] (fun xv iv => ∃ j : Nat, k ≤ j ∧ j ≤ T.size ∧ iv = .int .i64 (j : Int) ∧ xv = .int .i64 ((Dec.val ((T.data.toList.take j).drop k) : Nat) : Int)) (fun _ iv => T.size - (intOf iv).toNat)
          case atStart => exact ⟨k, Nat.le_refl _, hkT, by go_num, by rw [List.drop_eq_nil_of_le (by rw [List.length_take]; omega)]; rfl⟩
          case round =>
            obtain ⟨j, hkj, hjT, rfl, rfl⟩ := hrel
            by_cases hlt : j < T.size
            · have hdg := dig_iff.1 (HT.out _ (at_mem hlt))
              have hvl := part_lt HT.out (k := k) (j := j) (m := 3) (by omega)
              have HPS := Lib.hid (show Dec.val ((T.data.toList.take (j + 1)).drop k) = 10 * Dec.val ((T.data.toList.take j).drop k) + (T[j].toNat - 48) from by rw [part_snoc hkj hlt, Dec.val_snoc])
              obtain ⟨v, hv⟩ : ∃ v : Nat, Dec.val ((T.data.toList.take j).drop k) = v := ⟨_, rfl⟩
              rw [hv] at hvl HPS ⊢
              have hv0 : (0 : Int) ≤ (v : Int) := by omega
              have hv1 : (v : Int) < 1000 := by omega
              obtain ⟨d1, d2⟩ := hdg
              have h8 : IntKind.u8.wrap ((T[j].toNat : Int) - 48) = (T[j].toNat : Int) - 48 := by rw [IntKind.wrap_u8]; omega
              have h9 : IntKind.i64.wrap ((T[j].toNat : Int) - 48) = (T[j].toNat : Int) - 48 := IntWalk.i64_in _ (by omega)
              clear hv hvl
              go_wp2
              go_round
              case rel => exact ⟨j + 1, by omega, by omega, by go_num, by rw [HPS.out]; go_num⟩
              case measure => simp [intOf]; omega
            · obtain rfl : j = T.size := by omega
              have hvl := part_lt HT.out (k := k) (j := T.size) (m := 4) (by omega)
              have HS := Lib.hid (part_step (k := k) HE.out HK.out (by simpa using hkT))
              rw [show T.data.toList.length = T.size from by simp] at HS
              obtain ⟨T2, hT2⟩ : ∃ T2 : ByteArray, T2 = T.extract 0 k := ⟨_, rfl⟩
              have HTT := Lib.hid (show T2.data.toList = T.data.toList.take k from by rw [hT2, ByteArray.data_extract, Array.toList_extract]; simp [List.extract])
              have HTS := Lib.hid (show T2.size = k by rw [hT2]; simp; omega)
              have HT2 := Lib.hid hT2
              clear hT2
              obtain ⟨v, hv⟩ : ∃ v : Nat, Dec.val ((T.data.toList.take T.size).drop k) = v := ⟨_, rfl⟩
              rw [hv] at hvl HS ⊢
              have hlen : L.length ≤ 90000 := by omega
              have hki : (k : Int) ≤ (T.size : Int) := by omega
              have hk0 : (0 : Int) ≤ (k : Int) := by omega
              clear hv
              go_wp2_with (at_builtin; refine wpList_append_sl _ rfl _ _ 29 rfl 3 Tryz.underlying29 info_int _ _ rfl (HO.out.alloc _) _ _ rfl (Sl.one _ _ _) ?c3 ?_)
              case c3 => omega
              intro a2 n2 c2 w2 ho2 hg2 hs2
              have hC2 := Lib.hid (hC.out.row.grown hg2 (fun j hj => ⟨by have := HOB.out j hj; omega, fun x hx => by rcases List.mem_singleton.1 hx with rfl; have := HOB.out j hj; show w.heap.size ≠ j; omega⟩))
              have HO2 := Lib.hid ho2
              have HB2 := Lib.hid (show ∀ j, Value.ownBlock (.slice a2 n2 c2) = some j → w.heap.size < j from fun j hj => by
                rcases hs2 j hj with h | h
                · exact HOB.out j h
                · have := hC.out.lt 0 rfl; have h3 : wo.heap.size ≤ j := Nat.le_trans (by simp) h; omega)
              clear ho2 hg2 hs2
              go_wp2
              go_roundg k
              case measure => omega
              case rel =>
                refine ⟨T2, L ++ [(v : Int)], a2, n2, c2, by rw [HT2.out], HTS.out, rfl, by have h1 := HTS.out; rw [List.length_append, List.length_singleton, h1]; omega, ?_, ?_, ?_, HO2, HB2, hC2⟩
                · exact Lib.hid (fun c hc => by rw [HTT.out] at hc; exact HT.out c (List.mem_of_mem_take hc))
                · exact Lib.hid (by rw [HTT.out]; exact HS.out)
                · exact Lib.hid (fun x hx => by rcases List.mem_append.1 hx with h | h; exact HL.out x h; rcases List.mem_singleton.1 h with rfl; omega)
        · have h4i : (T.size : Int) - 4 < 0 := by omega
          obtain ⟨k, hk0⟩ : ∃ k : Nat, k = 0 := ⟨_, rfl⟩
          have hkT : k ≤ T.size := by omega
          have hkm : T.size ≤ k + 4 := by omega
          have HK := Lib.hid (show T.data.toList.length = k + 4 ∨ k = 0 from .inr hk0)
          have HK0 := Lib.hid hk0
          clear hk0
          have hsz : T.size ≤ 90000 := by omega
          go_wp2
          go_loop [5, 6] (fun xv iv => ∃ j : Nat, k ≤ j ∧ j ≤ T.size ∧ iv = .int .i64 (j : Int) ∧ xv = .int .i64 ((Dec.val ((T.data.toList.take j).drop k) : Nat) : Int)) (fun _ iv => T.size - (intOf iv).toNat)
          case atStart => exact ⟨k, Nat.le_refl _, hkT, by rw [HK0.out]; rfl, by rw [List.drop_eq_nil_of_le (by rw [List.length_take]; omega)]; rfl⟩
          case round =>
            obtain ⟨j, hkj, hjT, rfl, rfl⟩ := hrel
            by_cases hlt : j < T.size
            · have hdg := dig_iff.1 (HT.out _ (at_mem hlt))
              have hvl := part_lt HT.out (k := k) (j := j) (m := 3) (by omega)
              have HPS := Lib.hid (show Dec.val ((T.data.toList.take (j + 1)).drop k) = 10 * Dec.val ((T.data.toList.take j).drop k) + (T[j].toNat - 48) from by rw [part_snoc hkj hlt, Dec.val_snoc])
              obtain ⟨v, hv⟩ : ∃ v : Nat, Dec.val ((T.data.toList.take j).drop k) = v := ⟨_, rfl⟩
              rw [hv] at hvl HPS ⊢
              have hv0 : (0 : Int) ≤ (v : Int) := by omega
              have hv1 : (v : Int) < 1000 := by omega
              obtain ⟨d1, d2⟩ := hdg
              have h8 : IntKind.u8.wrap ((T[j].toNat : Int) - 48) = (T[j].toNat : Int) - 48 := by rw [IntKind.wrap_u8]; omega
              have h9 : IntKind.i64.wrap ((T[j].toNat : Int) - 48) = (T[j].toNat : Int) - 48 := IntWalk.i64_in _ (by omega)
              clear hv hvl
              go_wp2
              go_round
              case rel => exact ⟨j + 1, by omega, by omega, by go_num, by rw [HPS.out]; go_num⟩
              case measure => simp [intOf]; omega
            · obtain rfl : j = T.size := by omega
              have hvl := part_lt HT.out (k := k) (j := T.size) (m := 4) (by omega)
              have HS := Lib.hid (part_step (k := k) HE.out HK.out (by simpa using hkT))
              rw [show T.data.toList.length = T.size from by simp] at HS
              obtain ⟨T2, hT2⟩ : ∃ T2 : ByteArray, T2 = ByteArray.empty := ⟨_, rfl⟩
              have HTT := Lib.hid (show T2.data.toList = T.data.toList.take k from by rw [hT2, HK0.out]; rfl)
              have HTS := Lib.hid (show T2.size = k by rw [hT2]; rw [HK0.out]; rfl)
              have HT2 := Lib.hid hT2
              clear hT2
              obtain ⟨v, hv⟩ : ∃ v : Nat, Dec.val ((T.data.toList.take T.size).drop k) = v := ⟨_, rfl⟩
              rw [hv] at hvl HS ⊢
              have hlen : L.length ≤ 90000 := by omega
              have hki : (k : Int) ≤ (T.size : Int) := by omega
              have hk0 : (0 : Int) ≤ (k : Int) := by omega
              clear hv
              go_wp2_with (at_builtin; refine wpList_append_sl _ rfl _ _ 29 rfl 3 Tryz.underlying29 info_int _ _ rfl (HO.out.alloc _) _ _ rfl (Sl.one _ _ _) ?c3 ?_)
              case c3 => omega
              intro a2 n2 c2 w2 ho2 hg2 hs2
              have hC2 := Lib.hid (hC.out.row.grown hg2 (fun j hj => ⟨by have := HOB.out j hj; omega, fun x hx => by rcases List.mem_singleton.1 hx with rfl; have := HOB.out j hj; show w.heap.size ≠ j; omega⟩))
              have HO2 := Lib.hid ho2
              have HB2 := Lib.hid (show ∀ j, Value.ownBlock (.slice a2 n2 c2) = some j → w.heap.size < j from fun j hj => by
                rcases hs2 j hj with h | h
                · exact HOB.out j h
                · have := hC.out.lt 0 rfl; have h3 : wo.heap.size ≤ j := Nat.le_trans (by simp) h; omega)
              clear ho2 hg2 hs2
              go_wp2
              go_roundg k
              case measure => have := HK0.out; omega
              case rel =>
                refine ⟨T2, L ++ [(v : Int)], a2, n2, c2, by rw [HT2.out], HTS.out, rfl, by have h1 := HTS.out; rw [List.length_append, List.length_singleton, h1]; have := HK0.out; omega, ?_, ?_, ?_, HO2, HB2, hC2⟩
                · exact Lib.hid (fun c hc => by rw [HTT.out] at hc; exact HT.out c (List.mem_of_mem_take hc))
                · exact Lib.hid (by rw [HTT.out]; exact HS.out)
                · exact Lib.hid (fun x hx => by rcases List.mem_append.1 hx with h | h; exact HL.out x h; rcases List.mem_singleton.1 h with rfl; omega)

set_option maxRecDepth 100000 in
set_option maxHeartbeats 2000000 in
theorem zparse_neg (S : ByteArray) (w : World) (hs : S.size ≤ 90000) (r : List UInt8) (hr : S.data.toList = 45 :: r) (hd : ∀ c ∈ r, Dec.isDig c = true) : Calls Tryz.prog 25 #[.string S] w (RetN w (-(Dec.val r : Int))) := by
  have h0 : 0 < S.size := by
    have : S.data.toList.length = r.length + 1 := by rw [hr]; rfl
    have h2 : S.data.toList.length = S.size := by simp
    omega
  have e1 : ¬ S.toList = [] := by rw [Go.ByteArray.toList_eq, hr]; simp
  have hc := cons_at h0
  rw [hr] at hc
  simp only [List.cons.injEq] at hc
  have h45 : ((S[0].toNat : Int) == 45) = true := by rw [← hc.1]; rfl
  have hne : (!S.toList.isEmpty) = true := by simpa using e1
  have hne2 : S.toList.isEmpty = false := by simpa using e1
  have h1s : (1 : Int) ≤ (S.size : Int) := by omega
  have h1n : 1 ≤ S.size := by omega
  obtain ⟨S1, hS1⟩ : ∃ S1 : ByteArray, S.extract 1 S.size = S1 := ⟨_, rfl⟩
  have hl : S1.data.toList = r := by rw [← hS1, Lib.extract_to_end, hr]; rfl
  have HX := Lib.hid (show S1.size ≤ 90000 by rw [← hS1]; simp; omega)
  have HS := Lib.hid hS1
  have HL := Lib.hid hl
  have HD := Lib.hid (show ∀ c ∈ S1.data.toList, Dec.isDig c = true by rw [hl]; exact hd)
  obtain ⟨N, hN⟩ : ∃ N : Int, (Dec.val r : Int) = N := ⟨_, rfl⟩
  have HN := Lib.hid hN
  rw [hN]
  have hC := Lib.hid ((St.enter w).al w.heap.size #[.int .i64 0, .slice none 0 0] 31 rfl rfl)
  clear hc hr hd hS1 hl hN e1
  go_enter Tryz.func25, Tryz.ntmps25
  go_wp2_with fail
  rw [HS.out]
  refine (zparse_dig S1 _ HX.out HD.out).mono ?_
  rw [HL.out, HN.out]
  rintro e w3 ⟨s3, a3, n3, c3, rfl, hz, hb⟩
  have hC3 := Lib.hid ((hC.out.call hb).pn hz)
  clear hz hb hC
  go_wp2_with fail
  refine (negN_b (hC3.out.n 0 rfl)).mono ?_
  rintro e w4 ⟨s4, a4, n4, c4, rfl, hz, hb⟩
  have hC4 := Lib.hid ((hC3.out.call hb).pn hz)
  clear hz hb hC3
  have c00 := hC4.out.cell 0 0 rfl rfl
  have c01 := hC4.out.cell 0 1 rfl rfl
  have f00 := hC4.out.free 0 0 rfl
  have f01 := hC4.out.free 0 1 rfl
  go_wp2
  refine ret_st (hC4.out.set 0 rfl |>.set 0 rfl) (v := .agg #[.int .i64 s4, .slice a4 n4 c4]) (fun hF => ?_) rfl (fun hF => ⟨s4, a4, n4, c4, rfl, hF.n 1 rfl, hF.be⟩)
  · have e0 := hF.cell 0 0 rfl rfl
    have e1 := hF.cell 0 1 rfl rfl
    simp [results, Tryz.results25, go_sem, e0, e1]

end Go.Proofs.YtmfplelodnoicaaGreatDoor
namespace Go.Proofs.YtmfplelodnoicaaGreatDoor
open Go.RowKit Dig

theorem isDec_digs {l : List UInt8} (h : Dec.isDec l = true) : ∀ c ∈ l, Dec.isDig c = true := by
  unfold Dec.isDec at h
  simp only [Bool.and_eq_true] at h
  exact List.all_eq_true.1 h.1.2
theorem zread_plain {l : List UInt8} (h : ¬ ∃ r, l = 45 :: r) : Dec.zread l = if Dec.isDec l = true then some ((Dec.val l : Nat) : Int) else none := by
  cases l with
  | nil => rfl
  | cons c r =>
    by_cases hc : c = 45
    · subst hc; exact absurd ⟨r, rfl⟩ h
    · unfold Dec.zread
      split
      · rename_i heq; injection heq with h1 _; exact absurd h1 hc
      · rfl
theorem zparse_read {S : ByteArray} {w : World} {z : Int} (hs : S.size ≤ 90000) (h : Dec.zread S.data.toList = some z) : Calls Tryz.prog 25 #[.string S] w (RetN w z) := by
  by_cases h45 : ∃ r, S.data.toList = 45 :: r
  · obtain ⟨r, hr⟩ := h45
    rw [hr] at h
    have h2 : (if Dec.isDec r = true then some (-(Dec.val r : Int)) else none) = some z := h
    by_cases hd : Dec.isDec r = true
    · rw [if_pos hd] at h2
      obtain rfl := Option.some.inj h2
      exact zparse_neg S w hs r hr (isDec_digs hd)
    · rw [if_neg hd] at h2; cases h2
  · have h2 : (if Dec.isDec S.data.toList = true then some ((Dec.val S.data.toList : Nat) : Int) else none) = some z := by
      rw [← h]; exact (zread_plain h45).symm
    by_cases hd : Dec.isDec S.data.toList = true
    · rw [if_pos hd] at h2
      obtain rfl := Option.some.inj h2
      exact zparse_dig S w hs (isDec_digs hd)
    · rw [if_neg hd] at h2; cases h2
/-- the result is the ratio q, and how it went -/
def RetNQE (w : World) (q : Rat) (k : Int) (e : Ending) (w' : World) : Prop := ∃ s a n c t d e' f, e = .returned (.tuple #[.agg #[.int .i64 s, .slice a n c, .int .i64 t, .slice d e' f], .int .i64 k]) ∧ Nq w' s (.slice a n c) t (.slice d e' f) q ∧ Below w.heap.size w w'

set_option maxRecDepth 100000 in
set_option maxHeartbeats 4000000 in
theorem parseA_no (S : ByteArray) (w : World) (hs : S.size ≤ 1000) (hn : ∀ j (h : j < S.size), S[j] ≠ 47) (hz : Dec.zread S.data.toList = none) :
    Calls Tryz.prog 26 #[.string S] w (RetNQE w 0 1) := by
  have HN := Lib.hid hn
  have HZ := Lib.hid hz
  have HI := Lib.hid (show (Dec.zread S.data.toList).isSome = false from by rw [hz]; rfl)
  clear hn hz
  have hC := Lib.hid ((St.enter w).al w.heap.size #[.int .i64 0, .slice none 0 0, .int .i64 0, .slice none 0 0] 54 rfl rfl)
  go_enter Tryz.func26, Tryz.ntmps26
  go_wp2
  go_loop [4] (fun iv => ∃ k : Nat, k ≤ S.size ∧ iv = .int .i64 (k : Int)) (fun iv => S.size + 1 - (intOf iv).toNat)
  case atStart => exact ⟨0, Nat.zero_le _, rfl⟩
  case round =>
    obtain ⟨k, hk, rfl⟩ := hrel
    by_cases hlt : k < S.size
    · have h47 : ((S[k].toNat : Int) == 47) = false := by
        have := HN.out k hlt
        have h2 : ¬ (S[k].toNat : Int) = 47 := fun e => this (UInt8.toNat_inj.1 (by rw [show (47 : UInt8).toNat = 47 from rfl]; omega))
        simpa using h2
      go_wp2
      go_round
      case rel => exact ⟨k + 1, by omega, by go_num⟩
      case measure => simp [intOf]; omega
    · have hn0 : ¬ (k : Int) < (S.size : Int) := by omega
      have c00 := hC.out.cell 0 0 rfl rfl
      have f00 := hC.out.free 0 0 rfl
      have c01 := hC.out.cell 0 1 rfl rfl
      have f01 := hC.out.free 0 1 rfl
      have c02 := hC.out.cell 0 2 rfl rfl
      have f02 := hC.out.free 0 2 rfl
      have c03 := hC.out.cell 0 3 rfl rfl
      have f03 := hC.out.free 0 3 rfl
      go_wp2_with fail
      refine (isIntN_any S _ (by omega)).mono ?_
      rw [HI.out]
      rintro e w3 ⟨rfl, rfl⟩
      go_wp2
      refine ret_st hC.out (v := .tuple #[.agg #[.int .i64 0, .slice none 0 0, .int .i64 0, .slice none 0 0], .int .i64 1]) (fun hF => ?_) rfl (fun hF => ⟨_, _, _, _, _, _, _, _, rfl, Nq.nil, hF.be⟩)
      · have e0 := hF.cell 0 0 rfl rfl
        have e1 := hF.cell 0 1 rfl rfl
        have e2 := hF.cell 0 2 rfl rfl
        have e3 := hF.cell 0 3 rfl rfl
        simp [results, Tryz.results26, go_sem, e0, e1, e2, e3]

set_option maxRecDepth 100000 in
set_option maxHeartbeats 4000000 in
theorem parseA_yes (S : ByteArray) (w : World) (hs : S.size ≤ 1000) (z : Int) (hn : ∀ j (h : j < S.size), S[j] ≠ 47) (hz : Dec.zread S.data.toList = some z) :
    Calls Tryz.prog 26 #[.string S] w (RetNQE w (z : Rat) 0) := by
  have HN := Lib.hid hn
  have HZ := Lib.hid hz
  have HI := Lib.hid (show (Dec.zread S.data.toList).isSome = true from by rw [hz]; rfl)
  clear hn hz
  have hC := Lib.hid ((St.enter w).al w.heap.size #[.int .i64 0, .slice none 0 0, .int .i64 0, .slice none 0 0] 54 rfl rfl)
  go_enter Tryz.func26, Tryz.ntmps26
  go_wp2
  go_loop [4] (fun iv => ∃ k : Nat, k ≤ S.size ∧ iv = .int .i64 (k : Int)) (fun iv => S.size + 1 - (intOf iv).toNat)
  case atStart => exact ⟨0, Nat.zero_le _, rfl⟩
  case round =>
    obtain ⟨k, hk, rfl⟩ := hrel
    by_cases hlt : k < S.size
    · have h47 : ((S[k].toNat : Int) == 47) = false := by
        have := HN.out k hlt
        have h2 : ¬ (S[k].toNat : Int) = 47 := fun e => this (UInt8.toNat_inj.1 (by rw [show (47 : UInt8).toNat = 47 from rfl]; omega))
        simpa using h2
      go_wp2
      go_round
      case rel => exact ⟨k + 1, by omega, by go_num⟩
      case measure => simp [intOf]; omega
    · have hn0 : ¬ (k : Int) < (S.size : Int) := by omega
      have c00 := hC.out.cell 0 0 rfl rfl
      have f00 := hC.out.free 0 0 rfl
      have c01 := hC.out.cell 0 1 rfl rfl
      have f01 := hC.out.free 0 1 rfl
      have c02 := hC.out.cell 0 2 rfl rfl
      have f02 := hC.out.free 0 2 rfl
      have c03 := hC.out.cell 0 3 rfl rfl
      have f03 := hC.out.free 0 3 rfl
      go_wp2_with fail
      refine (isIntN_any S _ (by omega)).mono ?_
      rw [HI.out]
      rintro e w3 ⟨rfl, rfl⟩
      go_wp2_with fail
      refine (zparse_read (by omega) HZ.out).mono ?_
      rintro e w4 ⟨s4, a4, n4, c4, rfl, hz, hb⟩
      have hC4 := Lib.hid ((hC.out.call hb).pn hz)
      clear hz hb hC c00 c01 c02 c03 f00 f01 f02 f03
      go_wp2_with fail
      refine (wholeN_any _ _ _ _ _ _ (hC4.out.n 0 rfl)).mono ?_
      rintro e w5 ⟨s5, a5, n5, c5, t5, d5, e5, f5, rfl, hz, hb⟩
      have hC5 := Lib.hid ((hC4.out.call hb).pq hz)
      clear hz hb hC4
      have c00 := hC5.out.cell 0 0 rfl rfl
      have f00 := hC5.out.free 0 0 rfl
      have c01 := hC5.out.cell 0 1 rfl rfl
      have f01 := hC5.out.free 0 1 rfl
      have c02 := hC5.out.cell 0 2 rfl rfl
      have f02 := hC5.out.free 0 2 rfl
      have c03 := hC5.out.cell 0 3 rfl rfl
      have f03 := hC5.out.free 0 3 rfl
      go_wp2
      refine ret_st (hC5.out.set4 0 rfl) (v := .tuple #[.agg #[.int .i64 s5, .slice a5 n5 c5, .int .i64 t5, .slice d5 e5 f5], .int .i64 0]) (fun hF => ?_) rfl (fun hF => ⟨_, _, _, _, _, _, _, _, rfl, hF.rq 1 rfl, hF.be⟩)
      · have e0 := hF.cell 0 0 rfl rfl
        have e1 := hF.cell 0 1 rfl rfl
        have e2 := hF.cell 0 2 rfl rfl
        have e3 := hF.cell 0 3 rfl rfl
        simp [results, Tryz.results26, go_sem, e0, e1, e2, e3]

set_option maxRecDepth 100000 in
set_option maxHeartbeats 4000000 in
theorem parseB_no1 (S : ByteArray) (w : World) (hs : S.size ≤ 1000) (i : Nat) (hi : i < S.size) (hn : ∀ j (h : j < i), S[j] ≠ 47) (h47 : S[i] = 47) (hz : Dec.zread (S.data.toList.take i) = none) :
    Calls Tryz.prog 26 #[.string S] w (RetNQE w 0 1) := by
  have HN := Lib.hid hn
  have hi47 : ((S[i].toNat : Int) == 47) = true := by rw [h47]; rfl
  obtain ⟨S1, hS1⟩ : ∃ S1 : ByteArray, S.extract 0 i = S1 := ⟨_, rfl⟩
  obtain ⟨S2, hS2⟩ : ∃ S2 : ByteArray, S.extract (i + 1) S.size = S2 := ⟨_, rfl⟩
  have hd1 : S1.data.toList = S.data.toList.take i := by rw [← hS1, ByteArray.data_extract, Array.toList_extract]; simp [List.extract]
  have hd2 : S2.data.toList = S.data.toList.drop (i + 1) := by rw [← hS2, Lib.extract_to_end]
  have HX1 := Lib.hid (show S1.size ≤ 1000 by rw [← hS1]; simp; omega)
  have HX2 := Lib.hid (show S2.size ≤ 1000 by rw [← hS2]; simp; omega)
  have HS1 := Lib.hid hS1
  have HS2 := Lib.hid hS2
  have hii : (i : Int) ≤ (S.size : Int) := by omega
  have hi0 : (0 : Int) ≤ (i : Int) := by omega
  have hi1 : (i : Int) + 1 ≤ (S.size : Int) := by omega
  have hi2 : (i : Int) < (S.size : Int) := by omega
  rw [← hd1] at hz
  have HI := Lib.hid (show (Dec.zread S1.data.toList).isSome = false from by rw [hz]; rfl)
  have HZ := Lib.hid hz
  clear hz
  clear hn h47 hS1 hS2 hd1 hd2
  have hC := Lib.hid ((St.enter w).al w.heap.size #[.int .i64 0, .slice none 0 0, .int .i64 0, .slice none 0 0] 54 rfl rfl)
  go_enter Tryz.func26, Tryz.ntmps26
  go_wp2
  go_loop [4] (fun iv => ∃ k : Nat, k ≤ i ∧ iv = .int .i64 (k : Int)) (fun iv => i + 1 - (intOf iv).toNat)
  case atStart => exact ⟨0, Nat.zero_le _, rfl⟩
  case round =>
    obtain ⟨k, hk, rfl⟩ := hrel
    by_cases hlt : k < i
    · have hkS : k < S.size := by omega
      have hkI : (k : Int) < (S.size : Int) := by omega
      have h47 : ((S[k].toNat : Int) == 47) = false := by
        have := HN.out k hlt
        have h2 : ¬ (S[k].toNat : Int) = 47 := fun e => this (UInt8.toNat_inj.1 (by rw [show (47 : UInt8).toNat = 47 from rfl]; omega))
        simpa using h2
      go_wp2
      go_round
      case rel => exact ⟨k + 1, by omega, by go_num⟩
      case measure => simp [intOf]; omega
    · obtain rfl : k = i := by omega
      have c00 := hC.out.cell 0 0 rfl rfl
      have f00 := hC.out.free 0 0 rfl
      have c01 := hC.out.cell 0 1 rfl rfl
      have f01 := hC.out.free 0 1 rfl
      have c02 := hC.out.cell 0 2 rfl rfl
      have f02 := hC.out.free 0 2 rfl
      have c03 := hC.out.cell 0 3 rfl rfl
      have f03 := hC.out.free 0 3 rfl
      go_wp2_with fail
      rw [HS1.out]
      refine (isIntN_any S1 _ (Nat.le_trans HX1.out (by omega))).mono ?_
      rw [HI.out]
      rintro e w3 ⟨rfl, rfl⟩
      go_wp2
      refine ret_st hC.out (v := .tuple #[.agg #[.int .i64 0, .slice none 0 0, .int .i64 0, .slice none 0 0], .int .i64 1]) (fun hF => ?_) rfl (fun hF => ⟨_, _, _, _, _, _, _, _, rfl, Nq.nil, hF.be⟩)
      · have e0 := hF.cell 0 0 rfl rfl
        have e1 := hF.cell 0 1 rfl rfl
        have e2 := hF.cell 0 2 rfl rfl
        have e3 := hF.cell 0 3 rfl rfl
        simp [results, Tryz.results26, go_sem, e0, e1, e2, e3]

set_option maxRecDepth 100000 in
set_option maxHeartbeats 4000000 in
theorem parseB_no2 (S : ByteArray) (w : World) (hs : S.size ≤ 1000) (i : Nat) (hi : i < S.size) (hn : ∀ j (h : j < i), S[j] ≠ 47) (h47 : S[i] = 47) (z : Int) (hz : Dec.zread (S.data.toList.take i) = some z) (hd : Dec.isDec (S.data.toList.drop (i + 1)) = false) :
    Calls Tryz.prog 26 #[.string S] w (RetNQE w 0 1) := by
  have HN := Lib.hid hn
  have hi47 : ((S[i].toNat : Int) == 47) = true := by rw [h47]; rfl
  obtain ⟨S1, hS1⟩ : ∃ S1 : ByteArray, S.extract 0 i = S1 := ⟨_, rfl⟩
  obtain ⟨S2, hS2⟩ : ∃ S2 : ByteArray, S.extract (i + 1) S.size = S2 := ⟨_, rfl⟩
  have hd1 : S1.data.toList = S.data.toList.take i := by rw [← hS1, ByteArray.data_extract, Array.toList_extract]; simp [List.extract]
  have hd2 : S2.data.toList = S.data.toList.drop (i + 1) := by rw [← hS2, Lib.extract_to_end]
  have HX1 := Lib.hid (show S1.size ≤ 1000 by rw [← hS1]; simp; omega)
  have HX2 := Lib.hid (show S2.size ≤ 1000 by rw [← hS2]; simp; omega)
  have HS1 := Lib.hid hS1
  have HS2 := Lib.hid hS2
  have hii : (i : Int) ≤ (S.size : Int) := by omega
  have hi0 : (0 : Int) ≤ (i : Int) := by omega
  have hi1 : (i : Int) + 1 ≤ (S.size : Int) := by omega
  have hi2 : (i : Int) < (S.size : Int) := by omega
  rw [← hd1] at hz
  have HI := Lib.hid (show (Dec.zread S1.data.toList).isSome = true from by rw [hz]; rfl)
  have HZ := Lib.hid hz
  clear hz
  rw [← hd2] at hd
  have HD := Lib.hid hd
  clear hd
  clear hn h47 hS1 hS2 hd1 hd2
  have hC := Lib.hid ((St.enter w).al w.heap.size #[.int .i64 0, .slice none 0 0, .int .i64 0, .slice none 0 0] 54 rfl rfl)
  go_enter Tryz.func26, Tryz.ntmps26
  go_wp2
  go_loop [4] (fun iv => ∃ k : Nat, k ≤ i ∧ iv = .int .i64 (k : Int)) (fun iv => i + 1 - (intOf iv).toNat)
  case atStart => exact ⟨0, Nat.zero_le _, rfl⟩
  case round =>
    obtain ⟨k, hk, rfl⟩ := hrel
    by_cases hlt : k < i
    · have hkS : k < S.size := by omega
      have hkI : (k : Int) < (S.size : Int) := by omega
      have h47 : ((S[k].toNat : Int) == 47) = false := by
        have := HN.out k hlt
        have h2 : ¬ (S[k].toNat : Int) = 47 := fun e => this (UInt8.toNat_inj.1 (by rw [show (47 : UInt8).toNat = 47 from rfl]; omega))
        simpa using h2
      go_wp2
      go_round
      case rel => exact ⟨k + 1, by omega, by go_num⟩
      case measure => simp [intOf]; omega
    · obtain rfl : k = i := by omega
      have c00 := hC.out.cell 0 0 rfl rfl
      have f00 := hC.out.free 0 0 rfl
      have c01 := hC.out.cell 0 1 rfl rfl
      have f01 := hC.out.free 0 1 rfl
      have c02 := hC.out.cell 0 2 rfl rfl
      have f02 := hC.out.free 0 2 rfl
      have c03 := hC.out.cell 0 3 rfl rfl
      have f03 := hC.out.free 0 3 rfl
      go_wp2_with fail
      rw [HS1.out]
      refine (isIntN_any S1 _ (Nat.le_trans HX1.out (by omega))).mono ?_
      rw [HI.out]
      rintro e w3 ⟨rfl, rfl⟩
      go_wp2_with fail
      rw [HS2.out]
      refine (digitsN_any S2 _ (Nat.le_trans HX2.out (by omega))).mono ?_
      rw [HD.out]
      rintro e w3 ⟨rfl, rfl⟩
      go_wp2
      refine ret_st hC.out (v := .tuple #[.agg #[.int .i64 0, .slice none 0 0, .int .i64 0, .slice none 0 0], .int .i64 1]) (fun hF => ?_) rfl (fun hF => ⟨_, _, _, _, _, _, _, _, rfl, Nq.nil, hF.be⟩)
      · have e0 := hF.cell 0 0 rfl rfl
        have e1 := hF.cell 0 1 rfl rfl
        have e2 := hF.cell 0 2 rfl rfl
        have e3 := hF.cell 0 3 rfl rfl
        simp [results, Tryz.results26, go_sem, e0, e1, e2, e3]

set_option maxRecDepth 100000 in
set_option maxHeartbeats 4000000 in
theorem parseB_zero (S : ByteArray) (w : World) (hs : S.size ≤ 1000) (i : Nat) (hi : i < S.size) (hn : ∀ j (h : j < i), S[j] ≠ 47) (h47 : S[i] = 47) (z : Int) (hz : Dec.zread (S.data.toList.take i) = some z) (hd : Dec.isDec (S.data.toList.drop (i + 1)) = true) (h0 : Dec.val (S.data.toList.drop (i + 1)) = 0) :
    Calls Tryz.prog 26 #[.string S] w (RetNQE w 0 2) := by
  have HN := Lib.hid hn
  have hi47 : ((S[i].toNat : Int) == 47) = true := by rw [h47]; rfl
  obtain ⟨S1, hS1⟩ : ∃ S1 : ByteArray, S.extract 0 i = S1 := ⟨_, rfl⟩
  obtain ⟨S2, hS2⟩ : ∃ S2 : ByteArray, S.extract (i + 1) S.size = S2 := ⟨_, rfl⟩
  have hd1 : S1.data.toList = S.data.toList.take i := by rw [← hS1, ByteArray.data_extract, Array.toList_extract]; simp [List.extract]
  have hd2 : S2.data.toList = S.data.toList.drop (i + 1) := by rw [← hS2, Lib.extract_to_end]
  have HX1 := Lib.hid (show S1.size ≤ 1000 by rw [← hS1]; simp; omega)
  have HX2 := Lib.hid (show S2.size ≤ 1000 by rw [← hS2]; simp; omega)
  have HS1 := Lib.hid hS1
  have HS2 := Lib.hid hS2
  have hii : (i : Int) ≤ (S.size : Int) := by omega
  have hi0 : (0 : Int) ≤ (i : Int) := by omega
  have hi1 : (i : Int) + 1 ≤ (S.size : Int) := by omega
  have hi2 : (i : Int) < (S.size : Int) := by omega
  rw [← hd1] at hz
  have HI := Lib.hid (show (Dec.zread S1.data.toList).isSome = true from by rw [hz]; rfl)
  have HZ := Lib.hid hz
  clear hz
  rw [← hd2] at hd
  have HD := Lib.hid hd
  clear hd
  rw [← hd2] at h0
  have HV := Lib.hid (show ((Dec.val S2.data.toList : Nat) : Int) = 0 by omega)
  have HDS := Lib.hid (isDec_digs HD.out)
  clear h0
  clear hn h47 hS1 hS2 hd1 hd2
  have hC := Lib.hid ((St.enter w).al w.heap.size #[.int .i64 0, .slice none 0 0, .int .i64 0, .slice none 0 0] 54 rfl rfl)
  go_enter Tryz.func26, Tryz.ntmps26
  go_wp2
  go_loop [4] (fun iv => ∃ k : Nat, k ≤ i ∧ iv = .int .i64 (k : Int)) (fun iv => i + 1 - (intOf iv).toNat)
  case atStart => exact ⟨0, Nat.zero_le _, rfl⟩
  case round =>
    obtain ⟨k, hk, rfl⟩ := hrel
    by_cases hlt : k < i
    · have hkS : k < S.size := by omega
      have hkI : (k : Int) < (S.size : Int) := by omega
      have h47 : ((S[k].toNat : Int) == 47) = false := by
        have := HN.out k hlt
        have h2 : ¬ (S[k].toNat : Int) = 47 := fun e => this (UInt8.toNat_inj.1 (by rw [show (47 : UInt8).toNat = 47 from rfl]; omega))
        simpa using h2
      go_wp2
      go_round
      case rel => exact ⟨k + 1, by omega, by go_num⟩
      case measure => simp [intOf]; omega
    · obtain rfl : k = i := by omega
      have c00 := hC.out.cell 0 0 rfl rfl
      have f00 := hC.out.free 0 0 rfl
      have c01 := hC.out.cell 0 1 rfl rfl
      have f01 := hC.out.free 0 1 rfl
      have c02 := hC.out.cell 0 2 rfl rfl
      have f02 := hC.out.free 0 2 rfl
      have c03 := hC.out.cell 0 3 rfl rfl
      have f03 := hC.out.free 0 3 rfl
      go_wp2_with fail
      rw [HS1.out]
      refine (isIntN_any S1 _ (Nat.le_trans HX1.out (by omega))).mono ?_
      rw [HI.out]
      rintro e w3 ⟨rfl, rfl⟩
      go_wp2_with fail
      rw [HS2.out]
      refine (digitsN_any S2 _ (Nat.le_trans HX2.out (by omega))).mono ?_
      rw [HD.out]
      rintro e w3 ⟨rfl, rfl⟩
      go_wp2_with fail
      rw [HS2.out]
      refine (zparse_dig S2 _ (Nat.le_trans HX2.out (by omega)) HDS.out).mono ?_
      rw [HV.out]
      rintro e w4 ⟨s4, a4, n4, c4, rfl, hz, hb⟩
      have hs0 := hz.s0
      have hC4 := Lib.hid (((hC.out.call hb).pn hz).al w4.heap.size #[.int .i64 s4, .slice a4 n4 c4] 31 rfl rfl)
      clear hz hb hC c00 c01 c02 c03 f00 f01 f02 f03
      have ds : (s4 == 0) = true := by simpa using hs0.2.2 rfl
      clear hs0
      have c00 := hC4.out.cell 0 0 rfl rfl
      have f00 := hC4.out.free 0 0 rfl
      have c01 := hC4.out.cell 0 1 rfl rfl
      have f01 := hC4.out.free 0 1 rfl
      have c02 := hC4.out.cell 0 2 rfl rfl
      have f02 := hC4.out.free 0 2 rfl
      have c03 := hC4.out.cell 0 3 rfl rfl
      have f03 := hC4.out.free 0 3 rfl
      have c10 := hC4.out.cell 1 0 rfl rfl
      go_wp2
      refine ret_st (hC4.out.set4 0 rfl) (v := .tuple #[.agg #[.int .i64 0, .slice none 0 0, .int .i64 0, .slice none 0 0], .int .i64 2]) (fun hF => ?_) rfl (fun hF => ⟨_, _, _, _, _, _, _, _, rfl, Nq.nil, hF.be⟩)
      · have e0 := hF.cell 0 0 rfl rfl
        have e1 := hF.cell 0 1 rfl rfl
        have e2 := hF.cell 0 2 rfl rfl
        have e3 := hF.cell 0 3 rfl rfl
        simp [results, Tryz.results26, go_sem, e0, e1, e2, e3]

set_option maxRecDepth 100000 in
set_option maxHeartbeats 4000000 in
theorem parseB_yes (S : ByteArray) (w : World) (hs : S.size ≤ 1000) (i : Nat) (hi : i < S.size) (hn : ∀ j (h : j < i), S[j] ≠ 47) (h47 : S[i] = 47) (z : Int) (y : Int) (hz : Dec.zread (S.data.toList.take i) = some z) (hd : Dec.isDec (S.data.toList.drop (i + 1)) = true) (hy : (Dec.val (S.data.toList.drop (i + 1)) : Int) = y) (hne : y ≠ 0) :
    Calls Tryz.prog 26 #[.string S] w (RetNQE w (Rat.divInt z y) 0) := by
  have HN := Lib.hid hn
  have hi47 : ((S[i].toNat : Int) == 47) = true := by rw [h47]; rfl
  obtain ⟨S1, hS1⟩ : ∃ S1 : ByteArray, S.extract 0 i = S1 := ⟨_, rfl⟩
  obtain ⟨S2, hS2⟩ : ∃ S2 : ByteArray, S.extract (i + 1) S.size = S2 := ⟨_, rfl⟩
  have hd1 : S1.data.toList = S.data.toList.take i := by rw [← hS1, ByteArray.data_extract, Array.toList_extract]; simp [List.extract]
  have hd2 : S2.data.toList = S.data.toList.drop (i + 1) := by rw [← hS2, Lib.extract_to_end]
  have HX1 := Lib.hid (show S1.size ≤ 1000 by rw [← hS1]; simp; omega)
  have HX2 := Lib.hid (show S2.size ≤ 1000 by rw [← hS2]; simp; omega)
  have HS1 := Lib.hid hS1
  have HS2 := Lib.hid hS2
  have hii : (i : Int) ≤ (S.size : Int) := by omega
  have hi0 : (0 : Int) ≤ (i : Int) := by omega
  have hi1 : (i : Int) + 1 ≤ (S.size : Int) := by omega
  have hi2 : (i : Int) < (S.size : Int) := by omega
  rw [← hd1] at hz
  have HI := Lib.hid (show (Dec.zread S1.data.toList).isSome = true from by rw [hz]; rfl)
  have HZ := Lib.hid hz
  clear hz
  rw [← hd2] at hd
  have HD := Lib.hid hd
  clear hd
  rw [← hd2] at hy
  have HV := Lib.hid hy
  have HDS := Lib.hid (isDec_digs HD.out)
  have HB := Lib.hid (show Bd 4000 y from by rw [← hy]; exact val_bd_m 1000 HDS.out (by simpa using HX2.out))
  have HBZ := Lib.hid (zread_bd HZ.out (by simpa using HX1.out))
  have HNE := Lib.hid hne
  clear hy hne
  clear hn h47 hS1 hS2 hd1 hd2
  have hC := Lib.hid ((St.enter w).al w.heap.size #[.int .i64 0, .slice none 0 0, .int .i64 0, .slice none 0 0] 54 rfl rfl)
  go_enter Tryz.func26, Tryz.ntmps26
  go_wp2
  go_loop [4] (fun iv => ∃ k : Nat, k ≤ i ∧ iv = .int .i64 (k : Int)) (fun iv => i + 1 - (intOf iv).toNat)
  case atStart => exact ⟨0, Nat.zero_le _, rfl⟩
  case round =>
    obtain ⟨k, hk, rfl⟩ := hrel
    by_cases hlt : k < i
    · have hkS : k < S.size := by omega
      have hkI : (k : Int) < (S.size : Int) := by omega
      have h47 : ((S[k].toNat : Int) == 47) = false := by
        have := HN.out k hlt
        have h2 : ¬ (S[k].toNat : Int) = 47 := fun e => this (UInt8.toNat_inj.1 (by rw [show (47 : UInt8).toNat = 47 from rfl]; omega))
        simpa using h2
      go_wp2
      go_round
      case rel => exact ⟨k + 1, by omega, by go_num⟩
      case measure => simp [intOf]; omega
    · obtain rfl : k = i := by omega
      have c00 := hC.out.cell 0 0 rfl rfl
      have f00 := hC.out.free 0 0 rfl
      have c01 := hC.out.cell 0 1 rfl rfl
      have f01 := hC.out.free 0 1 rfl
      have c02 := hC.out.cell 0 2 rfl rfl
      have f02 := hC.out.free 0 2 rfl
      have c03 := hC.out.cell 0 3 rfl rfl
      have f03 := hC.out.free 0 3 rfl
      go_wp2_with fail
      rw [HS1.out]
      refine (isIntN_any S1 _ (Nat.le_trans HX1.out (by omega))).mono ?_
      rw [HI.out]
      rintro e w3 ⟨rfl, rfl⟩
      go_wp2_with fail
      rw [HS2.out]
      refine (digitsN_any S2 _ (Nat.le_trans HX2.out (by omega))).mono ?_
      rw [HD.out]
      rintro e w3 ⟨rfl, rfl⟩
      go_wp2_with fail
      rw [HS2.out]
      refine (zparse_dig S2 _ (Nat.le_trans HX2.out (by omega)) HDS.out).mono ?_
      rw [HV.out]
      rintro e w4 ⟨s4, a4, n4, c4, rfl, hz, hb⟩
      have hs0 := hz.s0
      have hC4 := Lib.hid (((hC.out.call hb).pn hz).al w4.heap.size #[.int .i64 s4, .slice a4 n4 c4] 31 rfl rfl)
      clear hz hb hC c00 c01 c02 c03 f00 f01 f02 f03
      have ds : (s4 == 0) = false := by
        have h2 : s4 ≠ 0 := fun e => HNE.out (hs0.2.1 e)
        simpa using h2
      clear hs0
      have c10 := hC4.out.cell 1 0 rfl rfl
      go_upto_region 10 with fail
      refine wp_gen hC4.out ?_
      intro W hc
      clear hC4 c10
      have hD := Lib.hid hc
      clear hc
      refine wp_region_noPanic ?_
      refine wp_region_held_drew (S := (fun w' => w'.cell? ⟨w4.heap.size, 0, none⟩ = some (.int .i64 s4) ∧ w'.cell? ⟨w4.heap.size, 1, none⟩ = some (.slice a4 n4 c4) ∧ True)) (by kernel_rfl) ⟨hD.out.drew.cell 1 0 rfl rfl, hD.out.drew.cell 1 1 rfl rfl, trivial⟩ (fun hH => ?_)
      refine wpAnyH_gen (show St w _ [(w.heap.size, #[.int .i64 0, .slice none 0 0, .int .i64 0, .slice none 0 0], 54), (w4.heap.size, #[.int .i64 s4, .slice a4 n4 c4], 31)] [fun V => Nz V s4 (.slice a4 n4 c4) (y)] from hD.out.drew) hH ?_
      intro V60_0 hc hH60_0
      have hV60_0 := Lib.hid hc
      clear hc hH hD
      refine wpAnyH_take (i := 0) (oi := ⟨_, _, _, _, _, _⟩) (v := ?_) rfl (by kernel_rfl) (by kernel_rfl) (by kernel_rfl) (fun _ _ _ h => h) (Or.inl ⟨by rfl, ?_⟩) hH60_0 ?_
      rotate_left
      · intro wS hSw; (try dsimp only at hSw); go_simp; try with_reducible rfl
      try simp only [Act.put, List.setIfInBounds_toArray, List.set_cons_zero, List.set_cons_succ]
      refine wpAnyH_take (i := 1) (oi := ⟨_, _, _, _, _, _⟩) (v := ?_) rfl (by kernel_rfl) (by kernel_rfl) (by kernel_rfl) (fun _ _ _ h => h) (Or.inl ⟨by rfl, ?_⟩) hH60_0 ?_
      rotate_left
      · intro wS hSw; (try dsimp only at hSw); go_simp; try with_reducible rfl
      try simp only [Act.put, List.setIfInBounds_toArray, List.set_cons_zero, List.set_cons_succ]
      refine wpAnyH_take (i := 2) (oi := ⟨_, _, _, _, _, _⟩) (v := ?_) rfl (by kernel_rfl) (by kernel_rfl) (by kernel_rfl) (fun _ _ _ h => h) (Or.inl ⟨by rfl, ?_⟩) hH60_0 ?_
      rotate_left
      · intro wS hSw; (try dsimp only at hSw); go_simp; try with_reducible rfl
      try simp only [Act.put, List.setIfInBounds_toArray, List.set_cons_zero, List.set_cons_succ]
      refine wpAnyH_take (i := 4) (oi := ⟨_, _, _, _, _, _⟩) (v := ?_) rfl (by kernel_rfl) (by kernel_rfl) (by kernel_rfl) (fun _ _ _ h => h) (Or.inl ⟨by rfl, ?_⟩) hH60_0 ?_
      rotate_left
      · intro wS hSw; (try dsimp only at hSw); go_simp; try with_reducible rfl
      try simp only [Act.put, List.setIfInBounds_toArray, List.set_cons_zero, List.set_cons_succ]
      refine wpAnyH_ready (rs := [3]) (by kernel_rfl) (by simp) ?_
      refine AllReadyH.cons (o := ⟨_, _, _, _, _, _⟩) rfl (fun Kq hKq => ?_) AllReadyH.nil
      go_simp
      go_at_call 25
      rw [HS1.out]
      refine (zparse_read (Nat.le_trans HX1.out (by omega)) HZ.out).mono ?_
      rintro e w60 ⟨s60, a60, n60, c60, rfl, hz, hb⟩
      (try go_wp2_with fail)
      refine stepH hKq (show St w _ [(w.heap.size, #[.int .i64 0, .slice none 0 0, .int .i64 0, .slice none 0 0], 54), (w4.heap.size, #[.int .i64 s4, .slice a4 n4 c4], 31)] [fun V => Nz V s4 (.slice a4 n4 c4) (y), fun V => Nz V s60 (.slice a60 n60 c60) (z)] from ((hV60_0.out.call hb).pn hz)) (fun _ hX => ⟨hX.cell 1 0 rfl rfl, hX.cell 1 1 rfl rfl, trivial⟩) ?_
      intro V60_1 hc hH60_1
      have hV60_1 := Lib.hid hc
      clear hc hKq Kq hV60_0 hb hz hH60_0
      try simp only [Act.put, List.setIfInBounds_toArray, List.set_cons_zero, List.set_cons_succ]
      refine wpAnyH_ready (rs := [5]) (by kernel_rfl) (by simp) ?_
      refine AllReadyH.cons (o := ⟨_, _, _, _, _, _⟩) rfl (fun Kq hKq => ?_) AllReadyH.nil
      go_simp
      go_at_call 55
      refine (ofzN_b (hV60_1.out.n 1 rfl) (hV60_1.out.n 0 rfl) HBZ.out HB.out (by omega) (by omega) HNE.out).mono ?_
      rintro e w61 ⟨s61, a61, n61, c61, t61, d61, e61, f61, rfl, hz, hb⟩
      (try go_wp2_with fail)
      refine stepH hKq (show St w _ [(w.heap.size, #[.int .i64 0, .slice none 0 0, .int .i64 0, .slice none 0 0], 54), (w4.heap.size, #[.int .i64 s4, .slice a4 n4 c4], 31)] [fun V => Nz V s4 (.slice a4 n4 c4) (y), fun V => Nz V s60 (.slice a60 n60 c60) (z), fun V => Nq V s61 (.slice a61 n61 c61) t61 (.slice d61 e61 f61) (Rat.divInt z y)] from ((hV60_1.out.call hb).pq hz)) (fun _ hX => ⟨hX.cell 1 0 rfl rfl, hX.cell 1 1 rfl rfl, trivial⟩) ?_
      intro V60_2 hc hH60_2
      have hV60_2 := Lib.hid hc
      clear hc hKq Kq hV60_1 hb hz hH60_1
      try simp only [Act.put, List.setIfInBounds_toArray, List.set_cons_zero, List.set_cons_succ]
      refine wpAnyH_ready (rs := [6]) (by kernel_rfl) (by simp) ?_
      refine AllReadyH.cons (o := ⟨_, _, _, _, _, _⟩) rfl (fun Kq hKq => ?_) AllReadyH.nil
      have cQ0 := hV60_2.out.cell 0 0 rfl rfl
      have fQ0 := hV60_2.out.free 0 0 rfl
      have cQ1 := hV60_2.out.cell 0 1 rfl rfl
      have fQ1 := hV60_2.out.free 0 1 rfl
      have cQ2 := hV60_2.out.cell 0 2 rfl rfl
      have fQ2 := hV60_2.out.free 0 2 rfl
      have cQ3 := hV60_2.out.cell 0 3 rfl rfl
      have fQ3 := hV60_2.out.free 0 3 rfl
      go_simp
      refine stepH hKq (show St w _ [(w.heap.size, #[.int .i64 s61, .slice a61 n61 c61, .int .i64 t61, .slice d61 e61 f61], 54), (w4.heap.size, #[.int .i64 s4, .slice a4 n4 c4], 31)] [fun V => Nz V s4 (.slice a4 n4 c4) (y), fun V => Nz V s60 (.slice a60 n60 c60) (z), fun V => Nq V s61 (.slice a61 n61 c61) t61 (.slice d61 e61 f61) (Rat.divInt z y)] from (hV60_2.out.set4 0 rfl)) (fun _ hX => ⟨hX.cell 1 0 rfl rfl, hX.cell 1 1 rfl rfl, trivial⟩) ?_
      intro V60_3 hc hH60_3
      have hV60_3 := Lib.hid hc
      clear hc hKq Kq hV60_2 cQ0 fQ0 cQ1 fQ1 cQ2 fQ2 cQ3 fQ3 hH60_2
      try simp only [Act.put, List.setIfInBounds_toArray, List.set_cons_zero, List.set_cons_succ]
      refine wpAnyH_ready (rs := [7]) (by kernel_rfl) (by simp) ?_
      refine AllReadyH.cons (o := ⟨_, _, _, _, _, _⟩) rfl (fun Kq hKq => ?_) AllReadyH.nil
      go_simp
      refine stepH hKq (show St w _ [(w.heap.size, #[.int .i64 s61, .slice a61 n61 c61, .int .i64 t61, .slice d61 e61 f61], 54), (w4.heap.size, #[.int .i64 s4, .slice a4 n4 c4], 31)] [fun V => Nz V s4 (.slice a4 n4 c4) (y), fun V => Nz V s60 (.slice a60 n60 c60) (z), fun V => Nq V s61 (.slice a61 n61 c61) t61 (.slice d61 e61 f61) (Rat.divInt z y)] from hV60_3.out) (fun _ hX => ⟨hX.cell 1 0 rfl rfl, hX.cell 1 1 rfl rfl, trivial⟩) ?_
      intro V60_4 hc hH60_4
      have hV60_4 := Lib.hid hc
      clear hc hKq Kq hV60_3 hH60_3
      try simp only [Act.put, List.setIfInBounds_toArray, List.set_cons_zero, List.set_cons_succ]
      refine wpAnyH_done (by kernel_rfl) ?_ _
      refine NoPanic.normal ?_
      go_wp2
      refine ret_st hV60_4.out (v := .tuple #[.agg #[.int .i64 s61, .slice a61 n61 c61, .int .i64 t61, .slice d61 e61 f61], .int .i64 0]) (fun hF => ?_) rfl (fun hF => ⟨_, _, _, _, _, _, _, _, rfl, hF.rq 2 rfl, hF.be⟩)
      · have e0 := hF.cell 0 0 rfl rfl
        have e1 := hF.cell 0 1 rfl rfl
        have e2 := hF.cell 0 2 rfl rfl
        have e3 := hF.cell 0 3 rfl rfl
        simp [results, Tryz.results26, go_sem, e0, e1, e2, e3]

end Go.Proofs.YtmfplelodnoicaaGreatDoor

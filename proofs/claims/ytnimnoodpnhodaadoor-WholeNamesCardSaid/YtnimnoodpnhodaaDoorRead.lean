/- digits: read; texts that are decimal digits -/
import Derived.Test.YtnimnoodpnhodaaDoorSt
import Derived.Test.YtnimnoodpnhodaaDoorTimes
import Derived.Test.YtnimnoodpnhodaaDoorPlus
import Derived.Test.YtnimnoodpnhodaaDoorShift
import Derived.Test.YtnimnoodpnhodaaDoorDec
namespace Go.Proofs.YtnimnoodpnhodaaDoor
open Go.RowKit Dig

theorem word_int (z : Int) (w : World) (h0 : 0 ≤ z) (h : z < 18446744073709551616) : Calls Tryd.prog 37 #[.int .u64 z] w (RetD w z.toNat) := by
  have := word_any z.toNat w (by omega)
  rw [Int.toNat_of_nonneg h0] at this
  exact this

theorem take_snoc (s : ByteArray) (k : Nat) (h : k < s.size) : s.data.toList.take (k + 1) = s.data.toList.take k ++ [s[k]] := by
  rw [List.take_succ_eq_append_getElem (by simpa using h)]; rfl
theorem dg_pow_le {n k : Nat} (h : n < 10 ^ k) : (dg 16777216 n).length ≤ k :=
  dg_len_le (by omega) (Nat.lt_of_lt_of_le h (Nat.pow_le_pow_left (by omega) _))

set_option maxRecDepth 100000 in
set_option maxHeartbeats 1000000 in
theorem read_any (s : ByteArray) (w : World) (hd : ∀ c ∈ s.data.toList, Dec.isDig c = true) (hs : s.size ≤ 100000) :
    Calls Tryd.prog 31 #[.string s] w (RetD w (Dec.val s.data.toList)) := by
  have hC := Lib.hid (((St.enter w).al w.heap.size #[.slice none 0 0] 25 rfl rfl).al (w.heap.size + 1) #[.slice none 0 0] 25 (by simp) rfl)
  have HD := Lib.hid hd
  clear hd
  go_enter Tryd.func31, Tryd.ntmps31
  go_wp2
  go_loopw [7] (fun iv wr => ∃ (k : Nat) (a : Option Addr) (n c : Nat), k ≤ s.size ∧ iv = .int .i64 k ∧ Hid (St w wr [(w.heap.size, #[.slice none 0 0], 25), (w.heap.size + 1, #[.slice a n c], 25)] [fun V => Dg V (.slice a n c) (Dec.val (s.data.toList.take k))])) (fun i _ => s.size - (intOf i).toNat)
  case atStart => exact ⟨0, none, 0, 0, by omega, rfl, hC.out.pd (show Dg _ _ _ from by unfold Dg; rw [List.take_zero, Dec.val_nil, dg_zero]; exact Sl.nil)⟩
  case round =>
    clear hC
    obtain ⟨k, a, n, c, hk, rfl, hC⟩ := hrel
    by_cases hlt : k < s.size
    · have hdk := HD.out s[k] (by rw [ByteArray.getElem_eq_getElem_data]; simp)
      unfold Dec.isDig at hdk
      simp only [Bool.and_eq_true, decide_eq_true_eq] at hdk
      have hlo : (48 : Int) ≤ (s[k].toNat : Int) := by omega
      have hhi : (s[k].toNat : Int) ≤ 57 := by omega
      have HV := Lib.hid (show Dec.val (s.data.toList.take k) < 10 ^ k from by
        have := Dec.val_lt (l := s.data.toList.take k) (fun c hc => HD.out c (List.mem_of_mem_take hc))
        rw [List.length_take, Nat.min_eq_left (by simpa using hk)] at this
        exact this)
      have HN := Lib.hid (show Dec.val (s.data.toList.take (k + 1)) = 10 * Dec.val (s.data.toList.take k) + (s[k].toNat - 48) from by rw [take_snoc s k hlt, Dec.val_snoc])
      have HL1 := Lib.hid (dg_pow_le HV.out)
      have HL2 := Lib.hid (show (dg 16777216 (Dec.val (s.data.toList.take k) * 10)).length ≤ k + 1 from dg_pow_le (by have := HV.out; rw [Nat.pow_succ]; omega))
      clear hdk
      have c10 := hC.out.cell 1 0 rfl rfl
      go_wp2
      have HL3 := Lib.hid (show (dg 16777216 10).length ≤ 10000000 from Nat.le_trans (dg_pow_le (k := 2) (by omega)) (by omega))
      have HL4 := Lib.hid (show (dg 16777216 ((s[k].toNat : Int) - 48).toNat).length ≤ 10000000 from Nat.le_trans (dg_pow_le (k := 2) (by omega)) (by omega))
      have tok1 : True := trivial
      have hw1 : IntKind.u8.wrap ((s[k].toNat : Int) - 48) = (s[k].toNat : Int) - 48 := by rw [IntKind.wrap_u8]; omega
      have hw2 : IntKind.u64.wrap ((s[k].toNat : Int) - 48) = (s[k].toNat : Int) - 48 := by rw [IntKind.wrap_u64]; omega
      refine wp_region_noPanic ?_
      refine wp_region_held_drew (S := (fun _ => True)) (by kernel_rfl) ?_ (fun hH0 => ?_)
      · (try dsimp only)
        all_goals (trivial)
      refine wpAnyH_take (i := 3) (oi := ⟨_, _, _, _, _, _⟩) (v := ?_) rfl (by kernel_rfl) (by kernel_rfl) (by kernel_rfl) (fun _ _ _ h => h) (Or.inl ⟨by rfl, ?_⟩) hH0 ?_
      rotate_left
      · intro wS hSw; (try dsimp only at hSw); go_simp; try with_reducible rfl
      try simp only [Act.put, List.setIfInBounds_toArray, List.set_cons_zero, List.set_cons_succ]
      refine wpAnyH_take (i := 4) (oi := ⟨_, _, _, _, _, _⟩) (v := ?_) rfl (by kernel_rfl) (by kernel_rfl) (by kernel_rfl) (fun _ _ _ h => h) (Or.inl ⟨by rfl, ?_⟩) hH0 ?_
      rotate_left
      · intro wS hSw; (try dsimp only at hSw); go_simp; try with_reducible rfl
      try simp only [Act.put, List.setIfInBounds_toArray, List.set_cons_zero, List.set_cons_succ]
      refine wpAnyH_ready (rs := [0, 1, 5]) (by kernel_rfl) (by simp) ?_
      refine AllReadyH.cons (o := ⟨_, _, _, _, _, _⟩) rfl (fun K hK => ?_) ?_
      · go_simp
        refine hK.out _ _ ?_ (fun hH1 => ?_)
        · (try dsimp only)
          all_goals (trivial)
        clear hK K hH0
        try simp only [Act.put, List.setIfInBounds_toArray, List.set_cons_zero, List.set_cons_succ]
        refine wpAnyH_ready (rs := [1, 5]) (by kernel_rfl) (by simp) ?_
        refine AllReadyH.cons (o := ⟨_, _, _, _, _, _⟩) rfl (fun K hK => ?_) ?_
        · go_simp
          (have _t := tok1; go_at_call 37; refine (word_any 10 _ (by omega)).mono ?_; rintro e wa ⟨b1, k1, l1, rfl, hdd, hb⟩; have hCa := Lib.hid ((hC.out.drew.call hb).pd hdd); clear hdd hb; have c10a := hCa.out.cell 1 0 rfl rfl; clear tok1 _t)
          (try go_wp2_with fail)
          refine hK.out _ _ ?_ (fun hH2 => ?_)
          · (try dsimp only)
            all_goals (trivial)
          clear hK K hH1
          try simp only [Act.put, List.setIfInBounds_toArray, List.set_cons_zero, List.set_cons_succ]
          refine wpAnyH_ready (rs := [2, 5]) (by kernel_rfl) (by simp) ?_
          refine AllReadyH.cons (o := ⟨_, _, _, _, _, _⟩) rfl (fun K hK => ?_) ?_
          · go_simp
            (go_at_call 46; refine (times_any _ _ _ _ _ _ _ _ _ (hCa.out.d 0 rfl) (hCa.out.d 1 rfl) (Nat.le_trans HL1.out (by omega)) HL3.out).mono ?_; rintro e wb ⟨b2, k2, l2, rfl, hdd, hb⟩; have hCb := Lib.hid ((hCa.out.call hb).pd hdd); clear hdd hb)
            (try go_wp2_with fail)
            refine hK.out _ _ ?_ (fun hH3 => ?_)
            · (try dsimp only)
              all_goals (trivial)
            clear hK K hH2
            try simp only [Act.put, List.setIfInBounds_toArray, List.set_cons_zero, List.set_cons_succ]
            refine wpAnyH_ready (rs := [5]) (by kernel_rfl) (by simp) ?_
            refine AllReadyH.cons (o := ⟨_, _, _, _, _, _⟩) rfl (fun K hK => ?_) ?_
            · go_simp
              refine hK.out _ _ ?_ (fun hH4 => ?_)
              · (try dsimp only)
                all_goals (trivial)
              clear hK K hH3
              try simp only [Act.put, List.setIfInBounds_toArray, List.set_cons_zero, List.set_cons_succ]
              refine wpAnyH_take (i := 6) (oi := ⟨_, _, _, _, _, _⟩) (v := ?_) rfl (by kernel_rfl) (by kernel_rfl) (by kernel_rfl) (fun _ _ _ h => h) (Or.inl ⟨by rfl, ?_⟩) hH4 ?_
              rotate_left
              · intro wS hSw; (try dsimp only at hSw); go_simp; try with_reducible rfl
              try simp only [Act.put, List.setIfInBounds_toArray, List.set_cons_zero, List.set_cons_succ]
              refine wpAnyH_take (i := 7) (oi := ⟨_, _, _, _, _, _⟩) (v := ?_) rfl (by kernel_rfl) (by kernel_rfl) (by kernel_rfl) (fun _ _ _ h => h) (Or.inl ⟨by rfl, ?_⟩) hH4 ?_
              rotate_left
              · intro wS hSw; (try dsimp only at hSw); go_simp; try with_reducible rfl
              try simp only [Act.put, List.setIfInBounds_toArray, List.set_cons_zero, List.set_cons_succ]
              refine wpAnyH_ready (rs := [8]) (by kernel_rfl) (by simp) ?_
              refine AllReadyH.cons (o := ⟨_, _, _, _, _, _⟩) rfl (fun K hK => ?_) ?_
              · go_simp
                (have _t := hCb; go_at_call 37; refine (word_int _ _ (by omega) (by omega)).mono ?_; rintro e wc ⟨b3, k3, l3, rfl, hdd, hb⟩; have hCc := Lib.hid ((hCb.out.call hb).pd hdd); clear hdd hb _t)
                (try go_wp2_with fail)
                refine hK.out _ _ ?_ (fun hH5 => ?_)
                · (try dsimp only)
                  all_goals (trivial)
                clear hK K hH4
                try simp only [Act.put, List.setIfInBounds_toArray, List.set_cons_zero, List.set_cons_succ]
                refine wpAnyH_ready (rs := [9]) (by kernel_rfl) (by simp) ?_
                refine AllReadyH.cons (o := ⟨_, _, _, _, _, _⟩) rfl (fun K hK => ?_) ?_
                · go_simp
                  (go_at_call 47; refine (plus_any _ _ _ _ _ _ 1 (Dec.val (s.data.toList.take k) * 10) ((s[k].toNat : Int) - 48).toNat _ (hCc.out.d 2 rfl) (hCc.out.d 3 rfl) (.inl rfl) (by omega) (Nat.le_trans HL2.out (by omega)) HL4.out).mono ?_; rintro e wd ⟨b4, k4, l4, rfl, hdd, hb⟩; have hCd := Lib.hid ((hCc.out.call hb).pd hdd); clear hdd hb; have d10 := hCd.out.cell 1 0 rfl rfl; have e10 := hCd.out.free 1 0 rfl)
                  (try go_wp2_with fail)
                  refine hK.out _ _ ?_ (fun hH6 => ?_)
                  · (try dsimp only)
                    all_goals (trivial)
                  clear hK K hH5
                  try simp only [Act.put, List.setIfInBounds_toArray, List.set_cons_zero, List.set_cons_succ]
                  refine wpAnyH_ready (rs := [10]) (by kernel_rfl) (by simp) ?_
                  refine AllReadyH.cons (o := ⟨_, _, _, _, _, _⟩) rfl (fun K hK => ?_) ?_
                  · go_simp
                    refine hK.out _ _ ?_ (fun hH7 => ?_)
                    · (try dsimp only)
                      all_goals (trivial)
                    clear hK K hH6
                    try simp only [Act.put, List.setIfInBounds_toArray, List.set_cons_zero, List.set_cons_succ]
                    refine wpAnyH_done (by kernel_rfl) ?_ _
                    refine NoPanic.normal ?_
                    go_wp2
                    go_roundw
                    case rel =>
                      have e : ((Dec.val (s.data.toList.take k) * 10 : Nat) : Int) + 1 * (((s[k].toNat : Int) - 48).toNat : Int) = ((Dec.val (s.data.toList.take (k + 1)) : Nat) : Int) := by rw [HN.out]; omega
                      refine ⟨k + 1, b4, k4, l4, by omega, by go_num, ?_⟩
                      have h4 := hCd.out.d 4 rfl
                      rw [e, Int.toNat_natCast] at h4
                      exact ((hCd.out.pd h4).set (j := 0) (v := .slice b4 k4 l4) 1 rfl).pick [5] rfl
                    case measure => simp [intOf]; omega
                  exact AllReadyH.nil
                exact AllReadyH.nil
              exact AllReadyH.nil
            exact AllReadyH.nil
          refine AllReadyH.cons (o := ⟨_, _, _, _, _, _⟩) rfl (fun K hK => ?_) ?_
          · go_simp
            refine hK.out _ _ ?_ (fun hH3 => ?_)
            · (try dsimp only)
              all_goals (trivial)
            clear hK K hH2
            try simp only [Act.put, List.setIfInBounds_toArray, List.set_cons_zero, List.set_cons_succ]
            refine wpAnyH_take (i := 6) (oi := ⟨_, _, _, _, _, _⟩) (v := ?_) rfl (by kernel_rfl) (by kernel_rfl) (by kernel_rfl) (fun _ _ _ h => h) (Or.inl ⟨by rfl, ?_⟩) hH3 ?_
            rotate_left
            · intro wS hSw; (try dsimp only at hSw); go_simp; try with_reducible rfl
            try simp only [Act.put, List.setIfInBounds_toArray, List.set_cons_zero, List.set_cons_succ]
            refine wpAnyH_take (i := 7) (oi := ⟨_, _, _, _, _, _⟩) (v := ?_) rfl (by kernel_rfl) (by kernel_rfl) (by kernel_rfl) (fun _ _ _ h => h) (Or.inl ⟨by rfl, ?_⟩) hH3 ?_
            rotate_left
            · intro wS hSw; (try dsimp only at hSw); go_simp; try with_reducible rfl
            try simp only [Act.put, List.setIfInBounds_toArray, List.set_cons_zero, List.set_cons_succ]
            refine wpAnyH_ready (rs := [2]) (by kernel_rfl) (by simp) ?_
            refine AllReadyH.cons (o := ⟨_, _, _, _, _, _⟩) rfl (fun K hK => ?_) ?_
            · go_simp
              (go_at_call 46; refine (times_any _ _ _ _ _ _ _ _ _ (hCa.out.d 0 rfl) (hCa.out.d 1 rfl) (Nat.le_trans HL1.out (by omega)) HL3.out).mono ?_; rintro e wb ⟨b2, k2, l2, rfl, hdd, hb⟩; have hCb := Lib.hid ((hCa.out.call hb).pd hdd); clear hdd hb)
              (try go_wp2_with fail)
              refine hK.out _ _ ?_ (fun hH4 => ?_)
              · (try dsimp only)
                all_goals (trivial)
              clear hK K hH3
              try simp only [Act.put, List.setIfInBounds_toArray, List.set_cons_zero, List.set_cons_succ]
              refine wpAnyH_ready (rs := [8]) (by kernel_rfl) (by simp) ?_
              refine AllReadyH.cons (o := ⟨_, _, _, _, _, _⟩) rfl (fun K hK => ?_) ?_
              · go_simp
                (have _t := hCb; go_at_call 37; refine (word_int _ _ (by omega) (by omega)).mono ?_; rintro e wc ⟨b3, k3, l3, rfl, hdd, hb⟩; have hCc := Lib.hid ((hCb.out.call hb).pd hdd); clear hdd hb _t)
                (try go_wp2_with fail)
                refine hK.out _ _ ?_ (fun hH5 => ?_)
                · (try dsimp only)
                  all_goals (trivial)
                clear hK K hH4
                try simp only [Act.put, List.setIfInBounds_toArray, List.set_cons_zero, List.set_cons_succ]
                refine wpAnyH_ready (rs := [9]) (by kernel_rfl) (by simp) ?_
                refine AllReadyH.cons (o := ⟨_, _, _, _, _, _⟩) rfl (fun K hK => ?_) ?_
                · go_simp
                  (go_at_call 47; refine (plus_any _ _ _ _ _ _ 1 (Dec.val (s.data.toList.take k) * 10) ((s[k].toNat : Int) - 48).toNat _ (hCc.out.d 2 rfl) (hCc.out.d 3 rfl) (.inl rfl) (by omega) (Nat.le_trans HL2.out (by omega)) HL4.out).mono ?_; rintro e wd ⟨b4, k4, l4, rfl, hdd, hb⟩; have hCd := Lib.hid ((hCc.out.call hb).pd hdd); clear hdd hb; have d10 := hCd.out.cell 1 0 rfl rfl; have e10 := hCd.out.free 1 0 rfl)
                  (try go_wp2_with fail)
                  refine hK.out _ _ ?_ (fun hH6 => ?_)
                  · (try dsimp only)
                    all_goals (trivial)
                  clear hK K hH5
                  try simp only [Act.put, List.setIfInBounds_toArray, List.set_cons_zero, List.set_cons_succ]
                  refine wpAnyH_ready (rs := [10]) (by kernel_rfl) (by simp) ?_
                  refine AllReadyH.cons (o := ⟨_, _, _, _, _, _⟩) rfl (fun K hK => ?_) ?_
                  · go_simp
                    refine hK.out _ _ ?_ (fun hH7 => ?_)
                    · (try dsimp only)
                      all_goals (trivial)
                    clear hK K hH6
                    try simp only [Act.put, List.setIfInBounds_toArray, List.set_cons_zero, List.set_cons_succ]
                    refine wpAnyH_done (by kernel_rfl) ?_ _
                    refine NoPanic.normal ?_
                    go_wp2
                    go_roundw
                    case rel =>
                      have e : ((Dec.val (s.data.toList.take k) * 10 : Nat) : Int) + 1 * (((s[k].toNat : Int) - 48).toNat : Int) = ((Dec.val (s.data.toList.take (k + 1)) : Nat) : Int) := by rw [HN.out]; omega
                      refine ⟨k + 1, b4, k4, l4, by omega, by go_num, ?_⟩
                      have h4 := hCd.out.d 4 rfl
                      rw [e, Int.toNat_natCast] at h4
                      exact ((hCd.out.pd h4).set (j := 0) (v := .slice b4 k4 l4) 1 rfl).pick [5] rfl
                    case measure => simp [intOf]; omega
                  exact AllReadyH.nil
                exact AllReadyH.nil
              exact AllReadyH.nil
            exact AllReadyH.nil
          exact AllReadyH.nil
        refine AllReadyH.cons (o := ⟨_, _, _, _, _, _⟩) rfl (fun K hK => ?_) ?_
        · go_simp
          refine hK.out _ _ ?_ (fun hH2 => ?_)
          · (try dsimp only)
            all_goals (trivial)
          clear hK K hH1
          try simp only [Act.put, List.setIfInBounds_toArray, List.set_cons_zero, List.set_cons_succ]
          refine wpAnyH_take (i := 6) (oi := ⟨_, _, _, _, _, _⟩) (v := ?_) rfl (by kernel_rfl) (by kernel_rfl) (by kernel_rfl) (fun _ _ _ h => h) (Or.inl ⟨by rfl, ?_⟩) hH2 ?_
          rotate_left
          · intro wS hSw; (try dsimp only at hSw); go_simp; try with_reducible rfl
          try simp only [Act.put, List.setIfInBounds_toArray, List.set_cons_zero, List.set_cons_succ]
          refine wpAnyH_take (i := 7) (oi := ⟨_, _, _, _, _, _⟩) (v := ?_) rfl (by kernel_rfl) (by kernel_rfl) (by kernel_rfl) (fun _ _ _ h => h) (Or.inl ⟨by rfl, ?_⟩) hH2 ?_
          rotate_left
          · intro wS hSw; (try dsimp only at hSw); go_simp; try with_reducible rfl
          try simp only [Act.put, List.setIfInBounds_toArray, List.set_cons_zero, List.set_cons_succ]
          refine wpAnyH_ready (rs := [1]) (by kernel_rfl) (by simp) ?_
          refine AllReadyH.cons (o := ⟨_, _, _, _, _, _⟩) rfl (fun K hK => ?_) ?_
          · go_simp
            (have _t := tok1; go_at_call 37; refine (word_any 10 _ (by omega)).mono ?_; rintro e wa ⟨b1, k1, l1, rfl, hdd, hb⟩; have hCa := Lib.hid ((hC.out.drew.call hb).pd hdd); clear hdd hb; have c10a := hCa.out.cell 1 0 rfl rfl; clear tok1 _t)
            (try go_wp2_with fail)
            refine hK.out _ _ ?_ (fun hH3 => ?_)
            · (try dsimp only)
              all_goals (trivial)
            clear hK K hH2
            try simp only [Act.put, List.setIfInBounds_toArray, List.set_cons_zero, List.set_cons_succ]
            refine wpAnyH_ready (rs := [2]) (by kernel_rfl) (by simp) ?_
            refine AllReadyH.cons (o := ⟨_, _, _, _, _, _⟩) rfl (fun K hK => ?_) ?_
            · go_simp
              (go_at_call 46; refine (times_any _ _ _ _ _ _ _ _ _ (hCa.out.d 0 rfl) (hCa.out.d 1 rfl) (Nat.le_trans HL1.out (by omega)) HL3.out).mono ?_; rintro e wb ⟨b2, k2, l2, rfl, hdd, hb⟩; have hCb := Lib.hid ((hCa.out.call hb).pd hdd); clear hdd hb)
              (try go_wp2_with fail)
              refine hK.out _ _ ?_ (fun hH4 => ?_)
              · (try dsimp only)
                all_goals (trivial)
              clear hK K hH3
              try simp only [Act.put, List.setIfInBounds_toArray, List.set_cons_zero, List.set_cons_succ]
              refine wpAnyH_ready (rs := [8]) (by kernel_rfl) (by simp) ?_
              refine AllReadyH.cons (o := ⟨_, _, _, _, _, _⟩) rfl (fun K hK => ?_) ?_
              · go_simp
                (have _t := hCb; go_at_call 37; refine (word_int _ _ (by omega) (by omega)).mono ?_; rintro e wc ⟨b3, k3, l3, rfl, hdd, hb⟩; have hCc := Lib.hid ((hCb.out.call hb).pd hdd); clear hdd hb _t)
                (try go_wp2_with fail)
                refine hK.out _ _ ?_ (fun hH5 => ?_)
                · (try dsimp only)
                  all_goals (trivial)
                clear hK K hH4
                try simp only [Act.put, List.setIfInBounds_toArray, List.set_cons_zero, List.set_cons_succ]
                refine wpAnyH_ready (rs := [9]) (by kernel_rfl) (by simp) ?_
                refine AllReadyH.cons (o := ⟨_, _, _, _, _, _⟩) rfl (fun K hK => ?_) ?_
                · go_simp
                  (go_at_call 47; refine (plus_any _ _ _ _ _ _ 1 (Dec.val (s.data.toList.take k) * 10) ((s[k].toNat : Int) - 48).toNat _ (hCc.out.d 2 rfl) (hCc.out.d 3 rfl) (.inl rfl) (by omega) (Nat.le_trans HL2.out (by omega)) HL4.out).mono ?_; rintro e wd ⟨b4, k4, l4, rfl, hdd, hb⟩; have hCd := Lib.hid ((hCc.out.call hb).pd hdd); clear hdd hb; have d10 := hCd.out.cell 1 0 rfl rfl; have e10 := hCd.out.free 1 0 rfl)
                  (try go_wp2_with fail)
                  refine hK.out _ _ ?_ (fun hH6 => ?_)
                  · (try dsimp only)
                    all_goals (trivial)
                  clear hK K hH5
                  try simp only [Act.put, List.setIfInBounds_toArray, List.set_cons_zero, List.set_cons_succ]
                  refine wpAnyH_ready (rs := [10]) (by kernel_rfl) (by simp) ?_
                  refine AllReadyH.cons (o := ⟨_, _, _, _, _, _⟩) rfl (fun K hK => ?_) ?_
                  · go_simp
                    refine hK.out _ _ ?_ (fun hH7 => ?_)
                    · (try dsimp only)
                      all_goals (trivial)
                    clear hK K hH6
                    try simp only [Act.put, List.setIfInBounds_toArray, List.set_cons_zero, List.set_cons_succ]
                    refine wpAnyH_done (by kernel_rfl) ?_ _
                    refine NoPanic.normal ?_
                    go_wp2
                    go_roundw
                    case rel =>
                      have e : ((Dec.val (s.data.toList.take k) * 10 : Nat) : Int) + 1 * (((s[k].toNat : Int) - 48).toNat : Int) = ((Dec.val (s.data.toList.take (k + 1)) : Nat) : Int) := by rw [HN.out]; omega
                      refine ⟨k + 1, b4, k4, l4, by omega, by go_num, ?_⟩
                      have h4 := hCd.out.d 4 rfl
                      rw [e, Int.toNat_natCast] at h4
                      exact ((hCd.out.pd h4).set (j := 0) (v := .slice b4 k4 l4) 1 rfl).pick [5] rfl
                    case measure => simp [intOf]; omega
                  exact AllReadyH.nil
                exact AllReadyH.nil
              exact AllReadyH.nil
            exact AllReadyH.nil
          exact AllReadyH.nil
        exact AllReadyH.nil
      refine AllReadyH.cons (o := ⟨_, _, _, _, _, _⟩) rfl (fun K hK => ?_) ?_
      · go_simp
        (have _t := tok1; go_at_call 37; refine (word_any 10 _ (by omega)).mono ?_; rintro e wa ⟨b1, k1, l1, rfl, hdd, hb⟩; have hCa := Lib.hid ((hC.out.drew.call hb).pd hdd); clear hdd hb; have c10a := hCa.out.cell 1 0 rfl rfl; clear tok1 _t)
        (try go_wp2_with fail)
        refine hK.out _ _ ?_ (fun hH1 => ?_)
        · (try dsimp only)
          all_goals (trivial)
        clear hK K hH0
        try simp only [Act.put, List.setIfInBounds_toArray, List.set_cons_zero, List.set_cons_succ]
        refine wpAnyH_ready (rs := [0, 5]) (by kernel_rfl) (by simp) ?_
        refine AllReadyH.cons (o := ⟨_, _, _, _, _, _⟩) rfl (fun K hK => ?_) ?_
        · go_simp
          refine hK.out _ _ ?_ (fun hH2 => ?_)
          · (try dsimp only)
            all_goals (trivial)
          clear hK K hH1
          try simp only [Act.put, List.setIfInBounds_toArray, List.set_cons_zero, List.set_cons_succ]
          refine wpAnyH_ready (rs := [2, 5]) (by kernel_rfl) (by simp) ?_
          refine AllReadyH.cons (o := ⟨_, _, _, _, _, _⟩) rfl (fun K hK => ?_) ?_
          · go_simp
            (go_at_call 46; refine (times_any _ _ _ _ _ _ _ _ _ (hCa.out.d 0 rfl) (hCa.out.d 1 rfl) (Nat.le_trans HL1.out (by omega)) HL3.out).mono ?_; rintro e wb ⟨b2, k2, l2, rfl, hdd, hb⟩; have hCb := Lib.hid ((hCa.out.call hb).pd hdd); clear hdd hb)
            (try go_wp2_with fail)
            refine hK.out _ _ ?_ (fun hH3 => ?_)
            · (try dsimp only)
              all_goals (trivial)
            clear hK K hH2
            try simp only [Act.put, List.setIfInBounds_toArray, List.set_cons_zero, List.set_cons_succ]
            refine wpAnyH_ready (rs := [5]) (by kernel_rfl) (by simp) ?_
            refine AllReadyH.cons (o := ⟨_, _, _, _, _, _⟩) rfl (fun K hK => ?_) ?_
            · go_simp
              refine hK.out _ _ ?_ (fun hH4 => ?_)
              · (try dsimp only)
                all_goals (trivial)
              clear hK K hH3
              try simp only [Act.put, List.setIfInBounds_toArray, List.set_cons_zero, List.set_cons_succ]
              refine wpAnyH_take (i := 6) (oi := ⟨_, _, _, _, _, _⟩) (v := ?_) rfl (by kernel_rfl) (by kernel_rfl) (by kernel_rfl) (fun _ _ _ h => h) (Or.inl ⟨by rfl, ?_⟩) hH4 ?_
              rotate_left
              · intro wS hSw; (try dsimp only at hSw); go_simp; try with_reducible rfl
              try simp only [Act.put, List.setIfInBounds_toArray, List.set_cons_zero, List.set_cons_succ]
              refine wpAnyH_take (i := 7) (oi := ⟨_, _, _, _, _, _⟩) (v := ?_) rfl (by kernel_rfl) (by kernel_rfl) (by kernel_rfl) (fun _ _ _ h => h) (Or.inl ⟨by rfl, ?_⟩) hH4 ?_
              rotate_left
              · intro wS hSw; (try dsimp only at hSw); go_simp; try with_reducible rfl
              try simp only [Act.put, List.setIfInBounds_toArray, List.set_cons_zero, List.set_cons_succ]
              refine wpAnyH_ready (rs := [8]) (by kernel_rfl) (by simp) ?_
              refine AllReadyH.cons (o := ⟨_, _, _, _, _, _⟩) rfl (fun K hK => ?_) ?_
              · go_simp
                (have _t := hCb; go_at_call 37; refine (word_int _ _ (by omega) (by omega)).mono ?_; rintro e wc ⟨b3, k3, l3, rfl, hdd, hb⟩; have hCc := Lib.hid ((hCb.out.call hb).pd hdd); clear hdd hb _t)
                (try go_wp2_with fail)
                refine hK.out _ _ ?_ (fun hH5 => ?_)
                · (try dsimp only)
                  all_goals (trivial)
                clear hK K hH4
                try simp only [Act.put, List.setIfInBounds_toArray, List.set_cons_zero, List.set_cons_succ]
                refine wpAnyH_ready (rs := [9]) (by kernel_rfl) (by simp) ?_
                refine AllReadyH.cons (o := ⟨_, _, _, _, _, _⟩) rfl (fun K hK => ?_) ?_
                · go_simp
                  (go_at_call 47; refine (plus_any _ _ _ _ _ _ 1 (Dec.val (s.data.toList.take k) * 10) ((s[k].toNat : Int) - 48).toNat _ (hCc.out.d 2 rfl) (hCc.out.d 3 rfl) (.inl rfl) (by omega) (Nat.le_trans HL2.out (by omega)) HL4.out).mono ?_; rintro e wd ⟨b4, k4, l4, rfl, hdd, hb⟩; have hCd := Lib.hid ((hCc.out.call hb).pd hdd); clear hdd hb; have d10 := hCd.out.cell 1 0 rfl rfl; have e10 := hCd.out.free 1 0 rfl)
                  (try go_wp2_with fail)
                  refine hK.out _ _ ?_ (fun hH6 => ?_)
                  · (try dsimp only)
                    all_goals (trivial)
                  clear hK K hH5
                  try simp only [Act.put, List.setIfInBounds_toArray, List.set_cons_zero, List.set_cons_succ]
                  refine wpAnyH_ready (rs := [10]) (by kernel_rfl) (by simp) ?_
                  refine AllReadyH.cons (o := ⟨_, _, _, _, _, _⟩) rfl (fun K hK => ?_) ?_
                  · go_simp
                    refine hK.out _ _ ?_ (fun hH7 => ?_)
                    · (try dsimp only)
                      all_goals (trivial)
                    clear hK K hH6
                    try simp only [Act.put, List.setIfInBounds_toArray, List.set_cons_zero, List.set_cons_succ]
                    refine wpAnyH_done (by kernel_rfl) ?_ _
                    refine NoPanic.normal ?_
                    go_wp2
                    go_roundw
                    case rel =>
                      have e : ((Dec.val (s.data.toList.take k) * 10 : Nat) : Int) + 1 * (((s[k].toNat : Int) - 48).toNat : Int) = ((Dec.val (s.data.toList.take (k + 1)) : Nat) : Int) := by rw [HN.out]; omega
                      refine ⟨k + 1, b4, k4, l4, by omega, by go_num, ?_⟩
                      have h4 := hCd.out.d 4 rfl
                      rw [e, Int.toNat_natCast] at h4
                      exact ((hCd.out.pd h4).set (j := 0) (v := .slice b4 k4 l4) 1 rfl).pick [5] rfl
                    case measure => simp [intOf]; omega
                  exact AllReadyH.nil
                exact AllReadyH.nil
              exact AllReadyH.nil
            exact AllReadyH.nil
          refine AllReadyH.cons (o := ⟨_, _, _, _, _, _⟩) rfl (fun K hK => ?_) ?_
          · go_simp
            refine hK.out _ _ ?_ (fun hH3 => ?_)
            · (try dsimp only)
              all_goals (trivial)
            clear hK K hH2
            try simp only [Act.put, List.setIfInBounds_toArray, List.set_cons_zero, List.set_cons_succ]
            refine wpAnyH_take (i := 6) (oi := ⟨_, _, _, _, _, _⟩) (v := ?_) rfl (by kernel_rfl) (by kernel_rfl) (by kernel_rfl) (fun _ _ _ h => h) (Or.inl ⟨by rfl, ?_⟩) hH3 ?_
            rotate_left
            · intro wS hSw; (try dsimp only at hSw); go_simp; try with_reducible rfl
            try simp only [Act.put, List.setIfInBounds_toArray, List.set_cons_zero, List.set_cons_succ]
            refine wpAnyH_take (i := 7) (oi := ⟨_, _, _, _, _, _⟩) (v := ?_) rfl (by kernel_rfl) (by kernel_rfl) (by kernel_rfl) (fun _ _ _ h => h) (Or.inl ⟨by rfl, ?_⟩) hH3 ?_
            rotate_left
            · intro wS hSw; (try dsimp only at hSw); go_simp; try with_reducible rfl
            try simp only [Act.put, List.setIfInBounds_toArray, List.set_cons_zero, List.set_cons_succ]
            refine wpAnyH_ready (rs := [2]) (by kernel_rfl) (by simp) ?_
            refine AllReadyH.cons (o := ⟨_, _, _, _, _, _⟩) rfl (fun K hK => ?_) ?_
            · go_simp
              (go_at_call 46; refine (times_any _ _ _ _ _ _ _ _ _ (hCa.out.d 0 rfl) (hCa.out.d 1 rfl) (Nat.le_trans HL1.out (by omega)) HL3.out).mono ?_; rintro e wb ⟨b2, k2, l2, rfl, hdd, hb⟩; have hCb := Lib.hid ((hCa.out.call hb).pd hdd); clear hdd hb)
              (try go_wp2_with fail)
              refine hK.out _ _ ?_ (fun hH4 => ?_)
              · (try dsimp only)
                all_goals (trivial)
              clear hK K hH3
              try simp only [Act.put, List.setIfInBounds_toArray, List.set_cons_zero, List.set_cons_succ]
              refine wpAnyH_ready (rs := [8]) (by kernel_rfl) (by simp) ?_
              refine AllReadyH.cons (o := ⟨_, _, _, _, _, _⟩) rfl (fun K hK => ?_) ?_
              · go_simp
                (have _t := hCb; go_at_call 37; refine (word_int _ _ (by omega) (by omega)).mono ?_; rintro e wc ⟨b3, k3, l3, rfl, hdd, hb⟩; have hCc := Lib.hid ((hCb.out.call hb).pd hdd); clear hdd hb _t)
                (try go_wp2_with fail)
                refine hK.out _ _ ?_ (fun hH5 => ?_)
                · (try dsimp only)
                  all_goals (trivial)
                clear hK K hH4
                try simp only [Act.put, List.setIfInBounds_toArray, List.set_cons_zero, List.set_cons_succ]
                refine wpAnyH_ready (rs := [9]) (by kernel_rfl) (by simp) ?_
                refine AllReadyH.cons (o := ⟨_, _, _, _, _, _⟩) rfl (fun K hK => ?_) ?_
                · go_simp
                  (go_at_call 47; refine (plus_any _ _ _ _ _ _ 1 (Dec.val (s.data.toList.take k) * 10) ((s[k].toNat : Int) - 48).toNat _ (hCc.out.d 2 rfl) (hCc.out.d 3 rfl) (.inl rfl) (by omega) (Nat.le_trans HL2.out (by omega)) HL4.out).mono ?_; rintro e wd ⟨b4, k4, l4, rfl, hdd, hb⟩; have hCd := Lib.hid ((hCc.out.call hb).pd hdd); clear hdd hb; have d10 := hCd.out.cell 1 0 rfl rfl; have e10 := hCd.out.free 1 0 rfl)
                  (try go_wp2_with fail)
                  refine hK.out _ _ ?_ (fun hH6 => ?_)
                  · (try dsimp only)
                    all_goals (trivial)
                  clear hK K hH5
                  try simp only [Act.put, List.setIfInBounds_toArray, List.set_cons_zero, List.set_cons_succ]
                  refine wpAnyH_ready (rs := [10]) (by kernel_rfl) (by simp) ?_
                  refine AllReadyH.cons (o := ⟨_, _, _, _, _, _⟩) rfl (fun K hK => ?_) ?_
                  · go_simp
                    refine hK.out _ _ ?_ (fun hH7 => ?_)
                    · (try dsimp only)
                      all_goals (trivial)
                    clear hK K hH6
                    try simp only [Act.put, List.setIfInBounds_toArray, List.set_cons_zero, List.set_cons_succ]
                    refine wpAnyH_done (by kernel_rfl) ?_ _
                    refine NoPanic.normal ?_
                    go_wp2
                    go_roundw
                    case rel =>
                      have e : ((Dec.val (s.data.toList.take k) * 10 : Nat) : Int) + 1 * (((s[k].toNat : Int) - 48).toNat : Int) = ((Dec.val (s.data.toList.take (k + 1)) : Nat) : Int) := by rw [HN.out]; omega
                      refine ⟨k + 1, b4, k4, l4, by omega, by go_num, ?_⟩
                      have h4 := hCd.out.d 4 rfl
                      rw [e, Int.toNat_natCast] at h4
                      exact ((hCd.out.pd h4).set (j := 0) (v := .slice b4 k4 l4) 1 rfl).pick [5] rfl
                    case measure => simp [intOf]; omega
                  exact AllReadyH.nil
                exact AllReadyH.nil
              exact AllReadyH.nil
            exact AllReadyH.nil
          exact AllReadyH.nil
        refine AllReadyH.cons (o := ⟨_, _, _, _, _, _⟩) rfl (fun K hK => ?_) ?_
        · go_simp
          refine hK.out _ _ ?_ (fun hH2 => ?_)
          · (try dsimp only)
            all_goals (trivial)
          clear hK K hH1
          try simp only [Act.put, List.setIfInBounds_toArray, List.set_cons_zero, List.set_cons_succ]
          refine wpAnyH_take (i := 6) (oi := ⟨_, _, _, _, _, _⟩) (v := ?_) rfl (by kernel_rfl) (by kernel_rfl) (by kernel_rfl) (fun _ _ _ h => h) (Or.inl ⟨by rfl, ?_⟩) hH2 ?_
          rotate_left
          · intro wS hSw; (try dsimp only at hSw); go_simp; try with_reducible rfl
          try simp only [Act.put, List.setIfInBounds_toArray, List.set_cons_zero, List.set_cons_succ]
          refine wpAnyH_take (i := 7) (oi := ⟨_, _, _, _, _, _⟩) (v := ?_) rfl (by kernel_rfl) (by kernel_rfl) (by kernel_rfl) (fun _ _ _ h => h) (Or.inl ⟨by rfl, ?_⟩) hH2 ?_
          rotate_left
          · intro wS hSw; (try dsimp only at hSw); go_simp; try with_reducible rfl
          try simp only [Act.put, List.setIfInBounds_toArray, List.set_cons_zero, List.set_cons_succ]
          refine wpAnyH_ready (rs := [0]) (by kernel_rfl) (by simp) ?_
          refine AllReadyH.cons (o := ⟨_, _, _, _, _, _⟩) rfl (fun K hK => ?_) ?_
          · go_simp
            refine hK.out _ _ ?_ (fun hH3 => ?_)
            · (try dsimp only)
              all_goals (trivial)
            clear hK K hH2
            try simp only [Act.put, List.setIfInBounds_toArray, List.set_cons_zero, List.set_cons_succ]
            refine wpAnyH_ready (rs := [2]) (by kernel_rfl) (by simp) ?_
            refine AllReadyH.cons (o := ⟨_, _, _, _, _, _⟩) rfl (fun K hK => ?_) ?_
            · go_simp
              (go_at_call 46; refine (times_any _ _ _ _ _ _ _ _ _ (hCa.out.d 0 rfl) (hCa.out.d 1 rfl) (Nat.le_trans HL1.out (by omega)) HL3.out).mono ?_; rintro e wb ⟨b2, k2, l2, rfl, hdd, hb⟩; have hCb := Lib.hid ((hCa.out.call hb).pd hdd); clear hdd hb)
              (try go_wp2_with fail)
              refine hK.out _ _ ?_ (fun hH4 => ?_)
              · (try dsimp only)
                all_goals (trivial)
              clear hK K hH3
              try simp only [Act.put, List.setIfInBounds_toArray, List.set_cons_zero, List.set_cons_succ]
              refine wpAnyH_ready (rs := [8]) (by kernel_rfl) (by simp) ?_
              refine AllReadyH.cons (o := ⟨_, _, _, _, _, _⟩) rfl (fun K hK => ?_) ?_
              · go_simp
                (have _t := hCb; go_at_call 37; refine (word_int _ _ (by omega) (by omega)).mono ?_; rintro e wc ⟨b3, k3, l3, rfl, hdd, hb⟩; have hCc := Lib.hid ((hCb.out.call hb).pd hdd); clear hdd hb _t)
                (try go_wp2_with fail)
                refine hK.out _ _ ?_ (fun hH5 => ?_)
                · (try dsimp only)
                  all_goals (trivial)
                clear hK K hH4
                try simp only [Act.put, List.setIfInBounds_toArray, List.set_cons_zero, List.set_cons_succ]
                refine wpAnyH_ready (rs := [9]) (by kernel_rfl) (by simp) ?_
                refine AllReadyH.cons (o := ⟨_, _, _, _, _, _⟩) rfl (fun K hK => ?_) ?_
                · go_simp
                  (go_at_call 47; refine (plus_any _ _ _ _ _ _ 1 (Dec.val (s.data.toList.take k) * 10) ((s[k].toNat : Int) - 48).toNat _ (hCc.out.d 2 rfl) (hCc.out.d 3 rfl) (.inl rfl) (by omega) (Nat.le_trans HL2.out (by omega)) HL4.out).mono ?_; rintro e wd ⟨b4, k4, l4, rfl, hdd, hb⟩; have hCd := Lib.hid ((hCc.out.call hb).pd hdd); clear hdd hb; have d10 := hCd.out.cell 1 0 rfl rfl; have e10 := hCd.out.free 1 0 rfl)
                  (try go_wp2_with fail)
                  refine hK.out _ _ ?_ (fun hH6 => ?_)
                  · (try dsimp only)
                    all_goals (trivial)
                  clear hK K hH5
                  try simp only [Act.put, List.setIfInBounds_toArray, List.set_cons_zero, List.set_cons_succ]
                  refine wpAnyH_ready (rs := [10]) (by kernel_rfl) (by simp) ?_
                  refine AllReadyH.cons (o := ⟨_, _, _, _, _, _⟩) rfl (fun K hK => ?_) ?_
                  · go_simp
                    refine hK.out _ _ ?_ (fun hH7 => ?_)
                    · (try dsimp only)
                      all_goals (trivial)
                    clear hK K hH6
                    try simp only [Act.put, List.setIfInBounds_toArray, List.set_cons_zero, List.set_cons_succ]
                    refine wpAnyH_done (by kernel_rfl) ?_ _
                    refine NoPanic.normal ?_
                    go_wp2
                    go_roundw
                    case rel =>
                      have e : ((Dec.val (s.data.toList.take k) * 10 : Nat) : Int) + 1 * (((s[k].toNat : Int) - 48).toNat : Int) = ((Dec.val (s.data.toList.take (k + 1)) : Nat) : Int) := by rw [HN.out]; omega
                      refine ⟨k + 1, b4, k4, l4, by omega, by go_num, ?_⟩
                      have h4 := hCd.out.d 4 rfl
                      rw [e, Int.toNat_natCast] at h4
                      exact ((hCd.out.pd h4).set (j := 0) (v := .slice b4 k4 l4) 1 rfl).pick [5] rfl
                    case measure => simp [intOf]; omega
                  exact AllReadyH.nil
                exact AllReadyH.nil
              exact AllReadyH.nil
            exact AllReadyH.nil
          exact AllReadyH.nil
        exact AllReadyH.nil
      refine AllReadyH.cons (o := ⟨_, _, _, _, _, _⟩) rfl (fun K hK => ?_) ?_
      · go_simp
        refine hK.out _ _ ?_ (fun hH1 => ?_)
        · (try dsimp only)
          all_goals (trivial)
        clear hK K hH0
        try simp only [Act.put, List.setIfInBounds_toArray, List.set_cons_zero, List.set_cons_succ]
        refine wpAnyH_take (i := 6) (oi := ⟨_, _, _, _, _, _⟩) (v := ?_) rfl (by kernel_rfl) (by kernel_rfl) (by kernel_rfl) (fun _ _ _ h => h) (Or.inl ⟨by rfl, ?_⟩) hH1 ?_
        rotate_left
        · intro wS hSw; (try dsimp only at hSw); go_simp; try with_reducible rfl
        try simp only [Act.put, List.setIfInBounds_toArray, List.set_cons_zero, List.set_cons_succ]
        refine wpAnyH_take (i := 7) (oi := ⟨_, _, _, _, _, _⟩) (v := ?_) rfl (by kernel_rfl) (by kernel_rfl) (by kernel_rfl) (fun _ _ _ h => h) (Or.inl ⟨by rfl, ?_⟩) hH1 ?_
        rotate_left
        · intro wS hSw; (try dsimp only at hSw); go_simp; try with_reducible rfl
        try simp only [Act.put, List.setIfInBounds_toArray, List.set_cons_zero, List.set_cons_succ]
        refine wpAnyH_ready (rs := [0, 1]) (by kernel_rfl) (by simp) ?_
        refine AllReadyH.cons (o := ⟨_, _, _, _, _, _⟩) rfl (fun K hK => ?_) ?_
        · go_simp
          refine hK.out _ _ ?_ (fun hH2 => ?_)
          · (try dsimp only)
            all_goals (trivial)
          clear hK K hH1
          try simp only [Act.put, List.setIfInBounds_toArray, List.set_cons_zero, List.set_cons_succ]
          refine wpAnyH_ready (rs := [1]) (by kernel_rfl) (by simp) ?_
          refine AllReadyH.cons (o := ⟨_, _, _, _, _, _⟩) rfl (fun K hK => ?_) ?_
          · go_simp
            (have _t := tok1; go_at_call 37; refine (word_any 10 _ (by omega)).mono ?_; rintro e wa ⟨b1, k1, l1, rfl, hdd, hb⟩; have hCa := Lib.hid ((hC.out.drew.call hb).pd hdd); clear hdd hb; have c10a := hCa.out.cell 1 0 rfl rfl; clear tok1 _t)
            (try go_wp2_with fail)
            refine hK.out _ _ ?_ (fun hH3 => ?_)
            · (try dsimp only)
              all_goals (trivial)
            clear hK K hH2
            try simp only [Act.put, List.setIfInBounds_toArray, List.set_cons_zero, List.set_cons_succ]
            refine wpAnyH_ready (rs := [2]) (by kernel_rfl) (by simp) ?_
            refine AllReadyH.cons (o := ⟨_, _, _, _, _, _⟩) rfl (fun K hK => ?_) ?_
            · go_simp
              (go_at_call 46; refine (times_any _ _ _ _ _ _ _ _ _ (hCa.out.d 0 rfl) (hCa.out.d 1 rfl) (Nat.le_trans HL1.out (by omega)) HL3.out).mono ?_; rintro e wb ⟨b2, k2, l2, rfl, hdd, hb⟩; have hCb := Lib.hid ((hCa.out.call hb).pd hdd); clear hdd hb)
              (try go_wp2_with fail)
              refine hK.out _ _ ?_ (fun hH4 => ?_)
              · (try dsimp only)
                all_goals (trivial)
              clear hK K hH3
              try simp only [Act.put, List.setIfInBounds_toArray, List.set_cons_zero, List.set_cons_succ]
              refine wpAnyH_ready (rs := [8]) (by kernel_rfl) (by simp) ?_
              refine AllReadyH.cons (o := ⟨_, _, _, _, _, _⟩) rfl (fun K hK => ?_) ?_
              · go_simp
                (have _t := hCb; go_at_call 37; refine (word_int _ _ (by omega) (by omega)).mono ?_; rintro e wc ⟨b3, k3, l3, rfl, hdd, hb⟩; have hCc := Lib.hid ((hCb.out.call hb).pd hdd); clear hdd hb _t)
                (try go_wp2_with fail)
                refine hK.out _ _ ?_ (fun hH5 => ?_)
                · (try dsimp only)
                  all_goals (trivial)
                clear hK K hH4
                try simp only [Act.put, List.setIfInBounds_toArray, List.set_cons_zero, List.set_cons_succ]
                refine wpAnyH_ready (rs := [9]) (by kernel_rfl) (by simp) ?_
                refine AllReadyH.cons (o := ⟨_, _, _, _, _, _⟩) rfl (fun K hK => ?_) ?_
                · go_simp
                  (go_at_call 47; refine (plus_any _ _ _ _ _ _ 1 (Dec.val (s.data.toList.take k) * 10) ((s[k].toNat : Int) - 48).toNat _ (hCc.out.d 2 rfl) (hCc.out.d 3 rfl) (.inl rfl) (by omega) (Nat.le_trans HL2.out (by omega)) HL4.out).mono ?_; rintro e wd ⟨b4, k4, l4, rfl, hdd, hb⟩; have hCd := Lib.hid ((hCc.out.call hb).pd hdd); clear hdd hb; have d10 := hCd.out.cell 1 0 rfl rfl; have e10 := hCd.out.free 1 0 rfl)
                  (try go_wp2_with fail)
                  refine hK.out _ _ ?_ (fun hH6 => ?_)
                  · (try dsimp only)
                    all_goals (trivial)
                  clear hK K hH5
                  try simp only [Act.put, List.setIfInBounds_toArray, List.set_cons_zero, List.set_cons_succ]
                  refine wpAnyH_ready (rs := [10]) (by kernel_rfl) (by simp) ?_
                  refine AllReadyH.cons (o := ⟨_, _, _, _, _, _⟩) rfl (fun K hK => ?_) ?_
                  · go_simp
                    refine hK.out _ _ ?_ (fun hH7 => ?_)
                    · (try dsimp only)
                      all_goals (trivial)
                    clear hK K hH6
                    try simp only [Act.put, List.setIfInBounds_toArray, List.set_cons_zero, List.set_cons_succ]
                    refine wpAnyH_done (by kernel_rfl) ?_ _
                    refine NoPanic.normal ?_
                    go_wp2
                    go_roundw
                    case rel =>
                      have e : ((Dec.val (s.data.toList.take k) * 10 : Nat) : Int) + 1 * (((s[k].toNat : Int) - 48).toNat : Int) = ((Dec.val (s.data.toList.take (k + 1)) : Nat) : Int) := by rw [HN.out]; omega
                      refine ⟨k + 1, b4, k4, l4, by omega, by go_num, ?_⟩
                      have h4 := hCd.out.d 4 rfl
                      rw [e, Int.toNat_natCast] at h4
                      exact ((hCd.out.pd h4).set (j := 0) (v := .slice b4 k4 l4) 1 rfl).pick [5] rfl
                    case measure => simp [intOf]; omega
                  exact AllReadyH.nil
                exact AllReadyH.nil
              exact AllReadyH.nil
            exact AllReadyH.nil
          exact AllReadyH.nil
        refine AllReadyH.cons (o := ⟨_, _, _, _, _, _⟩) rfl (fun K hK => ?_) ?_
        · go_simp
          (have _t := tok1; go_at_call 37; refine (word_any 10 _ (by omega)).mono ?_; rintro e wa ⟨b1, k1, l1, rfl, hdd, hb⟩; have hCa := Lib.hid ((hC.out.drew.call hb).pd hdd); clear hdd hb; have c10a := hCa.out.cell 1 0 rfl rfl; clear tok1 _t)
          (try go_wp2_with fail)
          refine hK.out _ _ ?_ (fun hH2 => ?_)
          · (try dsimp only)
            all_goals (trivial)
          clear hK K hH1
          try simp only [Act.put, List.setIfInBounds_toArray, List.set_cons_zero, List.set_cons_succ]
          refine wpAnyH_ready (rs := [0]) (by kernel_rfl) (by simp) ?_
          refine AllReadyH.cons (o := ⟨_, _, _, _, _, _⟩) rfl (fun K hK => ?_) ?_
          · go_simp
            refine hK.out _ _ ?_ (fun hH3 => ?_)
            · (try dsimp only)
              all_goals (trivial)
            clear hK K hH2
            try simp only [Act.put, List.setIfInBounds_toArray, List.set_cons_zero, List.set_cons_succ]
            refine wpAnyH_ready (rs := [2]) (by kernel_rfl) (by simp) ?_
            refine AllReadyH.cons (o := ⟨_, _, _, _, _, _⟩) rfl (fun K hK => ?_) ?_
            · go_simp
              (go_at_call 46; refine (times_any _ _ _ _ _ _ _ _ _ (hCa.out.d 0 rfl) (hCa.out.d 1 rfl) (Nat.le_trans HL1.out (by omega)) HL3.out).mono ?_; rintro e wb ⟨b2, k2, l2, rfl, hdd, hb⟩; have hCb := Lib.hid ((hCa.out.call hb).pd hdd); clear hdd hb)
              (try go_wp2_with fail)
              refine hK.out _ _ ?_ (fun hH4 => ?_)
              · (try dsimp only)
                all_goals (trivial)
              clear hK K hH3
              try simp only [Act.put, List.setIfInBounds_toArray, List.set_cons_zero, List.set_cons_succ]
              refine wpAnyH_ready (rs := [8]) (by kernel_rfl) (by simp) ?_
              refine AllReadyH.cons (o := ⟨_, _, _, _, _, _⟩) rfl (fun K hK => ?_) ?_
              · go_simp
                (have _t := hCb; go_at_call 37; refine (word_int _ _ (by omega) (by omega)).mono ?_; rintro e wc ⟨b3, k3, l3, rfl, hdd, hb⟩; have hCc := Lib.hid ((hCb.out.call hb).pd hdd); clear hdd hb _t)
                (try go_wp2_with fail)
                refine hK.out _ _ ?_ (fun hH5 => ?_)
                · (try dsimp only)
                  all_goals (trivial)
                clear hK K hH4
                try simp only [Act.put, List.setIfInBounds_toArray, List.set_cons_zero, List.set_cons_succ]
                refine wpAnyH_ready (rs := [9]) (by kernel_rfl) (by simp) ?_
                refine AllReadyH.cons (o := ⟨_, _, _, _, _, _⟩) rfl (fun K hK => ?_) ?_
                · go_simp
                  (go_at_call 47; refine (plus_any _ _ _ _ _ _ 1 (Dec.val (s.data.toList.take k) * 10) ((s[k].toNat : Int) - 48).toNat _ (hCc.out.d 2 rfl) (hCc.out.d 3 rfl) (.inl rfl) (by omega) (Nat.le_trans HL2.out (by omega)) HL4.out).mono ?_; rintro e wd ⟨b4, k4, l4, rfl, hdd, hb⟩; have hCd := Lib.hid ((hCc.out.call hb).pd hdd); clear hdd hb; have d10 := hCd.out.cell 1 0 rfl rfl; have e10 := hCd.out.free 1 0 rfl)
                  (try go_wp2_with fail)
                  refine hK.out _ _ ?_ (fun hH6 => ?_)
                  · (try dsimp only)
                    all_goals (trivial)
                  clear hK K hH5
                  try simp only [Act.put, List.setIfInBounds_toArray, List.set_cons_zero, List.set_cons_succ]
                  refine wpAnyH_ready (rs := [10]) (by kernel_rfl) (by simp) ?_
                  refine AllReadyH.cons (o := ⟨_, _, _, _, _, _⟩) rfl (fun K hK => ?_) ?_
                  · go_simp
                    refine hK.out _ _ ?_ (fun hH7 => ?_)
                    · (try dsimp only)
                      all_goals (trivial)
                    clear hK K hH6
                    try simp only [Act.put, List.setIfInBounds_toArray, List.set_cons_zero, List.set_cons_succ]
                    refine wpAnyH_done (by kernel_rfl) ?_ _
                    refine NoPanic.normal ?_
                    go_wp2
                    go_roundw
                    case rel =>
                      have e : ((Dec.val (s.data.toList.take k) * 10 : Nat) : Int) + 1 * (((s[k].toNat : Int) - 48).toNat : Int) = ((Dec.val (s.data.toList.take (k + 1)) : Nat) : Int) := by rw [HN.out]; omega
                      refine ⟨k + 1, b4, k4, l4, by omega, by go_num, ?_⟩
                      have h4 := hCd.out.d 4 rfl
                      rw [e, Int.toNat_natCast] at h4
                      exact ((hCd.out.pd h4).set (j := 0) (v := .slice b4 k4 l4) 1 rfl).pick [5] rfl
                    case measure => simp [intOf]; omega
                  exact AllReadyH.nil
                exact AllReadyH.nil
              exact AllReadyH.nil
            exact AllReadyH.nil
          exact AllReadyH.nil
        exact AllReadyH.nil
      exact AllReadyH.nil
    · obtain rfl : k = s.size := by omega
      have c10 := hC.out.cell 1 0 rfl rfl
      have c00 := hC.out.cell 0 0 rfl rfl
      have f00 := hC.out.free 0 0 rfl
      go_wp2
      refine ret_st (hC.out.set 0 rfl) (v := .agg #[.slice a n c]) (fun hF => ?_) rfl (fun hF => ⟨a, n, c, rfl, ?_, hF.be⟩)
      · have e0 := hF.cell 0 0 rfl rfl
        simp [results, Tryd.results31, go_sem, e0]
      · have := hF.d 0 rfl
        rw [List.take_of_length_le (by simp)] at this
        exact this

end Go.Proofs.YtnimnoodpnhodaaDoor

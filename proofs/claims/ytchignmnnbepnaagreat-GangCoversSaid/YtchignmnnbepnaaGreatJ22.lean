/- the reference's ValidSheet -/
import Derived.Test.YtchignmnnbepnaaGreatJ21
namespace Go.Proofs.YtchignmnnbepnaaGreat
open Go.RowKit
section
variable (w : World)
theorem info_RSheet : (Tryz.prog.info? 53).map (·.size) = some 20 := by kernel_rfl
theorem heights_no {s : Sht} {i : Nat} (hi : i < s.hs.length) (h : inB s.hs[i] 1 1000 = false) : heightsB s = false := by
  cases e : heightsB s
  · rfl
  · have := List.all_eq_true.1 e _ (List.getElem_mem hi)
    rw [h] at this; cases this
theorem heights_yes {s : Sht} (h : ∀ i (hi : i < s.hs.length), inB s.hs[i] 1 1000 = true) : heightsB s = true := List.all_eq_true.2 fun x hx => by
  obtain ⟨i, hi, rfl⟩ := List.getElem_of_mem hx
  exact h i hi
theorem nums_yes {s : Sht} (a0 : inB s.base 1 3000 = true) (a1 : inB s.batter 0 500 = true) (a2 : inB s.height 1 3000 = true) (a3 : inB s.skin 1 1500 = true) (a4 : inB (s.hn : Int) 1 12 = true) (a5 : inB s.least 1 1000 = true) (a6 : inB s.lap 0 500 = true) (a7 : inB s.run 1 20 = true)
    (a8 : inB s.footing 0 1000 = true) (a9 : inB s.spread 0 1000 = true) (a10 : inB s.low 0 s.high = true) (a11 : inB s.high 0 2000 = true) (a12 : inB s.rood 1 100000 = true) : numsB s = true := by
  simp [numsB, shtNums, limB, a0, a1, a2, a3, a4, a5, a6, a7, a8, a9, a10, a11, a12]
theorem through_no {s : Sht} (h1 : (s.every == 0) = false ∨ (s.at_ == 0) = false) (h : inB s.every 1 100000 = false ∨ inB s.at_ 0 3000 = false) : throughB s = false := by
  unfold throughB
  rcases h1 with h1 | h1 <;> rcases h with h | h <;> simp [h1, h, limB]
theorem through_yes {s : Sht} (h1 : inB s.every 1 100000 = true) (h2 : inB s.at_ 0 3000 = true) : throughB s = true := by
  unfold throughB
  simp [h1, h2, limB]
theorem through_yes0 {s : Sht} (h1 : (s.every == 0) = true) (h2 : (s.at_ == 0) = true) : throughB s = true := by
  unfold throughB
  simp [h1, h2]
theorem coped_0 {s : Sht} (h0 : s.cope = 0) : copedB s = (decide (s.tall = 0) && decide (s.short = 0) && decide (s.thick = 0)) := by unfold copedB; rw [if_pos h0]
theorem coped_12 {s : Sht} (h0 : ¬ s.cope = 0) (h : s.cope = 1 ∨ s.cope = 2) : copedB s = [(s.tall, 1, 1000), (s.short, 0, 0), (s.thick, 1, 1000)].all limB := by unfold copedB; rw [if_neg h0, if_pos h]
theorem coped_3 {s : Sht} (h : s.cope = 3) : copedB s = [(s.tall, 1, 1000), (s.short, 1, 1000), (s.thick, 1, 1000)].all limB := by unfold copedB; rw [if_neg (by omega), if_neg (by omega), if_pos h]
theorem coped_x {s : Sht} (h : 3 < s.cope) : copedB s = false := by unfold copedB; rw [if_neg (by omega), if_neg (by omega), if_neg (by omega)]
theorem coped_0no {s : Sht} (h0 : s.cope = 0) (h : (s.tall != 0) = true ∨ (s.short != 0) = true ∨ (s.thick != 0) = true) : copedB s = false := by
  rw [coped_0 h0]
  rcases h with h | h | h
  · have h : ¬ s.tall = 0 := by simpa using h
    rw [decide_eq_false h]; rfl
  · have h : ¬ s.short = 0 := by simpa using h
    rw [decide_eq_false h, Bool.and_false]; rfl
  · have h : ¬ s.thick = 0 := by simpa using h
    rw [decide_eq_false h, Bool.and_false]
theorem coped_0yes {s : Sht} (h0 : s.cope = 0) (h1 : (s.tall != 0) = false) (h2 : (s.short != 0) = false) (h3 : (s.thick != 0) = false) : copedB s = true := by
  rw [coped_0 h0]
  have h1 : s.tall = 0 := by simpa using h1
  have h2 : s.short = 0 := by simpa using h2
  have h3 : s.thick = 0 := by simpa using h3
  rw [decide_eq_true h1, decide_eq_true h2, decide_eq_true h3]; rfl
theorem lim3_yes {a b c : I3} (h1 : limB a = true) (h2 : limB b = true) (h3 : limB c = true) : [a, b, c].all limB = true := by simp [h1, h2, h3]
theorem lim_00 {x : Int} (h : ¬ x = 0) : limB (x, 0, 0) = false := by
  cases e : limB (x, 0, 0)
  · rfl
  · have := lim_iff.1 e
    dsimp only at this
    omega
theorem lim_01 {x : Int} (h : x = 0) : limB (x, 0, 0) = true := lim_iff.2 (by dsimp only; omega)
set_option maxHeartbeats 32000000 in
set_option maxRecDepth 100000 in
theorem validSheet_any (s : Sht) (hs : Sx 1 w s.ha s.hn s.hc (L1 s.hs)) (hm : s.name.size ≤ maxLen) (hcp : 0 ≤ s.cope) : Calls Tryz.prog 35 #[aS s] w (Gives (.bool (sheetB s)) w) := by
  have hlen := hs.n1
  have hcap := hs.cap
  unfold maxLen at hcap
  have HS := Lib.hid hs
  have HM := Lib.hid hm
  obtain ⟨V, hV⟩ : ∃ V, aS s = V := ⟨_, rfl⟩
  have HV := Lib.hid (show V.cells = (cS s).toArray by rw [← hV]; rfl)
  have HV2 := Lib.hid (show Value.agg (cS s).toArray = V by rw [← hV]; rfl)
  have HWI := Lib.hid (fun W z a b c => (show Calls Tryz.prog 72 #[V, .int .i64 z] W (Gives (.int .i64 (widthI s z)) W) by rw [← hV]; exact rwidth_any W s z a b c))
  have HCR := Lib.hid (fun W h a b c d => (show Calls Tryz.prog 73 #[V] W (RetRow W 175 2 (coursesL s.hs s.height s.least).length (L2 (coursesL s.hs s.height s.least))) by rw [← hV]; exact rcourses_any W s h a b c d))
  have HNO := Lib.hid (fun h => sheetB_no (s := s) h)
  have HNU := Lib.hid (fun x hx h => sheetB_no (s := s) (.inr (.inr (.inl (all_no (x := x) hx h)))))
  have HYES := Lib.hid (fun a b c d e f g => sheetB_yes (s := s) a b c d e f g)
  rw [hV]
  clear hV hs hm
  go_enter Tryz.func35, Tryz.ntmps35
  go_upto_region 1 with (refine wpList_bx (o := ⟨some 1, _, _, _, _, _⟩) rfl (Sy.enter w) _ _ rfl (cS s).toArray HV.out ?_; intro b V2 h2; have hC := Lib.hid h2; clear h2)
  have x0 : V2.cell? ⟨b, 0, none⟩ = some (.string s.name) := hC.out.cell 0 0 rfl rfl
  have x1 : V2.cell? ⟨b, 1, none⟩ = some (.int .i64 s.base) := hC.out.cell 0 1 rfl rfl
  have x2 : V2.cell? ⟨b, 2, none⟩ = some (.int .i64 s.batter) := hC.out.cell 0 2 rfl rfl
  have x3 : V2.cell? ⟨b, 3, none⟩ = some (.int .i64 s.height) := hC.out.cell 0 3 rfl rfl
  have x4 : V2.cell? ⟨b, 4, none⟩ = some (.int .i64 s.skin) := hC.out.cell 0 4 rfl rfl
  have x5 : V2.cell? ⟨b, 5, none⟩ = some (.slice s.ha s.hn s.hc) := hC.out.cell 0 5 rfl rfl
  have x6 : V2.cell? ⟨b, 6, none⟩ = some (.int .i64 s.least) := hC.out.cell 0 6 rfl rfl
  have x7 : V2.cell? ⟨b, 7, none⟩ = some (.int .i64 s.lap) := hC.out.cell 0 7 rfl rfl
  have x8 : V2.cell? ⟨b, 8, none⟩ = some (.int .i64 s.run) := hC.out.cell 0 8 rfl rfl
  have x9 : V2.cell? ⟨b, 9, none⟩ = some (.int .i64 s.every) := hC.out.cell 0 9 rfl rfl
  have x10 : V2.cell? ⟨b, 10, none⟩ = some (.int .i64 s.at_) := hC.out.cell 0 10 rfl rfl
  have x11 : V2.cell? ⟨b, 11, none⟩ = some (.int .i64 s.footing) := hC.out.cell 0 11 rfl rfl
  have x12 : V2.cell? ⟨b, 12, none⟩ = some (.int .i64 s.spread) := hC.out.cell 0 12 rfl rfl
  have x13 : V2.cell? ⟨b, 13, none⟩ = some (.int .u8 s.cope) := hC.out.cell 0 13 rfl rfl
  have x14 : V2.cell? ⟨b, 14, none⟩ = some (.int .i64 s.tall) := hC.out.cell 0 14 rfl rfl
  have x15 : V2.cell? ⟨b, 15, none⟩ = some (.int .i64 s.short) := hC.out.cell 0 15 rfl rfl
  have x16 : V2.cell? ⟨b, 16, none⟩ = some (.int .i64 s.thick) := hC.out.cell 0 16 rfl rfl
  have x17 : V2.cell? ⟨b, 17, none⟩ = some (.int .i64 s.low) := hC.out.cell 0 17 rfl rfl
  have x18 : V2.cell? ⟨b, 18, none⟩ = some (.int .i64 s.high) := hC.out.cell 0 18 rfl rfl
  have x19 : V2.cell? ⟨b, 19, none⟩ = some (.int .i64 s.rood) := hC.out.cell 0 19 rfl rfl
  have hch : (s.hn : Int) = (s.hs.length : Int) := by omega
  clear hch
  go_wp2_with fail
  refine (refNamed_any _ _ HM.out).mono ?_
  rintro e V3 ⟨rfl, rfl⟩
  cases hk : namedB s.name
  · have HB := Lib.hid (HNO.out (.inl hk))
    clear hk
    as_aux_lemma =>
      go_wp2
      go_ret
      exact ⟨ret_bool HB.out.symm, hC.out.be⟩
  have HNA := Lib.hid hk
  clear hk
  go_wp2_with fail
  refine (in6_any _ _ _ _).mono ?_
  rintro e V4 ⟨rfl, rfl⟩
  cases hk : inB s.base 1 3000
  · have HB := Lib.hid (HNU.out (s.base, 1, 3000) (by simp [shtNums]) hk)
    clear hk
    as_aux_lemma =>
      go_wp2
      go_ret
      exact ⟨ret_bool HB.out.symm, hC.out.be⟩
  have H0 := Lib.hid hk
  clear hk
  go_wp2_with fail
  refine (in6_any _ _ _ _).mono ?_
  rintro e V5 ⟨rfl, rfl⟩
  cases hk : inB s.batter 0 500
  · have HB := Lib.hid (HNU.out (s.batter, 0, 500) (by simp [shtNums]) hk)
    clear hk
    as_aux_lemma =>
      go_wp2
      go_ret
      exact ⟨ret_bool HB.out.symm, hC.out.be⟩
  have H1 := Lib.hid hk
  clear hk
  go_wp2_with fail
  refine (in6_any _ _ _ _).mono ?_
  rintro e V6 ⟨rfl, rfl⟩
  cases hk : inB s.height 1 3000
  · have HB := Lib.hid (HNU.out (s.height, 1, 3000) (by simp [shtNums]) hk)
    clear hk
    as_aux_lemma =>
      go_wp2
      go_ret
      exact ⟨ret_bool HB.out.symm, hC.out.be⟩
  have H2 := Lib.hid hk
  clear hk
  go_wp2_with fail
  refine (in6_any _ _ _ _).mono ?_
  rintro e V7 ⟨rfl, rfl⟩
  cases hk : inB s.skin 1 1500
  · have HB := Lib.hid (HNU.out (s.skin, 1, 1500) (by simp [shtNums]) hk)
    clear hk
    as_aux_lemma =>
      go_wp2
      go_ret
      exact ⟨ret_bool HB.out.symm, hC.out.be⟩
  have H3 := Lib.hid hk
  clear hk
  go_wp2_with fail
  refine (in6_any _ _ _ _).mono ?_
  rintro e V8 ⟨rfl, rfl⟩
  cases hk : inB (s.hs.length : Int) 1 12
  · have HB := Lib.hid (HNU.out ((s.hn : Int), 1, 12) (by simp [shtNums]) (by rw [hlen]; exact hk))
    clear hk
    as_aux_lemma =>
      go_wp2
      go_ret
      exact ⟨ret_bool HB.out.symm, hC.out.be⟩
  have H4 := Lib.hid (show inB (s.hn : Int) 1 12 = true by rw [hlen]; exact hk)
  clear hk
  have hlen0 : 1 ≤ s.hs.length := by have := (inB_iff.1 H4.out).1; omega
  obtain ⟨g0, o0, e0⟩ := HS.out.addr (by omega)
  rw [e0] at x5
  have HS0 := Lib.hid (show Sx 1 w (some ⟨g0, o0, none⟩) s.hn s.hc (L1 s.hs) by rw [← e0]; exact HS.out)
  clear e0
  go_wp2
  go_loop [3] (fun iv => ∃ k : Nat, k ≤ s.hs.length ∧ iv = .int .i64 k ∧ Hid (∀ i (h : i < s.hs.length), i < k → inB s.hs[i] 1 1000 = true)) (fun iv => s.hs.length - (intOf iv).toNat)
  case atStart => exact ⟨0, Nat.zero_le _, rfl, Lib.hid (fun i _ h => absurd h (Nat.not_lt_zero i))⟩
  case round =>
    obtain ⟨k, hk9, rfl, hI⟩ := hrel
    by_cases hlt : k < s.hs.length
    · have y0 := (hC.out.sx HS0.out).at1 hlt
      have HHN := Lib.hid (fun h => HNO.out (.inr (.inr (.inr (.inl (heights_no hlt h))))))
      have HHY := Lib.hid (show inB s.hs[k] 1 1000 = true → ∀ i (h : i < s.hs.length), i < k + 1 → inB s.hs[i] 1 1000 = true from fun hx i h hi => by
        rcases Nat.lt_or_ge i k with h1 | h1
        · exact hI.out i h h1
        · have : i = k := by omega
          subst this; exact hx)
      generalize s.hs[k] = h at *
      go_wp2_with fail
      refine (in6_any _ _ _ _).mono ?_
      rintro e V9 ⟨rfl, rfl⟩
      cases hk : inB h 1 1000
      · have HB := Lib.hid (HHN.out hk)
        clear hk
        as_aux_lemma =>
          go_wp2
          go_ret
          exact ⟨ret_bool HB.out.symm, hC.out.be⟩
      have HH2 := Lib.hid (HHY.out hk)
      clear hk
      go_wp2
      go_round
      case rel => exact ⟨k + 1, by omega, by go_num, HH2⟩
      case measure => simp [intOf]; omega
    · have HHT := Lib.hid (heights_yes (fun i h => hI.out i h (by omega)))
      have hkk : ¬ (k : Int) < (s.hs.length : Int) := by omega
      clear hI
      go_wp2_with fail
      refine (in6_any _ _ _ _).mono ?_
      rintro e V10 ⟨rfl, rfl⟩
      cases hk : inB s.least 1 1000
      · have HB := Lib.hid (HNU.out (s.least, 1, 1000) (by simp [shtNums]) hk)
        clear hk
        as_aux_lemma =>
          go_wp2
          go_ret
          exact ⟨ret_bool HB.out.symm, hC.out.be⟩
      have H5 := Lib.hid hk
      clear hk
      go_wp2_with fail
      refine (in6_any _ _ _ _).mono ?_
      rintro e V11 ⟨rfl, rfl⟩
      cases hk : inB s.lap 0 500
      · have HB := Lib.hid (HNU.out (s.lap, 0, 500) (by simp [shtNums]) hk)
        clear hk
        as_aux_lemma =>
          go_wp2
          go_ret
          exact ⟨ret_bool HB.out.symm, hC.out.be⟩
      have H6 := Lib.hid hk
      clear hk
      go_wp2_with fail
      refine (in6_any _ _ _ _).mono ?_
      rintro e V12 ⟨rfl, rfl⟩
      cases hk : inB s.run 1 20
      · have HB := Lib.hid (HNU.out (s.run, 1, 20) (by simp [shtNums]) hk)
        clear hk
        as_aux_lemma =>
          go_wp2
          go_ret
          exact ⟨ret_bool HB.out.symm, hC.out.be⟩
      have H7 := Lib.hid hk
      clear hk
      go_wp2_with fail
      refine (in6_any _ _ _ _).mono ?_
      rintro e V13 ⟨rfl, rfl⟩
      cases hk : inB s.footing 0 1000
      · have HB := Lib.hid (HNU.out (s.footing, 0, 1000) (by simp [shtNums]) hk)
        clear hk
        as_aux_lemma =>
          go_wp2
          go_ret
          exact ⟨ret_bool HB.out.symm, hC.out.be⟩
      have H8 := Lib.hid hk
      clear hk
      go_wp2_with fail
      refine (in6_any _ _ _ _).mono ?_
      rintro e V14 ⟨rfl, rfl⟩
      cases hk : inB s.spread 0 1000
      · have HB := Lib.hid (HNU.out (s.spread, 0, 1000) (by simp [shtNums]) hk)
        clear hk
        as_aux_lemma =>
          go_wp2
          go_ret
          exact ⟨ret_bool HB.out.symm, hC.out.be⟩
      have H9 := Lib.hid hk
      clear hk
      cases he : (s.every == 0)
      · have HE := Lib.hid he
        go_wp2_with fail
        refine (in6_any _ _ _ _).mono ?_
        rintro e V15 ⟨rfl, rfl⟩
        cases hk : inB s.every 1 100000
        · have HB := Lib.hid (HNO.out (.inr (.inl (through_no (.inl HE.out) (.inl hk)))))
          clear hk
          as_aux_lemma =>
            go_wp2
            go_ret
            exact ⟨ret_bool HB.out.symm, hC.out.be⟩
        have E1 := Lib.hid hk
        clear hk
        go_wp2_with fail
        refine (in6_any _ _ _ _).mono ?_
        rintro e V16 ⟨rfl, rfl⟩
        cases hk : inB s.at_ 0 3000
        · have HB := Lib.hid (HNO.out (.inr (.inl (through_no (.inl HE.out) (.inr hk)))))
          clear hk
          as_aux_lemma =>
            go_wp2
            go_ret
            exact ⟨ret_bool HB.out.symm, hC.out.be⟩
        have E2 := Lib.hid hk
        clear hk
        have HTH := Lib.hid (through_yes E1.out E2.out)
        go_wp2_with fail
        refine (in6_any _ _ _ _).mono ?_
        rintro e V17 ⟨rfl, rfl⟩
        cases hk : inB s.high 0 2000
        · have HB := Lib.hid (HNU.out (s.high, 0, 2000) (by simp [shtNums]) hk)
          clear hk
          as_aux_lemma =>
            go_wp2
            go_ret
            exact ⟨ret_bool HB.out.symm, hC.out.be⟩
        have H11 := Lib.hid hk
        clear hk
        go_wp2_with fail
        refine (in6_any _ _ _ _).mono ?_
        rintro e V18 ⟨rfl, rfl⟩
        cases hk : inB s.low 0 s.high
        · have HB := Lib.hid (HNU.out (s.low, 0, s.high) (by simp [shtNums]) hk)
          clear hk
          as_aux_lemma =>
            go_wp2
            go_ret
            exact ⟨ret_bool HB.out.symm, hC.out.be⟩
        have H10 := Lib.hid hk
        clear hk
        go_wp2_with fail
        refine (in6_any _ _ _ _).mono ?_
        rintro e V19 ⟨rfl, rfl⟩
        cases hk : inB s.rood 1 100000
        · have HB := Lib.hid (HNU.out (s.rood, 1, 100000) (by simp [shtNums]) hk)
          clear hk
          as_aux_lemma =>
            go_wp2
            go_ret
            exact ⟨ret_bool HB.out.symm, hC.out.be⟩
        have H12 := Lib.hid hk
        clear hk
        by_cases c4 : 3 < s.cope
        · have HB := Lib.hid (HNO.out (.inr (.inr (.inr (.inr (.inl (coped_x c4)))))))
          as_aux_lemma =>
            go_wp2
            go_ret
            exact ⟨ret_bool HB.out.symm, hC.out.be⟩
        by_cases c0 : s.cope = 0
        · have HCE := Lib.hid (coped_0no c0)
          have HCY := Lib.hid (coped_0yes c0)
          have b0 : (s.cope == 0) = true := beq_iff_eq.2 c0
          have b1 : (s.cope == 3) = false := beq_eq_false_iff_ne.2 (by omega)
          have b2 : (s.cope != 0) = false := by simp [c0]
          have b3 : (s.cope != 3) = true := by simp [c0]
          clear c0
          cases d1 : (s.tall != 0)
          rotate_left
          · have HB := Lib.hid (HNO.out (.inr (.inr (.inr (.inr (.inl (HCE.out (.inl d1))))))))
            as_aux_lemma =>
              go_wp2
              go_ret
              exact ⟨ret_bool HB.out.symm, hC.out.be⟩
          cases d2 : (s.short != 0)
          rotate_left
          · have HB := Lib.hid (HNO.out (.inr (.inr (.inr (.inr (.inl (HCE.out (.inr (.inl d2)))))))))
            as_aux_lemma =>
              go_wp2
              go_ret
              exact ⟨ret_bool HB.out.symm, hC.out.be⟩
          cases d3 : (s.thick != 0)
          rotate_left
          · have HB := Lib.hid (HNO.out (.inr (.inr (.inr (.inr (.inl (HCE.out (.inr (.inr d3)))))))))
            as_aux_lemma =>
              go_wp2
              go_ret
              exact ⟨ret_bool HB.out.symm, hC.out.be⟩
          have HC1 := Lib.hid (HCY.out d1 d2 d3)
          clear HCE HCY
          have HCP := Lib.hid (show copedB s = true from HC1.out)
          obtain ⟨n0, n1⟩ := inB_iff.1 H0.out
          obtain ⟨n2, n3⟩ := inB_iff.1 H1.out
          obtain ⟨n4, n5⟩ := inB_iff.1 H2.out
          obtain ⟨n8, n9⟩ := inB_iff.1 H5.out
          have HNUM := Lib.hid (nums_yes H0.out H1.out H2.out H3.out H4.out H5.out H6.out H7.out H8.out H9.out H10.out H11.out H12.out)
          have HW0 := Lib.hid (show ¬ 1 ≤ widthI s s.height → sheetB s = false from fun h => HNO.out (.inr (.inr (.inr (.inr (.inr (.inl (by omega))))))))
          have HWY := Lib.hid (fun h1 h7 => HYES.out HNA.out HTH.out HNUM.out HHT.out HCP.out h1 h7)
          clear HNO HNU HYES
          as_aux_lemma =>
            go_upto_region 20 with fail
            go_wp2_with (refine wpList_ld (o := ⟨some 176, _, _, _, _, _⟩) rfl _ _ rfl _ _ rfl (cS s) _ (hC.out.range 0 rfl) Tryz.underlying53 rfl info_RSheet V HV2.out ?_)
            refine (HWI.out _ _ ⟨n2, n3⟩ ⟨by omega, n5⟩ ⟨by omega, n1⟩).mono ?_
            rintro e w7 ⟨rfl, hb⟩
            have hR := Lib.hid (hC.out.call hb)
            clear hb hC x0 x1 x2 x3 x4 x5 x6 x7 x8 x9 x10 x11 x12 x13 x14 x15 x16 x17 x18 x19
            generalize widthI s s.height = wi at *
            by_cases hw1 : 1 ≤ wi
            rotate_left
            · have HB := Lib.hid (HW0.out (by omega))
              go_wp2
              go_ret
              exact ⟨ret_bool HB.out.symm, hR.out.be⟩
            have HWZ := Lib.hid (HWY.out hw1)
            have dw : decide (1 ≤ wi) = true := decide_eq_true hw1
            clear HWY HW0
            go_wp2_with (refine wpList_ldg (o := ⟨some 182, _, _, _, _, _⟩) rfl _ _ rfl _ _ rfl (cS s) _ (hR.out.range 0 rfl) Tryz.underlying53 rfl info_RSheet V HV2.out ?_)
            refine (HCR.out _ (hR.out.sx HS.out) (by omega) (heights_get HHT.out) ⟨n4, n5⟩ n8).mono ?_
            rintro e w8 ⟨a8, c8, rfl, hr8, hb⟩
            have hT := Lib.hid (hR.out.call hb)
            clear hb hR hr8
            have HLN := Lib.hid (show ¬ (coursesL s.hs s.height s.least).length ≤ 100 → sheetB s = false from fun h => sheetB_no (.inr (.inr (.inr (.inr (.inr (.inr h)))))))
            generalize (coursesL s.hs s.height s.least).length = N at *
            by_cases hN1 : (N : Int) ≤ 100
            · have HB := Lib.hid (HWZ.out (by omega))
              go_wp2
              go_ret
              exact ⟨ret_bool HB.out.symm, hT.out.be⟩
            · have HB := Lib.hid (HLN.out (by omega))
              have dN : decide ((N : Int) ≤ 100) = false := decide_eq_false hN1
              go_wp2
              go_ret
              exact ⟨ret_bool HB.out.symm, hT.out.be⟩
        by_cases c3 : s.cope = 3
        · have HCE := Lib.hid (coped_3 c3)
          have b0 : (s.cope == 0) = false := beq_eq_false_iff_ne.2 c0
          have b1 : (s.cope == 3) = true := beq_iff_eq.2 c3
          have b2 : (s.cope != 0) = true := by simp [c0]
          have b3 : (s.cope != 3) = false := by simp [c3]
          clear c0 c3
          go_wp2_with fail
          refine (in6_any _ _ _ _).mono ?_
          rintro e V20 ⟨rfl, rfl⟩
          cases hk : inB s.tall 1 1000
          · have HB := Lib.hid (HNO.out (.inr (.inr (.inr (.inr (.inl (by rw [HCE.out]; exact all_no (x := (s.tall, 1, 1000)) (by simp) hk)))))))
            clear hk
            as_aux_lemma =>
              go_wp2
              go_ret
              exact ⟨ret_bool HB.out.symm, hC.out.be⟩
          have T1 := Lib.hid hk
          clear hk
          go_wp2_with fail
          refine (in6_any _ _ _ _).mono ?_
          rintro e V21 ⟨rfl, rfl⟩
          cases hk : inB s.thick 1 1000
          · have HB := Lib.hid (HNO.out (.inr (.inr (.inr (.inr (.inl (by rw [HCE.out]; exact all_no (x := (s.thick, 1, 1000)) (by simp) hk)))))))
            clear hk
            as_aux_lemma =>
              go_wp2
              go_ret
              exact ⟨ret_bool HB.out.symm, hC.out.be⟩
          have T2 := Lib.hid hk
          clear hk
          go_wp2_with fail
          refine (in6_any _ _ _ _).mono ?_
          rintro e V22 ⟨rfl, rfl⟩
          cases hk : inB s.short 1 1000
          · have HB := Lib.hid (HNO.out (.inr (.inr (.inr (.inr (.inl (by rw [HCE.out]; exact all_no (x := (s.short, 1, 1000)) (by simp) hk)))))))
            clear hk
            as_aux_lemma =>
              go_wp2
              go_ret
              exact ⟨ret_bool HB.out.symm, hC.out.be⟩
          have T3 := Lib.hid hk
          clear hk
          have HCP := Lib.hid (show copedB s = true from by rw [HCE.out]; exact lim3_yes T1.out T3.out T2.out)
          obtain ⟨n0, n1⟩ := inB_iff.1 H0.out
          obtain ⟨n2, n3⟩ := inB_iff.1 H1.out
          obtain ⟨n4, n5⟩ := inB_iff.1 H2.out
          obtain ⟨n8, n9⟩ := inB_iff.1 H5.out
          have HNUM := Lib.hid (nums_yes H0.out H1.out H2.out H3.out H4.out H5.out H6.out H7.out H8.out H9.out H10.out H11.out H12.out)
          have HW0 := Lib.hid (show ¬ 1 ≤ widthI s s.height → sheetB s = false from fun h => HNO.out (.inr (.inr (.inr (.inr (.inr (.inl (by omega))))))))
          have HWY := Lib.hid (fun h1 h7 => HYES.out HNA.out HTH.out HNUM.out HHT.out HCP.out h1 h7)
          clear HNO HNU HYES
          as_aux_lemma =>
            go_upto_region 20 with fail
            go_wp2_with (refine wpList_ld (o := ⟨some 176, _, _, _, _, _⟩) rfl _ _ rfl _ _ rfl (cS s) _ (hC.out.range 0 rfl) Tryz.underlying53 rfl info_RSheet V HV2.out ?_)
            refine (HWI.out _ _ ⟨n2, n3⟩ ⟨by omega, n5⟩ ⟨by omega, n1⟩).mono ?_
            rintro e w7 ⟨rfl, hb⟩
            have hR := Lib.hid (hC.out.call hb)
            clear hb hC x0 x1 x2 x3 x4 x5 x6 x7 x8 x9 x10 x11 x12 x13 x14 x15 x16 x17 x18 x19
            generalize widthI s s.height = wi at *
            by_cases hw1 : 1 ≤ wi
            rotate_left
            · have HB := Lib.hid (HW0.out (by omega))
              go_wp2
              go_ret
              exact ⟨ret_bool HB.out.symm, hR.out.be⟩
            have HWZ := Lib.hid (HWY.out hw1)
            have dw : decide (1 ≤ wi) = true := decide_eq_true hw1
            clear HWY HW0
            go_wp2_with (refine wpList_ldg (o := ⟨some 182, _, _, _, _, _⟩) rfl _ _ rfl _ _ rfl (cS s) _ (hR.out.range 0 rfl) Tryz.underlying53 rfl info_RSheet V HV2.out ?_)
            refine (HCR.out _ (hR.out.sx HS.out) (by omega) (heights_get HHT.out) ⟨n4, n5⟩ n8).mono ?_
            rintro e w8 ⟨a8, c8, rfl, hr8, hb⟩
            have hT := Lib.hid (hR.out.call hb)
            clear hb hR hr8
            have HLN := Lib.hid (show ¬ (coursesL s.hs s.height s.least).length ≤ 100 → sheetB s = false from fun h => sheetB_no (.inr (.inr (.inr (.inr (.inr (.inr h)))))))
            generalize (coursesL s.hs s.height s.least).length = N at *
            by_cases hN1 : (N : Int) ≤ 100
            · have HB := Lib.hid (HWZ.out (by omega))
              go_wp2
              go_ret
              exact ⟨ret_bool HB.out.symm, hT.out.be⟩
            · have HB := Lib.hid (HLN.out (by omega))
              have dN : decide ((N : Int) ≤ 100) = false := decide_eq_false hN1
              go_wp2
              go_ret
              exact ⟨ret_bool HB.out.symm, hT.out.be⟩
        have c12 : s.cope = 1 ∨ s.cope = 2 := by omega
        have HCE := Lib.hid (coped_12 c0 c12)
        have b0 : (s.cope == 0) = false := beq_eq_false_iff_ne.2 c0
        have b1 : (s.cope == 3) = false := beq_eq_false_iff_ne.2 c3
        have b2 : (s.cope != 0) = true := by simp [c0]
        have b3 : (s.cope != 3) = true := by simp [c3]
        clear c0 c3 c12
        go_wp2_with fail
        refine (in6_any _ _ _ _).mono ?_
        rintro e V23 ⟨rfl, rfl⟩
        cases hk : inB s.tall 1 1000
        · have HB := Lib.hid (HNO.out (.inr (.inr (.inr (.inr (.inl (by rw [HCE.out]; exact all_no (x := (s.tall, 1, 1000)) (by simp) hk)))))))
          clear hk
          as_aux_lemma =>
            go_wp2
            go_ret
            exact ⟨ret_bool HB.out.symm, hC.out.be⟩
        have T1 := Lib.hid hk
        clear hk
        go_wp2_with fail
        refine (in6_any _ _ _ _).mono ?_
        rintro e V24 ⟨rfl, rfl⟩
        cases hk : inB s.thick 1 1000
        · have HB := Lib.hid (HNO.out (.inr (.inr (.inr (.inr (.inl (by rw [HCE.out]; exact all_no (x := (s.thick, 1, 1000)) (by simp) hk)))))))
          clear hk
          as_aux_lemma =>
            go_wp2
            go_ret
            exact ⟨ret_bool HB.out.symm, hC.out.be⟩
        have T2 := Lib.hid hk
        clear hk
        cases d2 : (s.short != 0)
        rotate_left
        · have HB := Lib.hid (HNO.out (.inr (.inr (.inr (.inr (.inl (by rw [HCE.out]; exact all_no (x := (s.short, 0, 0)) (by simp) (lim_00 (by simpa using d2)))))))))
          as_aux_lemma =>
            go_wp2
            go_ret
            exact ⟨ret_bool HB.out.symm, hC.out.be⟩
        have U2 := Lib.hid (lim_01 (show s.short = 0 by simpa using d2))
        have HCP := Lib.hid (show copedB s = true from by rw [HCE.out]; exact lim3_yes T1.out U2.out T2.out)
        obtain ⟨n0, n1⟩ := inB_iff.1 H0.out
        obtain ⟨n2, n3⟩ := inB_iff.1 H1.out
        obtain ⟨n4, n5⟩ := inB_iff.1 H2.out
        obtain ⟨n8, n9⟩ := inB_iff.1 H5.out
        have HNUM := Lib.hid (nums_yes H0.out H1.out H2.out H3.out H4.out H5.out H6.out H7.out H8.out H9.out H10.out H11.out H12.out)
        have HW0 := Lib.hid (show ¬ 1 ≤ widthI s s.height → sheetB s = false from fun h => HNO.out (.inr (.inr (.inr (.inr (.inr (.inl (by omega))))))))
        have HWY := Lib.hid (fun h1 h7 => HYES.out HNA.out HTH.out HNUM.out HHT.out HCP.out h1 h7)
        clear HNO HNU HYES
        as_aux_lemma =>
          go_upto_region 20 with fail
          go_wp2_with (refine wpList_ld (o := ⟨some 176, _, _, _, _, _⟩) rfl _ _ rfl _ _ rfl (cS s) _ (hC.out.range 0 rfl) Tryz.underlying53 rfl info_RSheet V HV2.out ?_)
          refine (HWI.out _ _ ⟨n2, n3⟩ ⟨by omega, n5⟩ ⟨by omega, n1⟩).mono ?_
          rintro e w7 ⟨rfl, hb⟩
          have hR := Lib.hid (hC.out.call hb)
          clear hb hC x0 x1 x2 x3 x4 x5 x6 x7 x8 x9 x10 x11 x12 x13 x14 x15 x16 x17 x18 x19
          generalize widthI s s.height = wi at *
          by_cases hw1 : 1 ≤ wi
          rotate_left
          · have HB := Lib.hid (HW0.out (by omega))
            go_wp2
            go_ret
            exact ⟨ret_bool HB.out.symm, hR.out.be⟩
          have HWZ := Lib.hid (HWY.out hw1)
          have dw : decide (1 ≤ wi) = true := decide_eq_true hw1
          clear HWY HW0
          go_wp2_with (refine wpList_ldg (o := ⟨some 182, _, _, _, _, _⟩) rfl _ _ rfl _ _ rfl (cS s) _ (hR.out.range 0 rfl) Tryz.underlying53 rfl info_RSheet V HV2.out ?_)
          refine (HCR.out _ (hR.out.sx HS.out) (by omega) (heights_get HHT.out) ⟨n4, n5⟩ n8).mono ?_
          rintro e w8 ⟨a8, c8, rfl, hr8, hb⟩
          have hT := Lib.hid (hR.out.call hb)
          clear hb hR hr8
          have HLN := Lib.hid (show ¬ (coursesL s.hs s.height s.least).length ≤ 100 → sheetB s = false from fun h => sheetB_no (.inr (.inr (.inr (.inr (.inr (.inr h)))))))
          generalize (coursesL s.hs s.height s.least).length = N at *
          by_cases hN1 : (N : Int) ≤ 100
          · have HB := Lib.hid (HWZ.out (by omega))
            go_wp2
            go_ret
            exact ⟨ret_bool HB.out.symm, hT.out.be⟩
          · have HB := Lib.hid (HLN.out (by omega))
            have dN : decide ((N : Int) ≤ 100) = false := decide_eq_false hN1
            go_wp2
            go_ret
            exact ⟨ret_bool HB.out.symm, hT.out.be⟩
      · have HE := Lib.hid he
        cases ha : (s.at_ == 0)
        · have HB := Lib.hid (HNO.out (.inr (.inl (through_no (.inr ha) (.inl (show inB s.every 1 100000 = false by rw [beq_iff_eq.1 HE.out]; rfl))))))
          have hk : inB s.every 1 100000 = false := by rw [beq_iff_eq.1 HE.out]; rfl
          go_wp2_with fail
          refine (in6_any _ _ _ _).mono ?_
          rintro e V25 ⟨rfl, rfl⟩
          rw [hk]
          go_wp2
          go_ret
          exact ⟨ret_bool HB.out.symm, hC.out.be⟩
        · have HTH := Lib.hid (through_yes0 HE.out ha)
          go_wp2_with fail
          refine (in6_any _ _ _ _).mono ?_
          rintro e V26 ⟨rfl, rfl⟩
          cases hk : inB s.high 0 2000
          · have HB := Lib.hid (HNU.out (s.high, 0, 2000) (by simp [shtNums]) hk)
            clear hk
            as_aux_lemma =>
              go_wp2
              go_ret
              exact ⟨ret_bool HB.out.symm, hC.out.be⟩
          have H11 := Lib.hid hk
          clear hk
          go_wp2_with fail
          refine (in6_any _ _ _ _).mono ?_
          rintro e V27 ⟨rfl, rfl⟩
          cases hk : inB s.low 0 s.high
          · have HB := Lib.hid (HNU.out (s.low, 0, s.high) (by simp [shtNums]) hk)
            clear hk
            as_aux_lemma =>
              go_wp2
              go_ret
              exact ⟨ret_bool HB.out.symm, hC.out.be⟩
          have H10 := Lib.hid hk
          clear hk
          go_wp2_with fail
          refine (in6_any _ _ _ _).mono ?_
          rintro e V28 ⟨rfl, rfl⟩
          cases hk : inB s.rood 1 100000
          · have HB := Lib.hid (HNU.out (s.rood, 1, 100000) (by simp [shtNums]) hk)
            clear hk
            as_aux_lemma =>
              go_wp2
              go_ret
              exact ⟨ret_bool HB.out.symm, hC.out.be⟩
          have H12 := Lib.hid hk
          clear hk
          by_cases c4 : 3 < s.cope
          · have HB := Lib.hid (HNO.out (.inr (.inr (.inr (.inr (.inl (coped_x c4)))))))
            as_aux_lemma =>
              go_wp2
              go_ret
              exact ⟨ret_bool HB.out.symm, hC.out.be⟩
          by_cases c0 : s.cope = 0
          · have HCE := Lib.hid (coped_0no c0)
            have HCY := Lib.hid (coped_0yes c0)
            have b0 : (s.cope == 0) = true := beq_iff_eq.2 c0
            have b1 : (s.cope == 3) = false := beq_eq_false_iff_ne.2 (by omega)
            have b2 : (s.cope != 0) = false := by simp [c0]
            have b3 : (s.cope != 3) = true := by simp [c0]
            clear c0
            cases d1 : (s.tall != 0)
            rotate_left
            · have HB := Lib.hid (HNO.out (.inr (.inr (.inr (.inr (.inl (HCE.out (.inl d1))))))))
              as_aux_lemma =>
                go_wp2
                go_ret
                exact ⟨ret_bool HB.out.symm, hC.out.be⟩
            cases d2 : (s.short != 0)
            rotate_left
            · have HB := Lib.hid (HNO.out (.inr (.inr (.inr (.inr (.inl (HCE.out (.inr (.inl d2)))))))))
              as_aux_lemma =>
                go_wp2
                go_ret
                exact ⟨ret_bool HB.out.symm, hC.out.be⟩
            cases d3 : (s.thick != 0)
            rotate_left
            · have HB := Lib.hid (HNO.out (.inr (.inr (.inr (.inr (.inl (HCE.out (.inr (.inr d3)))))))))
              as_aux_lemma =>
                go_wp2
                go_ret
                exact ⟨ret_bool HB.out.symm, hC.out.be⟩
            have HC1 := Lib.hid (HCY.out d1 d2 d3)
            clear HCE HCY
            have HCP := Lib.hid (show copedB s = true from HC1.out)
            obtain ⟨n0, n1⟩ := inB_iff.1 H0.out
            obtain ⟨n2, n3⟩ := inB_iff.1 H1.out
            obtain ⟨n4, n5⟩ := inB_iff.1 H2.out
            obtain ⟨n8, n9⟩ := inB_iff.1 H5.out
            have HNUM := Lib.hid (nums_yes H0.out H1.out H2.out H3.out H4.out H5.out H6.out H7.out H8.out H9.out H10.out H11.out H12.out)
            have HW0 := Lib.hid (show ¬ 1 ≤ widthI s s.height → sheetB s = false from fun h => HNO.out (.inr (.inr (.inr (.inr (.inr (.inl (by omega))))))))
            have HWY := Lib.hid (fun h1 h7 => HYES.out HNA.out HTH.out HNUM.out HHT.out HCP.out h1 h7)
            clear HNO HNU HYES
            as_aux_lemma =>
              go_upto_region 20 with fail
              go_wp2_with (refine wpList_ld (o := ⟨some 176, _, _, _, _, _⟩) rfl _ _ rfl _ _ rfl (cS s) _ (hC.out.range 0 rfl) Tryz.underlying53 rfl info_RSheet V HV2.out ?_)
              refine (HWI.out _ _ ⟨n2, n3⟩ ⟨by omega, n5⟩ ⟨by omega, n1⟩).mono ?_
              rintro e w7 ⟨rfl, hb⟩
              have hR := Lib.hid (hC.out.call hb)
              clear hb hC x0 x1 x2 x3 x4 x5 x6 x7 x8 x9 x10 x11 x12 x13 x14 x15 x16 x17 x18 x19
              generalize widthI s s.height = wi at *
              by_cases hw1 : 1 ≤ wi
              rotate_left
              · have HB := Lib.hid (HW0.out (by omega))
                go_wp2
                go_ret
                exact ⟨ret_bool HB.out.symm, hR.out.be⟩
              have HWZ := Lib.hid (HWY.out hw1)
              have dw : decide (1 ≤ wi) = true := decide_eq_true hw1
              clear HWY HW0
              go_wp2_with (refine wpList_ldg (o := ⟨some 182, _, _, _, _, _⟩) rfl _ _ rfl _ _ rfl (cS s) _ (hR.out.range 0 rfl) Tryz.underlying53 rfl info_RSheet V HV2.out ?_)
              refine (HCR.out _ (hR.out.sx HS.out) (by omega) (heights_get HHT.out) ⟨n4, n5⟩ n8).mono ?_
              rintro e w8 ⟨a8, c8, rfl, hr8, hb⟩
              have hT := Lib.hid (hR.out.call hb)
              clear hb hR hr8
              have HLN := Lib.hid (show ¬ (coursesL s.hs s.height s.least).length ≤ 100 → sheetB s = false from fun h => sheetB_no (.inr (.inr (.inr (.inr (.inr (.inr h)))))))
              generalize (coursesL s.hs s.height s.least).length = N at *
              by_cases hN1 : (N : Int) ≤ 100
              · have HB := Lib.hid (HWZ.out (by omega))
                go_wp2
                go_ret
                exact ⟨ret_bool HB.out.symm, hT.out.be⟩
              · have HB := Lib.hid (HLN.out (by omega))
                have dN : decide ((N : Int) ≤ 100) = false := decide_eq_false hN1
                go_wp2
                go_ret
                exact ⟨ret_bool HB.out.symm, hT.out.be⟩
          by_cases c3 : s.cope = 3
          · have HCE := Lib.hid (coped_3 c3)
            have b0 : (s.cope == 0) = false := beq_eq_false_iff_ne.2 c0
            have b1 : (s.cope == 3) = true := beq_iff_eq.2 c3
            have b2 : (s.cope != 0) = true := by simp [c0]
            have b3 : (s.cope != 3) = false := by simp [c3]
            clear c0 c3
            go_wp2_with fail
            refine (in6_any _ _ _ _).mono ?_
            rintro e V29 ⟨rfl, rfl⟩
            cases hk : inB s.tall 1 1000
            · have HB := Lib.hid (HNO.out (.inr (.inr (.inr (.inr (.inl (by rw [HCE.out]; exact all_no (x := (s.tall, 1, 1000)) (by simp) hk)))))))
              clear hk
              as_aux_lemma =>
                go_wp2
                go_ret
                exact ⟨ret_bool HB.out.symm, hC.out.be⟩
            have T1 := Lib.hid hk
            clear hk
            go_wp2_with fail
            refine (in6_any _ _ _ _).mono ?_
            rintro e V30 ⟨rfl, rfl⟩
            cases hk : inB s.thick 1 1000
            · have HB := Lib.hid (HNO.out (.inr (.inr (.inr (.inr (.inl (by rw [HCE.out]; exact all_no (x := (s.thick, 1, 1000)) (by simp) hk)))))))
              clear hk
              as_aux_lemma =>
                go_wp2
                go_ret
                exact ⟨ret_bool HB.out.symm, hC.out.be⟩
            have T2 := Lib.hid hk
            clear hk
            go_wp2_with fail
            refine (in6_any _ _ _ _).mono ?_
            rintro e V31 ⟨rfl, rfl⟩
            cases hk : inB s.short 1 1000
            · have HB := Lib.hid (HNO.out (.inr (.inr (.inr (.inr (.inl (by rw [HCE.out]; exact all_no (x := (s.short, 1, 1000)) (by simp) hk)))))))
              clear hk
              as_aux_lemma =>
                go_wp2
                go_ret
                exact ⟨ret_bool HB.out.symm, hC.out.be⟩
            have T3 := Lib.hid hk
            clear hk
            have HCP := Lib.hid (show copedB s = true from by rw [HCE.out]; exact lim3_yes T1.out T3.out T2.out)
            obtain ⟨n0, n1⟩ := inB_iff.1 H0.out
            obtain ⟨n2, n3⟩ := inB_iff.1 H1.out
            obtain ⟨n4, n5⟩ := inB_iff.1 H2.out
            obtain ⟨n8, n9⟩ := inB_iff.1 H5.out
            have HNUM := Lib.hid (nums_yes H0.out H1.out H2.out H3.out H4.out H5.out H6.out H7.out H8.out H9.out H10.out H11.out H12.out)
            have HW0 := Lib.hid (show ¬ 1 ≤ widthI s s.height → sheetB s = false from fun h => HNO.out (.inr (.inr (.inr (.inr (.inr (.inl (by omega))))))))
            have HWY := Lib.hid (fun h1 h7 => HYES.out HNA.out HTH.out HNUM.out HHT.out HCP.out h1 h7)
            clear HNO HNU HYES
            as_aux_lemma =>
              go_upto_region 20 with fail
              go_wp2_with (refine wpList_ld (o := ⟨some 176, _, _, _, _, _⟩) rfl _ _ rfl _ _ rfl (cS s) _ (hC.out.range 0 rfl) Tryz.underlying53 rfl info_RSheet V HV2.out ?_)
              refine (HWI.out _ _ ⟨n2, n3⟩ ⟨by omega, n5⟩ ⟨by omega, n1⟩).mono ?_
              rintro e w7 ⟨rfl, hb⟩
              have hR := Lib.hid (hC.out.call hb)
              clear hb hC x0 x1 x2 x3 x4 x5 x6 x7 x8 x9 x10 x11 x12 x13 x14 x15 x16 x17 x18 x19
              generalize widthI s s.height = wi at *
              by_cases hw1 : 1 ≤ wi
              rotate_left
              · have HB := Lib.hid (HW0.out (by omega))
                go_wp2
                go_ret
                exact ⟨ret_bool HB.out.symm, hR.out.be⟩
              have HWZ := Lib.hid (HWY.out hw1)
              have dw : decide (1 ≤ wi) = true := decide_eq_true hw1
              clear HWY HW0
              go_wp2_with (refine wpList_ldg (o := ⟨some 182, _, _, _, _, _⟩) rfl _ _ rfl _ _ rfl (cS s) _ (hR.out.range 0 rfl) Tryz.underlying53 rfl info_RSheet V HV2.out ?_)
              refine (HCR.out _ (hR.out.sx HS.out) (by omega) (heights_get HHT.out) ⟨n4, n5⟩ n8).mono ?_
              rintro e w8 ⟨a8, c8, rfl, hr8, hb⟩
              have hT := Lib.hid (hR.out.call hb)
              clear hb hR hr8
              have HLN := Lib.hid (show ¬ (coursesL s.hs s.height s.least).length ≤ 100 → sheetB s = false from fun h => sheetB_no (.inr (.inr (.inr (.inr (.inr (.inr h)))))))
              generalize (coursesL s.hs s.height s.least).length = N at *
              by_cases hN1 : (N : Int) ≤ 100
              · have HB := Lib.hid (HWZ.out (by omega))
                go_wp2
                go_ret
                exact ⟨ret_bool HB.out.symm, hT.out.be⟩
              · have HB := Lib.hid (HLN.out (by omega))
                have dN : decide ((N : Int) ≤ 100) = false := decide_eq_false hN1
                go_wp2
                go_ret
                exact ⟨ret_bool HB.out.symm, hT.out.be⟩
          have c12 : s.cope = 1 ∨ s.cope = 2 := by omega
          have HCE := Lib.hid (coped_12 c0 c12)
          have b0 : (s.cope == 0) = false := beq_eq_false_iff_ne.2 c0
          have b1 : (s.cope == 3) = false := beq_eq_false_iff_ne.2 c3
          have b2 : (s.cope != 0) = true := by simp [c0]
          have b3 : (s.cope != 3) = true := by simp [c3]
          clear c0 c3 c12
          go_wp2_with fail
          refine (in6_any _ _ _ _).mono ?_
          rintro e V32 ⟨rfl, rfl⟩
          cases hk : inB s.tall 1 1000
          · have HB := Lib.hid (HNO.out (.inr (.inr (.inr (.inr (.inl (by rw [HCE.out]; exact all_no (x := (s.tall, 1, 1000)) (by simp) hk)))))))
            clear hk
            as_aux_lemma =>
              go_wp2
              go_ret
              exact ⟨ret_bool HB.out.symm, hC.out.be⟩
          have T1 := Lib.hid hk
          clear hk
          go_wp2_with fail
          refine (in6_any _ _ _ _).mono ?_
          rintro e V33 ⟨rfl, rfl⟩
          cases hk : inB s.thick 1 1000
          · have HB := Lib.hid (HNO.out (.inr (.inr (.inr (.inr (.inl (by rw [HCE.out]; exact all_no (x := (s.thick, 1, 1000)) (by simp) hk)))))))
            clear hk
            as_aux_lemma =>
              go_wp2
              go_ret
              exact ⟨ret_bool HB.out.symm, hC.out.be⟩
          have T2 := Lib.hid hk
          clear hk
          cases d2 : (s.short != 0)
          rotate_left
          · have HB := Lib.hid (HNO.out (.inr (.inr (.inr (.inr (.inl (by rw [HCE.out]; exact all_no (x := (s.short, 0, 0)) (by simp) (lim_00 (by simpa using d2)))))))))
            as_aux_lemma =>
              go_wp2
              go_ret
              exact ⟨ret_bool HB.out.symm, hC.out.be⟩
          have U2 := Lib.hid (lim_01 (show s.short = 0 by simpa using d2))
          have HCP := Lib.hid (show copedB s = true from by rw [HCE.out]; exact lim3_yes T1.out U2.out T2.out)
          obtain ⟨n0, n1⟩ := inB_iff.1 H0.out
          obtain ⟨n2, n3⟩ := inB_iff.1 H1.out
          obtain ⟨n4, n5⟩ := inB_iff.1 H2.out
          obtain ⟨n8, n9⟩ := inB_iff.1 H5.out
          have HNUM := Lib.hid (nums_yes H0.out H1.out H2.out H3.out H4.out H5.out H6.out H7.out H8.out H9.out H10.out H11.out H12.out)
          have HW0 := Lib.hid (show ¬ 1 ≤ widthI s s.height → sheetB s = false from fun h => HNO.out (.inr (.inr (.inr (.inr (.inr (.inl (by omega))))))))
          have HWY := Lib.hid (fun h1 h7 => HYES.out HNA.out HTH.out HNUM.out HHT.out HCP.out h1 h7)
          clear HNO HNU HYES
          as_aux_lemma =>
            go_upto_region 20 with fail
            go_wp2_with (refine wpList_ld (o := ⟨some 176, _, _, _, _, _⟩) rfl _ _ rfl _ _ rfl (cS s) _ (hC.out.range 0 rfl) Tryz.underlying53 rfl info_RSheet V HV2.out ?_)
            refine (HWI.out _ _ ⟨n2, n3⟩ ⟨by omega, n5⟩ ⟨by omega, n1⟩).mono ?_
            rintro e w7 ⟨rfl, hb⟩
            have hR := Lib.hid (hC.out.call hb)
            clear hb hC x0 x1 x2 x3 x4 x5 x6 x7 x8 x9 x10 x11 x12 x13 x14 x15 x16 x17 x18 x19
            generalize widthI s s.height = wi at *
            by_cases hw1 : 1 ≤ wi
            rotate_left
            · have HB := Lib.hid (HW0.out (by omega))
              go_wp2
              go_ret
              exact ⟨ret_bool HB.out.symm, hR.out.be⟩
            have HWZ := Lib.hid (HWY.out hw1)
            have dw : decide (1 ≤ wi) = true := decide_eq_true hw1
            clear HWY HW0
            go_wp2_with (refine wpList_ldg (o := ⟨some 182, _, _, _, _, _⟩) rfl _ _ rfl _ _ rfl (cS s) _ (hR.out.range 0 rfl) Tryz.underlying53 rfl info_RSheet V HV2.out ?_)
            refine (HCR.out _ (hR.out.sx HS.out) (by omega) (heights_get HHT.out) ⟨n4, n5⟩ n8).mono ?_
            rintro e w8 ⟨a8, c8, rfl, hr8, hb⟩
            have hT := Lib.hid (hR.out.call hb)
            clear hb hR hr8
            have HLN := Lib.hid (show ¬ (coursesL s.hs s.height s.least).length ≤ 100 → sheetB s = false from fun h => sheetB_no (.inr (.inr (.inr (.inr (.inr (.inr h)))))))
            generalize (coursesL s.hs s.height s.least).length = N at *
            by_cases hN1 : (N : Int) ≤ 100
            · have HB := Lib.hid (HWZ.out (by omega))
              go_wp2
              go_ret
              exact ⟨ret_bool HB.out.symm, hT.out.be⟩
            · have HB := Lib.hid (HLN.out (by omega))
              have dN : decide ((N : Int) ≤ 100) = false := decide_eq_false hN1
              go_wp2
              go_ret
              exact ⟨ret_bool HB.out.symm, hT.out.be⟩
end
end Go.Proofs.YtchignmnnbepnaaGreat

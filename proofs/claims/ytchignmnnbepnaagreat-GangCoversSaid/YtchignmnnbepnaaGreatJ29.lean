/- the reference's ValidWall -/
import Derived.Test.YtchignmnnbepnaaGreatJ28
import Derived.Test.YtchignmnnbepnaaGreatJ14
namespace Go.Proofs.YtchignmnnbepnaaGreat
open Go.RowKit
theorem fits_no {o : Opn} {len H : Int} (h : inB o.kind 1 4 = false ∨ inB o.at_ 0 len = false ∨ inB o.wide 1 len = false ∨ len < o.at_ + o.wide ∨ inB o.fro 0 H = false ∨ inB o.high 1 H = false ∨ H < o.fro + o.high ∨ (3 ≤ o.kind ∧ ¬ o.fro + o.high = H) ∨ (o.kind = 4 ∧ ¬ o.fro = 0)) : fitsB o len H = false := by
  cases e : fitsB o len H
  · rfl
  · exfalso
    unfold fitsB at e
    simp only [Bool.and_eq_true] at e
    obtain ⟨⟨e1, e2⟩, e3⟩ := e
    have hh := List.all_eq_true.1 e1
    have a0 := lim_iff.1 (hh _ (by simp [openNums] : (o.kind, 1, 4) ∈ openNums o len H))
    have a1 := lim_iff.1 (hh _ (by simp [openNums] : (o.wide, 1, len) ∈ openNums o len H))
    have a2 := lim_iff.1 (hh _ (by simp [openNums] : (o.at_, 0, len - o.wide) ∈ openNums o len H))
    have a3 := lim_iff.1 (hh _ (by simp [openNums] : (o.high, 1, H) ∈ openNums o len H))
    have a4 := lim_iff.1 (hh _ (by simp [openNums] : (o.fro, 0, H - o.high) ∈ openNums o len H))
    dsimp only at a0 a1 a2 a3 a4
    have f : ∀ {x lo hi : Int}, inB x lo hi = false → ¬ (lo ≤ x ∧ x ≤ hi) := fun hx hc => by rw [inB_iff.2 hc] at hx; cases hx
    simp only [Bool.or_eq_true, Bool.not_eq_true', beq_eq_false_iff_ne, beq_iff_eq, Bool.and_eq_true] at e2 e3
    rcases h with h | h | h | h | h | h | h | h | h
    · exact f h a0
    · exact f h (by omega)
    · exact f h a1
    · omega
    · exact f h (by omega)
    · exact f h a3
    · omega
    · rcases e2 with e2 | e2 <;> rcases e3 with e3 | e3 <;> omega
    · rcases e3 with e3 | e3 <;> omega
theorem fits_yes {o : Opn} {len H : Int} (h0 : 1 ≤ len ∧ len ≤ 100000) (h1 : inB o.kind 1 4 = true) (h3 : inB o.at_ 0 len = true) (h4 : inB o.wide 1 len = true) (h5 : ¬ len < o.at_ + o.wide) (h6 : inB o.fro 0 H = true) (h7 : inB o.high 1 H = true) (h8 : ¬ H < o.fro + o.high)
    (h9 : ¬ (3 ≤ o.kind ∧ ¬ o.fro + o.high = H)) (h10 : ¬ (o.kind = 4 ∧ ¬ o.fro = 0)) : fitsB o len H = true := by
  rw [inB_iff] at h1 h3 h4 h6 h7
  unfold fitsB openNums
  simp only [Bool.and_eq_true, List.all_cons, List.all_nil, lim_iff, Bool.or_eq_true, Bool.not_eq_true', beq_eq_false_iff_ne, beq_iff_eq]
  refine ⟨⟨⟨?_, ?_, ?_, ?_, ?_, ?_, trivial⟩, ?_⟩, ?_⟩ <;> omega
section
variable (w : World)
set_option maxHeartbeats 32000000 in
set_option maxRecDepth 100000 in
theorem refValidWall_any (x : Wal) (s : Sht) (hs : Sx 5 w x.oa x.on x.oc (LO x.ops)) (hm : x.name.size ≤ maxLen) (hk : ∀ o ∈ x.ops, 0 ≤ o.kind ∧ o.kind ≤ 255) (hH : 1 ≤ s.height ∧ s.height ≤ 3000) :
    Calls Tryz.prog 36 #[aW x, aS s] w (Gives (.bool (wallB x s)) w) := by
  obtain ⟨nm, sh, len, oa, on, oc, ops⟩ := x
  dsimp only at hs hm hk
  obtain rfl := hs.nO
  have hcap := hs.cap
  unfold maxLen at hcap
  have HS := Lib.hid hs
  have HM := Lib.hid hm
  have HK := Lib.hid hk
  obtain ⟨V, hV⟩ : ∃ V, aS s = V := ⟨_, rfl⟩
  have HV := Lib.hid (show V.cells = (cS s).toArray by rw [← hV]; rfl)
  obtain ⟨U, hU⟩ : ∃ U, aW ⟨nm, sh, len, oa, ops.length, oc, ops⟩ = U := ⟨_, rfl⟩
  have HU := Lib.hid (show U.cells = (cWa ⟨nm, sh, len, oa, ops.length, oc, ops⟩).toArray by rw [← hU]; rfl)
  have HNO := Lib.hid (fun h => wallB_no (x := ⟨nm, sh, len, oa, ops.length, oc, ops⟩) (s := s) h)
  have HNL := Lib.hid (fun y hy h => wallB_no (x := ⟨nm, sh, len, oa, ops.length, oc, ops⟩) (s := s) (.inr (.inl (all_no (x := y) hy h))))
  have HYES := Lib.hid (fun a b c => wallB_yes (x := ⟨nm, sh, len, oa, ops.length, oc, ops⟩) (s := s) a b c)
  rw [hV, hU]
  obtain ⟨hH0, hH1⟩ := hH
  clear hV hU hs hm hk
  generalize wallB ⟨nm, sh, len, oa, ops.length, oc, ops⟩ s = R at *
  go_enter Tryz.func36, Tryz.ntmps36
  go_upto_region 1 with (first | (refine wpList_bx (o := ⟨some 2, _, _, _, _, _⟩) rfl (Sy.enter w) _ _ rfl (cWa ⟨nm, sh, len, oa, ops.length, oc, ops⟩).toArray HU.out ?_; intro bx V1 h1; have hC1 := Lib.hid h1; clear h1) | (refine wpList_bx (o := ⟨some 3, _, _, _, _, _⟩) rfl hC1.out _ _ rfl (cS s).toArray HV.out ?_; intro bs V2 h2; have hC := Lib.hid h2; clear h2 hC1) | fail)
  have x0 : V2.cell? ⟨bx, 0, none⟩ = some (.string nm) := hC.out.cell 0 0 rfl rfl
  have x2 : V2.cell? ⟨bx, 2, none⟩ = some (.int .i64 len) := hC.out.cell 0 2 rfl rfl
  have x3 : V2.cell? ⟨bx, 3, none⟩ = some (.slice oa ops.length oc) := hC.out.cell 0 3 rfl rfl
  go_wp2_with fail
  refine (refNamed_any _ _ HM.out).mono ?_
  rintro e V3 ⟨rfl, rfl⟩
  cases hna : namedB nm
  · have HB := Lib.hid (HNO.out (.inl hna))
    clear hna
    as_aux_lemma =>
      go_wp2
      go_ret
      exact ⟨ret_bool HB.out.symm, hC.out.be⟩
  have HNA := Lib.hid hna
  clear hna
  go_wp2_with fail
  refine (in6_any _ _ _ _).mono ?_
  rintro e V4 ⟨rfl, rfl⟩
  cases hl : inB len 1 100000
  · have HB := Lib.hid (HNL.out (len, 1, 100000) (by simp) hl)
    clear hl
    as_aux_lemma =>
      go_wp2
      go_ret
      exact ⟨ret_bool HB.out.symm, hC.out.be⟩
  have HLE := Lib.hid hl
  obtain ⟨hl1, hl2⟩ := inB_iff.1 hl
  clear hl
  by_cases h20 : (ops.length : Int) > 20
  · have HB := Lib.hid (HNL.out ((ops.length : Int), 0, 20) (by simp) (by
      cases e : limB ((ops.length : Int), 0, 20)
      · rfl
      · have := lim_iff.1 e
        dsimp only at this
        omega))
    as_aux_lemma =>
      go_wp2
      go_ret
      exact ⟨ret_bool HB.out.symm, hC.out.be⟩
  have d20 : decide ((ops.length : Int) > 20) = false := decide_eq_false h20
  have HY := Lib.hid (fun c => HYES.out HNA.out (by
    refine List.all_eq_true.2 fun y hy => ?_
    simp only [List.mem_cons, List.not_mem_nil, or_false] at hy
    rcases hy with rfl | rfl
    · exact HLE.out
    · exact lim_iff.2 (by dsimp only; omega)) c)
  clear HYES HNL
  go_wp2
  go_loopw [5] (fun iv wr => ∃ k : Nat, k ≤ ops.length ∧ iv = .int .i64 k ∧ Hid (∀ i (hi : i < ops.length), i < k → fitsB ops[i] len s.height = true ∧ (ops.take i).any (meetsO ops[i]) = false) ∧ Hid (Sy w wr [(bx, (cWa ⟨nm, sh, len, oa, ops.length, oc, ops⟩).toArray, 51), (bs, (cS s).toArray, 53)] [] [])) (fun iv _ => ops.length - (intOf iv).toNat)
  case atStart => exact ⟨0, Nat.zero_le _, rfl, Lib.hid (fun i _ h => absurd h (Nat.not_lt_zero i)), hC⟩
  case round =>
    clear hC x0 x2 x3
    obtain ⟨k, hk, rfl, HI, hC⟩ := hrel
    have x3 : wr.cell? ⟨bx, 3, none⟩ = some (.slice oa ops.length oc) := hC.out.cell 0 3 rfl rfl
    by_cases hlt : k < ops.length
    · obtain ⟨g0, o0, rfl⟩ := HS.out.addr (by omega)
      have HN := Lib.hid (fun h => HNO.out (.inr (.inr (opens_no hlt h))))
      have HYN := Lib.hid (show fitsB ops[k] len s.height = true → (ops.take k).any (meetsO ops[k]) = false → ∀ i (hi : i < ops.length), i < k + 1 → fitsB ops[i] len s.height = true ∧ (ops.take i).any (meetsO ops[i]) = false from fun h1 h2 i hi hik => by
        rcases Nat.lt_or_ge i k with h | h
        · exact HI.out i hi h
        · have : i = k := by omega
          subst this; exact ⟨h1, h2⟩)
      have HSM := Lib.hid (show ∀ j (hj : j < ops.length), j < k → smallO ops[j] from fun j hj hjk => fits_small (HI.out j hj hjk).1 hl2 (by omega))
      have HKK := HK.out ops[k] (List.getElem_mem hlt)
      obtain ⟨y0, y1, y2, y3, y4⟩ := (HS.out.below hC.out.be).atO hlt
      clear HI HNO
      obtain ⟨o, ho⟩ : ∃ o, ops[k] = o := ⟨_, rfl⟩
      rw [ho] at HN HYN HKK y0 y1 y2 y3 y4
      clear ho
      obtain ⟨k0, k1⟩ := HKK
      have HF := Lib.hid (fun h => HN.out (.inl (fits_no (o := o) (len := len) (H := s.height) h)))
      have HFY := Lib.hid (fun a b c d e f g h i => fits_yes (o := o) (len := len) (H := s.height) ⟨hl1, hl2⟩ a b c d e f g h i)
      have HMT := Lib.hid (show ∀ j (hj : j < ops.length), j < k → meetsO o ops[j] = true → R = false from fun j hj hjk h => HN.out (.inr (List.any_eq_true.2 ⟨ops[j], List.mem_take_iff_getElem.2 ⟨j, by omega, rfl⟩, h⟩)))
      have HMN := Lib.hid (show (∀ j (hj : j < ops.length), j < k → meetsO o ops[j] = false) → (ops.take k).any (meetsO o) = false from fun h => List.any_eq_false.2 fun q hq => by
        obtain ⟨j, hj, rfl⟩ := List.mem_take_iff_getElem.1 hq
        rw [h j (by omega) (by omega)]; simp)
      have i0 : (0 : Int) ≤ (k : Int) := by omega
      have i1 : (k : Int) < (ops.length : Int) := by omega
      clear HN
      go_upto_region 7 with fail
      have hD6 := Lib.hid (hC.out.al wr.heap.size #[.int .u8 o.kind, .int .i64 o.at_, .int .i64 o.wide, .int .i64 o.fro, .int .i64 o.high] 63 rfl)
      obtain ⟨bo, hbo⟩ : ∃ bo, wr.heap.size = bo := ⟨_, rfl⟩
      rw [hbo] at hD6 ⊢
      refine wp_geny hD6.out ?_
      intro W6 hc
      have hD : Hid (Sy w W6 [(bx, (cWa ⟨nm, sh, len, some ⟨g0, o0, none⟩, ops.length, oc, ops⟩).toArray, 51), (bs, (cS s).toArray, 53), (bo, #[.int .u8 o.kind, .int .i64 o.at_, .int .i64 o.wide, .int .i64 o.fro, .int .i64 o.high], 63)] [] []) := Lib.hid hc
      clear hc hD6 hbo hC x3 y0 y1 y2 y3 y4
      have x0 : W6.cell? ⟨bo, 0, none⟩ = some (.int .u8 o.kind) := hD.out.cell 2 0 rfl rfl
      have x1 : W6.cell? ⟨bo, 1, none⟩ = some (.int .i64 o.at_) := hD.out.cell 2 1 rfl rfl
      have x2 : W6.cell? ⟨bo, 2, none⟩ = some (.int .i64 o.wide) := hD.out.cell 2 2 rfl rfl
      have x3 : W6.cell? ⟨bo, 3, none⟩ = some (.int .i64 o.fro) := hD.out.cell 2 3 rfl rfl
      have x4 : W6.cell? ⟨bo, 4, none⟩ = some (.int .i64 o.high) := hD.out.cell 2 4 rfl rfl
      have u2 : W6.cell? ⟨bx, 2, none⟩ = some (.int .i64 len) := hD.out.cell 0 2 rfl rfl
      have u3 : W6.cell? ⟨bx, 3, none⟩ = some (.slice (some ⟨g0, o0, none⟩) ops.length oc) := hD.out.cell 0 3 rfl rfl
      have z3 : W6.cell? ⟨bs, 3, none⟩ = some (.int .i64 s.height) := hD.out.cell 1 3 rfl rfl
      go_wp2_with fail
      refine (in6_any _ _ _ _).mono ?_
      rintro e V11 ⟨rfl, rfl⟩
      cases hk : inB o.kind 1 4
      · have HB := Lib.hid (HF.out (.inl hk))
        as_aux_lemma =>
          go_wp2
          go_ret
          exact ⟨ret_bool HB.out.symm, hD.out.be⟩
      have F0 := Lib.hid hk
      clear hk
      go_wp2_with fail
      refine (in6_any _ _ _ _).mono ?_
      rintro e V12 ⟨rfl, rfl⟩
      cases hk : inB o.at_ 0 len
      · have HB := Lib.hid (HF.out (.inr (.inl hk)))
        as_aux_lemma =>
          go_wp2
          go_ret
          exact ⟨ret_bool HB.out.symm, hD.out.be⟩
      have F1 := Lib.hid hk
      clear hk
      go_wp2_with fail
      refine (in6_any _ _ _ _).mono ?_
      rintro e V13 ⟨rfl, rfl⟩
      cases hk : inB o.wide 1 len
      · have HB := Lib.hid (HF.out (.inr (.inr (.inl hk))))
        as_aux_lemma =>
          go_wp2
          go_ret
          exact ⟨ret_bool HB.out.symm, hD.out.be⟩
      have F2 := Lib.hid hk
      clear hk
      obtain ⟨q0, q1⟩ := inB_iff.1 F1.out
      obtain ⟨q2, q3⟩ := inB_iff.1 F2.out
      by_cases hk : o.at_ + o.wide > len
      · have HB := Lib.hid (HF.out (.inr (.inr (.inr (.inl hk)))))
        as_aux_lemma =>
          go_wp2
          go_ret
          exact ⟨ret_bool HB.out.symm, hD.out.be⟩
      have F3 := Lib.hid (show ¬ len < o.at_ + o.wide from hk)
      have dF3 : decide (o.at_ + o.wide > len) = false := decide_eq_false hk
      clear hk
      go_wp2_with fail
      refine (in6_any _ _ _ _).mono ?_
      rintro e V14 ⟨rfl, rfl⟩
      cases hk : inB o.fro 0 s.height
      · have HB := Lib.hid (HF.out (.inr (.inr (.inr (.inr (.inl hk))))))
        as_aux_lemma =>
          go_wp2
          go_ret
          exact ⟨ret_bool HB.out.symm, hD.out.be⟩
      have F4 := Lib.hid hk
      clear hk
      go_wp2_with fail
      refine (in6_any _ _ _ _).mono ?_
      rintro e V15 ⟨rfl, rfl⟩
      cases hk : inB o.high 1 s.height
      · have HB := Lib.hid (HF.out (.inr (.inr (.inr (.inr (.inr (.inl hk)))))))
        as_aux_lemma =>
          go_wp2
          go_ret
          exact ⟨ret_bool HB.out.symm, hD.out.be⟩
      have F5 := Lib.hid hk
      clear hk
      obtain ⟨q4, q5⟩ := inB_iff.1 F4.out
      obtain ⟨q6, q7⟩ := inB_iff.1 F5.out
      by_cases hk : o.fro + o.high > s.height
      · have HB := Lib.hid (HF.out (.inr (.inr (.inr (.inr (.inr (.inr (.inl hk))))))))
        as_aux_lemma =>
          go_wp2
          go_ret
          exact ⟨ret_bool HB.out.symm, hD.out.be⟩
      have F6 := Lib.hid (show ¬ s.height < o.fro + o.high from hk)
      have dF6 : decide (o.fro + o.high > s.height) = false := decide_eq_false hk
      clear hk
      by_cases k3 : 3 ≤ o.kind
      rotate_left
      · have dk : decide (o.kind ≥ 3) = false := decide_eq_false k3
        have b4 : (o.kind == 4) = false := beq_eq_false_iff_ne.2 (by omega)
        have K3 := Lib.hid k3
        clear k3
        have HFT := Lib.hid (HFY.out F0.out F1.out F2.out (by have := F3.out; omega) F4.out F5.out (by have := F6.out; omega) (fun h => K3.out h.1) (fun h => K3.out (by omega)))
        have HMX := Lib.hid (fun h => HYN.out HFT.out (HMN.out h))
        clear HYN HMN HFY HF
        as_aux_lemma =>
          go_wp2
          go_loopw [7] (fun mv wr => ∃ m : Nat, m ≤ k ∧ mv = .int .i64 m ∧ Hid (∀ j (hj : j < ops.length), j < m → meetsO o ops[j] = false) ∧ Hid (Sy w wr [(bx, (cWa ⟨nm, sh, len, some ⟨g0, o0, none⟩, ops.length, oc, ops⟩).toArray, 51), (bs, (cS s).toArray, 53), (bo, #[.int .u8 o.kind, .int .i64 o.at_, .int .i64 o.wide, .int .i64 o.fro, .int .i64 o.high], 63)] [] [])) (fun mv _ => k - (intOf mv).toNat)
          case atStart => exact ⟨0, Nat.zero_le _, rfl, Lib.hid (fun j _ h => absurd h (Nat.not_lt_zero j)), hD⟩
          case round =>
            clear hD x0 x1 x2 x3 x4 u2 u3 z3
            obtain ⟨m, hm, rfl, HJ, hD⟩ := hrel
            have x0 : wr.cell? ⟨bo, 0, none⟩ = some (.int .u8 o.kind) := hD.out.cell 2 0 rfl rfl
            have x1 : wr.cell? ⟨bo, 1, none⟩ = some (.int .i64 o.at_) := hD.out.cell 2 1 rfl rfl
            have x2 : wr.cell? ⟨bo, 2, none⟩ = some (.int .i64 o.wide) := hD.out.cell 2 2 rfl rfl
            have x3 : wr.cell? ⟨bo, 3, none⟩ = some (.int .i64 o.fro) := hD.out.cell 2 3 rfl rfl
            have x4 : wr.cell? ⟨bo, 4, none⟩ = some (.int .i64 o.high) := hD.out.cell 2 4 rfl rfl
            have u2 : wr.cell? ⟨bx, 2, none⟩ = some (.int .i64 len) := hD.out.cell 0 2 rfl rfl
            have u3 : wr.cell? ⟨bx, 3, none⟩ = some (.slice (some ⟨g0, o0, none⟩) ops.length oc) := hD.out.cell 0 3 rfl rfl
            have z3 : wr.cell? ⟨bs, 3, none⟩ = some (.int .i64 s.height) := hD.out.cell 1 3 rfl rfl
            by_cases hmk : m < k
            · have hmo : m < ops.length := by omega
              obtain ⟨y0, y1, y2, y3, y4⟩ := (HS.out.below hD.out.be).atO hmo
              obtain ⟨⟨s0, s1⟩, ⟨s2, s3⟩, ⟨s4, s5⟩, s6, s7⟩ := HSM.out m hmo hmk
              have HT := Lib.hid (HMT.out m hmo hmk)
              have HJN := Lib.hid (show meetsO o ops[m] = false → ∀ j (hj : j < ops.length), j < m + 1 → meetsO o ops[j] = false from fun hx j hj hjm => by
                rcases Nat.lt_or_ge j m with h | h
                · exact HJ.out j hj h
                · have : j = m := by omega
                  subst this; exact hx)
              have HDE := Lib.hid (show meetsO o ops[m] = (decide (o.at_ < ops[m].at_ + ops[m].wide) && decide (ops[m].at_ < o.at_ + o.wide) && decide (o.fro < ops[m].fro + ops[m].high) && decide (ops[m].fro < o.fro + o.high)) from rfl)
              have j0 : (0 : Int) ≤ (m : Int) := by omega
              have j1 : (m : Int) < (ops.length : Int) := by omega
              have j2 : (m : Int) < (k : Int) := by omega
              clear HJ
              generalize meetsO o ops[m] = mo at *
              generalize ops[m] = q at *
              go_upto_region 15 with fail
              have hE6 := Lib.hid (hD.out.al wr.heap.size #[.int .u8 q.kind, .int .i64 q.at_, .int .i64 q.wide, .int .i64 q.fro, .int .i64 q.high] 63 rfl)
              obtain ⟨bq, hbq⟩ : ∃ bq, wr.heap.size = bq := ⟨_, rfl⟩
              rw [hbq] at hE6 ⊢
              refine wp_geny hE6.out ?_
              intro W8 hc
              have hE := Lib.hid hc
              clear hc hE6 hbq hD y0 y1 y2 y3 y4 u2 u3 z3 x0 x1 x2 x3 x4
              have x1 : W8.cell? ⟨bo, 1, none⟩ = some (.int .i64 o.at_) := hE.out.cell 2 1 rfl rfl
              have y1 : W8.cell? ⟨bq, 1, none⟩ = some (.int .i64 q.at_) := hE.out.cell 3 1 rfl rfl
              have x2 : W8.cell? ⟨bo, 2, none⟩ = some (.int .i64 o.wide) := hE.out.cell 2 2 rfl rfl
              have y2 : W8.cell? ⟨bq, 2, none⟩ = some (.int .i64 q.wide) := hE.out.cell 3 2 rfl rfl
              have x3 : W8.cell? ⟨bo, 3, none⟩ = some (.int .i64 o.fro) := hE.out.cell 2 3 rfl rfl
              have y3 : W8.cell? ⟨bq, 3, none⟩ = some (.int .i64 q.fro) := hE.out.cell 3 3 rfl rfl
              have x4 : W8.cell? ⟨bo, 4, none⟩ = some (.int .i64 o.high) := hE.out.cell 2 4 rfl rfl
              have y4 : W8.cell? ⟨bq, 4, none⟩ = some (.int .i64 q.high) := hE.out.cell 3 4 rfl rfl
              by_cases a0 : o.at_ + o.wide ≤ q.at_
              · have HG := Lib.hid (show mo = false from by rw [HDE.out]; rw [decide_eq_false (show ¬ q.at_ < o.at_ + o.wide from by omega)]; simp)
                go_wp2
                go_roundw
                case rel => exact ⟨m + 1, by omega, by go_num, Lib.hid (HJN.out HG.out), Lib.hid (hE.out.thin (List.Sublist.cons_cons _ (List.Sublist.cons_cons _ (List.Sublist.cons_cons _ (List.nil_sublist _)))) (List.Sublist.refl _))⟩
                case measure => simp [intOf]; omega
              have D0 := Lib.hid (show decide (q.at_ < o.at_ + o.wide) = true from decide_eq_true (by omega))
              have e0 : decide (o.at_ + o.wide ≤ q.at_) = false := decide_eq_false a0
              by_cases a1 : q.at_ + q.wide ≤ o.at_
              · have HG := Lib.hid (show mo = false from by rw [HDE.out]; rw [decide_eq_false (show ¬ o.at_ < q.at_ + q.wide from by omega)]; simp)
                go_wp2
                go_roundw
                case rel => exact ⟨m + 1, by omega, by go_num, Lib.hid (HJN.out HG.out), Lib.hid (hE.out.thin (List.Sublist.cons_cons _ (List.Sublist.cons_cons _ (List.Sublist.cons_cons _ (List.nil_sublist _)))) (List.Sublist.refl _))⟩
                case measure => simp [intOf]; omega
              have D1 := Lib.hid (show decide (o.at_ < q.at_ + q.wide) = true from decide_eq_true (by omega))
              have e1 : decide (q.at_ + q.wide ≤ o.at_) = false := decide_eq_false a1
              by_cases a2 : o.fro + o.high ≤ q.fro
              · have HG := Lib.hid (show mo = false from by rw [HDE.out]; rw [decide_eq_false (show ¬ q.fro < o.fro + o.high from by omega)]; simp)
                go_wp2
                go_roundw
                case rel => exact ⟨m + 1, by omega, by go_num, Lib.hid (HJN.out HG.out), Lib.hid (hE.out.thin (List.Sublist.cons_cons _ (List.Sublist.cons_cons _ (List.Sublist.cons_cons _ (List.nil_sublist _)))) (List.Sublist.refl _))⟩
                case measure => simp [intOf]; omega
              have D2 := Lib.hid (show decide (q.fro < o.fro + o.high) = true from decide_eq_true (by omega))
              have e2 : decide (o.fro + o.high ≤ q.fro) = false := decide_eq_false a2
              by_cases a3 : q.fro + q.high ≤ o.fro
              · have HG := Lib.hid (show mo = false from by rw [HDE.out]; rw [decide_eq_false (show ¬ o.fro < q.fro + q.high from by omega)]; simp)
                go_wp2
                go_roundw
                case rel => exact ⟨m + 1, by omega, by go_num, Lib.hid (HJN.out HG.out), Lib.hid (hE.out.thin (List.Sublist.cons_cons _ (List.Sublist.cons_cons _ (List.Sublist.cons_cons _ (List.nil_sublist _)))) (List.Sublist.refl _))⟩
                case measure => simp [intOf]; omega
              have D3 := Lib.hid (show decide (o.fro < q.fro + q.high) = true from decide_eq_true (by omega))
              have e3 : decide (q.fro + q.high ≤ o.fro) = false := decide_eq_false a3
              have HB := Lib.hid (HT.out (by rw [HDE.out, D1.out, D0.out, D3.out, D2.out]; rfl))
              go_wp2
              go_ret
              exact ⟨ret_bool HB.out.symm, hE.out.be⟩
            · have hmm : ¬ (m : Int) < (k : Int) := by omega
              have HB := Lib.hid (HMX.out (fun j hj h => HJ.out j hj (by omega)))
              go_wp2
              go_roundw
              case rel => exact ⟨k + 1, by omega, by go_num, HB, Lib.hid (hD.out.thin (List.Sublist.cons_cons _ (List.Sublist.cons_cons _ (List.nil_sublist _))) (List.Sublist.refl _))⟩
              case measure => simp [intOf]; omega
      have dk : decide (o.kind ≥ 3) = true := decide_eq_true k3
      cases ct : (o.fro + o.high != s.height)
      rotate_left
      · have HB := Lib.hid (HF.out (.inr (.inr (.inr (.inr (.inr (.inr (.inr (.inl ⟨k3, by simpa using ct⟩)))))))))
        as_aux_lemma =>
          go_wp2
          go_ret
          exact ⟨ret_bool HB.out.symm, hD.out.be⟩
      have CT := Lib.hid (show o.fro + o.high = s.height by simpa using ct)
      cases b4 : (o.kind == 4)
      · have K4 := Lib.hid (show ¬ o.kind = 4 from beq_eq_false_iff_ne.1 b4)
        have HFT := Lib.hid (HFY.out F0.out F1.out F2.out (by have := F3.out; omega) F4.out F5.out (by have := F6.out; omega) (fun h => h.2 CT.out) (fun h => K4.out h.1))
        have HMX := Lib.hid (fun h => HYN.out HFT.out (HMN.out h))
        clear HYN HMN HFY HF
        as_aux_lemma =>
          go_wp2
          go_loopw [7] (fun mv wr => ∃ m : Nat, m ≤ k ∧ mv = .int .i64 m ∧ Hid (∀ j (hj : j < ops.length), j < m → meetsO o ops[j] = false) ∧ Hid (Sy w wr [(bx, (cWa ⟨nm, sh, len, some ⟨g0, o0, none⟩, ops.length, oc, ops⟩).toArray, 51), (bs, (cS s).toArray, 53), (bo, #[.int .u8 o.kind, .int .i64 o.at_, .int .i64 o.wide, .int .i64 o.fro, .int .i64 o.high], 63)] [] [])) (fun mv _ => k - (intOf mv).toNat)
          case atStart => exact ⟨0, Nat.zero_le _, rfl, Lib.hid (fun j _ h => absurd h (Nat.not_lt_zero j)), hD⟩
          case round =>
            clear hD x0 x1 x2 x3 x4 u2 u3 z3
            obtain ⟨m, hm, rfl, HJ, hD⟩ := hrel
            have x0 : wr.cell? ⟨bo, 0, none⟩ = some (.int .u8 o.kind) := hD.out.cell 2 0 rfl rfl
            have x1 : wr.cell? ⟨bo, 1, none⟩ = some (.int .i64 o.at_) := hD.out.cell 2 1 rfl rfl
            have x2 : wr.cell? ⟨bo, 2, none⟩ = some (.int .i64 o.wide) := hD.out.cell 2 2 rfl rfl
            have x3 : wr.cell? ⟨bo, 3, none⟩ = some (.int .i64 o.fro) := hD.out.cell 2 3 rfl rfl
            have x4 : wr.cell? ⟨bo, 4, none⟩ = some (.int .i64 o.high) := hD.out.cell 2 4 rfl rfl
            have u2 : wr.cell? ⟨bx, 2, none⟩ = some (.int .i64 len) := hD.out.cell 0 2 rfl rfl
            have u3 : wr.cell? ⟨bx, 3, none⟩ = some (.slice (some ⟨g0, o0, none⟩) ops.length oc) := hD.out.cell 0 3 rfl rfl
            have z3 : wr.cell? ⟨bs, 3, none⟩ = some (.int .i64 s.height) := hD.out.cell 1 3 rfl rfl
            by_cases hmk : m < k
            · have hmo : m < ops.length := by omega
              obtain ⟨y0, y1, y2, y3, y4⟩ := (HS.out.below hD.out.be).atO hmo
              obtain ⟨⟨s0, s1⟩, ⟨s2, s3⟩, ⟨s4, s5⟩, s6, s7⟩ := HSM.out m hmo hmk
              have HT := Lib.hid (HMT.out m hmo hmk)
              have HJN := Lib.hid (show meetsO o ops[m] = false → ∀ j (hj : j < ops.length), j < m + 1 → meetsO o ops[j] = false from fun hx j hj hjm => by
                rcases Nat.lt_or_ge j m with h | h
                · exact HJ.out j hj h
                · have : j = m := by omega
                  subst this; exact hx)
              have HDE := Lib.hid (show meetsO o ops[m] = (decide (o.at_ < ops[m].at_ + ops[m].wide) && decide (ops[m].at_ < o.at_ + o.wide) && decide (o.fro < ops[m].fro + ops[m].high) && decide (ops[m].fro < o.fro + o.high)) from rfl)
              have j0 : (0 : Int) ≤ (m : Int) := by omega
              have j1 : (m : Int) < (ops.length : Int) := by omega
              have j2 : (m : Int) < (k : Int) := by omega
              clear HJ
              generalize meetsO o ops[m] = mo at *
              generalize ops[m] = q at *
              go_upto_region 15 with fail
              have hE6 := Lib.hid (hD.out.al wr.heap.size #[.int .u8 q.kind, .int .i64 q.at_, .int .i64 q.wide, .int .i64 q.fro, .int .i64 q.high] 63 rfl)
              obtain ⟨bq, hbq⟩ : ∃ bq, wr.heap.size = bq := ⟨_, rfl⟩
              rw [hbq] at hE6 ⊢
              refine wp_geny hE6.out ?_
              intro W8 hc
              have hE := Lib.hid hc
              clear hc hE6 hbq hD y0 y1 y2 y3 y4 u2 u3 z3 x0 x1 x2 x3 x4
              have x1 : W8.cell? ⟨bo, 1, none⟩ = some (.int .i64 o.at_) := hE.out.cell 2 1 rfl rfl
              have y1 : W8.cell? ⟨bq, 1, none⟩ = some (.int .i64 q.at_) := hE.out.cell 3 1 rfl rfl
              have x2 : W8.cell? ⟨bo, 2, none⟩ = some (.int .i64 o.wide) := hE.out.cell 2 2 rfl rfl
              have y2 : W8.cell? ⟨bq, 2, none⟩ = some (.int .i64 q.wide) := hE.out.cell 3 2 rfl rfl
              have x3 : W8.cell? ⟨bo, 3, none⟩ = some (.int .i64 o.fro) := hE.out.cell 2 3 rfl rfl
              have y3 : W8.cell? ⟨bq, 3, none⟩ = some (.int .i64 q.fro) := hE.out.cell 3 3 rfl rfl
              have x4 : W8.cell? ⟨bo, 4, none⟩ = some (.int .i64 o.high) := hE.out.cell 2 4 rfl rfl
              have y4 : W8.cell? ⟨bq, 4, none⟩ = some (.int .i64 q.high) := hE.out.cell 3 4 rfl rfl
              by_cases a0 : o.at_ + o.wide ≤ q.at_
              · have HG := Lib.hid (show mo = false from by rw [HDE.out]; rw [decide_eq_false (show ¬ q.at_ < o.at_ + o.wide from by omega)]; simp)
                go_wp2
                go_roundw
                case rel => exact ⟨m + 1, by omega, by go_num, Lib.hid (HJN.out HG.out), Lib.hid (hE.out.thin (List.Sublist.cons_cons _ (List.Sublist.cons_cons _ (List.Sublist.cons_cons _ (List.nil_sublist _)))) (List.Sublist.refl _))⟩
                case measure => simp [intOf]; omega
              have D0 := Lib.hid (show decide (q.at_ < o.at_ + o.wide) = true from decide_eq_true (by omega))
              have e0 : decide (o.at_ + o.wide ≤ q.at_) = false := decide_eq_false a0
              by_cases a1 : q.at_ + q.wide ≤ o.at_
              · have HG := Lib.hid (show mo = false from by rw [HDE.out]; rw [decide_eq_false (show ¬ o.at_ < q.at_ + q.wide from by omega)]; simp)
                go_wp2
                go_roundw
                case rel => exact ⟨m + 1, by omega, by go_num, Lib.hid (HJN.out HG.out), Lib.hid (hE.out.thin (List.Sublist.cons_cons _ (List.Sublist.cons_cons _ (List.Sublist.cons_cons _ (List.nil_sublist _)))) (List.Sublist.refl _))⟩
                case measure => simp [intOf]; omega
              have D1 := Lib.hid (show decide (o.at_ < q.at_ + q.wide) = true from decide_eq_true (by omega))
              have e1 : decide (q.at_ + q.wide ≤ o.at_) = false := decide_eq_false a1
              by_cases a2 : o.fro + o.high ≤ q.fro
              · have HG := Lib.hid (show mo = false from by rw [HDE.out]; rw [decide_eq_false (show ¬ q.fro < o.fro + o.high from by omega)]; simp)
                go_wp2
                go_roundw
                case rel => exact ⟨m + 1, by omega, by go_num, Lib.hid (HJN.out HG.out), Lib.hid (hE.out.thin (List.Sublist.cons_cons _ (List.Sublist.cons_cons _ (List.Sublist.cons_cons _ (List.nil_sublist _)))) (List.Sublist.refl _))⟩
                case measure => simp [intOf]; omega
              have D2 := Lib.hid (show decide (q.fro < o.fro + o.high) = true from decide_eq_true (by omega))
              have e2 : decide (o.fro + o.high ≤ q.fro) = false := decide_eq_false a2
              by_cases a3 : q.fro + q.high ≤ o.fro
              · have HG := Lib.hid (show mo = false from by rw [HDE.out]; rw [decide_eq_false (show ¬ o.fro < q.fro + q.high from by omega)]; simp)
                go_wp2
                go_roundw
                case rel => exact ⟨m + 1, by omega, by go_num, Lib.hid (HJN.out HG.out), Lib.hid (hE.out.thin (List.Sublist.cons_cons _ (List.Sublist.cons_cons _ (List.Sublist.cons_cons _ (List.nil_sublist _)))) (List.Sublist.refl _))⟩
                case measure => simp [intOf]; omega
              have D3 := Lib.hid (show decide (o.fro < q.fro + q.high) = true from decide_eq_true (by omega))
              have e3 : decide (q.fro + q.high ≤ o.fro) = false := decide_eq_false a3
              have HB := Lib.hid (HT.out (by rw [HDE.out, D1.out, D0.out, D3.out, D2.out]; rfl))
              go_wp2
              go_ret
              exact ⟨ret_bool HB.out.symm, hE.out.be⟩
            · have hmm : ¬ (m : Int) < (k : Int) := by omega
              have HB := Lib.hid (HMX.out (fun j hj h => HJ.out j hj (by omega)))
              go_wp2
              go_roundw
              case rel => exact ⟨k + 1, by omega, by go_num, HB, Lib.hid (hD.out.thin (List.Sublist.cons_cons _ (List.Sublist.cons_cons _ (List.nil_sublist _))) (List.Sublist.refl _))⟩
              case measure => simp [intOf]; omega
      · cases cf : (o.fro != 0)
        rotate_left
        · have HB := Lib.hid (HF.out (.inr (.inr (.inr (.inr (.inr (.inr (.inr (.inr (⟨beq_iff_eq.1 b4, by simpa using cf⟩))))))))))
          as_aux_lemma =>
            go_wp2
            go_ret
            exact ⟨ret_bool HB.out.symm, hD.out.be⟩
        have CF := Lib.hid (show o.fro = 0 by simpa using cf)
        have HFT := Lib.hid (HFY.out F0.out F1.out F2.out (by have := F3.out; omega) F4.out F5.out (by have := F6.out; omega) (fun h => h.2 CT.out) (fun h => h.2 CF.out))
        have HMX := Lib.hid (fun h => HYN.out HFT.out (HMN.out h))
        clear HYN HMN HFY HF
        as_aux_lemma =>
          go_wp2
          go_loopw [7] (fun mv wr => ∃ m : Nat, m ≤ k ∧ mv = .int .i64 m ∧ Hid (∀ j (hj : j < ops.length), j < m → meetsO o ops[j] = false) ∧ Hid (Sy w wr [(bx, (cWa ⟨nm, sh, len, some ⟨g0, o0, none⟩, ops.length, oc, ops⟩).toArray, 51), (bs, (cS s).toArray, 53), (bo, #[.int .u8 o.kind, .int .i64 o.at_, .int .i64 o.wide, .int .i64 o.fro, .int .i64 o.high], 63)] [] [])) (fun mv _ => k - (intOf mv).toNat)
          case atStart => exact ⟨0, Nat.zero_le _, rfl, Lib.hid (fun j _ h => absurd h (Nat.not_lt_zero j)), hD⟩
          case round =>
            clear hD x0 x1 x2 x3 x4 u2 u3 z3
            obtain ⟨m, hm, rfl, HJ, hD⟩ := hrel
            have x0 : wr.cell? ⟨bo, 0, none⟩ = some (.int .u8 o.kind) := hD.out.cell 2 0 rfl rfl
            have x1 : wr.cell? ⟨bo, 1, none⟩ = some (.int .i64 o.at_) := hD.out.cell 2 1 rfl rfl
            have x2 : wr.cell? ⟨bo, 2, none⟩ = some (.int .i64 o.wide) := hD.out.cell 2 2 rfl rfl
            have x3 : wr.cell? ⟨bo, 3, none⟩ = some (.int .i64 o.fro) := hD.out.cell 2 3 rfl rfl
            have x4 : wr.cell? ⟨bo, 4, none⟩ = some (.int .i64 o.high) := hD.out.cell 2 4 rfl rfl
            have u2 : wr.cell? ⟨bx, 2, none⟩ = some (.int .i64 len) := hD.out.cell 0 2 rfl rfl
            have u3 : wr.cell? ⟨bx, 3, none⟩ = some (.slice (some ⟨g0, o0, none⟩) ops.length oc) := hD.out.cell 0 3 rfl rfl
            have z3 : wr.cell? ⟨bs, 3, none⟩ = some (.int .i64 s.height) := hD.out.cell 1 3 rfl rfl
            by_cases hmk : m < k
            · have hmo : m < ops.length := by omega
              obtain ⟨y0, y1, y2, y3, y4⟩ := (HS.out.below hD.out.be).atO hmo
              obtain ⟨⟨s0, s1⟩, ⟨s2, s3⟩, ⟨s4, s5⟩, s6, s7⟩ := HSM.out m hmo hmk
              have HT := Lib.hid (HMT.out m hmo hmk)
              have HJN := Lib.hid (show meetsO o ops[m] = false → ∀ j (hj : j < ops.length), j < m + 1 → meetsO o ops[j] = false from fun hx j hj hjm => by
                rcases Nat.lt_or_ge j m with h | h
                · exact HJ.out j hj h
                · have : j = m := by omega
                  subst this; exact hx)
              have HDE := Lib.hid (show meetsO o ops[m] = (decide (o.at_ < ops[m].at_ + ops[m].wide) && decide (ops[m].at_ < o.at_ + o.wide) && decide (o.fro < ops[m].fro + ops[m].high) && decide (ops[m].fro < o.fro + o.high)) from rfl)
              have j0 : (0 : Int) ≤ (m : Int) := by omega
              have j1 : (m : Int) < (ops.length : Int) := by omega
              have j2 : (m : Int) < (k : Int) := by omega
              clear HJ
              generalize meetsO o ops[m] = mo at *
              generalize ops[m] = q at *
              go_upto_region 15 with fail
              have hE6 := Lib.hid (hD.out.al wr.heap.size #[.int .u8 q.kind, .int .i64 q.at_, .int .i64 q.wide, .int .i64 q.fro, .int .i64 q.high] 63 rfl)
              obtain ⟨bq, hbq⟩ : ∃ bq, wr.heap.size = bq := ⟨_, rfl⟩
              rw [hbq] at hE6 ⊢
              refine wp_geny hE6.out ?_
              intro W8 hc
              have hE := Lib.hid hc
              clear hc hE6 hbq hD y0 y1 y2 y3 y4 u2 u3 z3 x0 x1 x2 x3 x4
              have x1 : W8.cell? ⟨bo, 1, none⟩ = some (.int .i64 o.at_) := hE.out.cell 2 1 rfl rfl
              have y1 : W8.cell? ⟨bq, 1, none⟩ = some (.int .i64 q.at_) := hE.out.cell 3 1 rfl rfl
              have x2 : W8.cell? ⟨bo, 2, none⟩ = some (.int .i64 o.wide) := hE.out.cell 2 2 rfl rfl
              have y2 : W8.cell? ⟨bq, 2, none⟩ = some (.int .i64 q.wide) := hE.out.cell 3 2 rfl rfl
              have x3 : W8.cell? ⟨bo, 3, none⟩ = some (.int .i64 o.fro) := hE.out.cell 2 3 rfl rfl
              have y3 : W8.cell? ⟨bq, 3, none⟩ = some (.int .i64 q.fro) := hE.out.cell 3 3 rfl rfl
              have x4 : W8.cell? ⟨bo, 4, none⟩ = some (.int .i64 o.high) := hE.out.cell 2 4 rfl rfl
              have y4 : W8.cell? ⟨bq, 4, none⟩ = some (.int .i64 q.high) := hE.out.cell 3 4 rfl rfl
              by_cases a0 : o.at_ + o.wide ≤ q.at_
              · have HG := Lib.hid (show mo = false from by rw [HDE.out]; rw [decide_eq_false (show ¬ q.at_ < o.at_ + o.wide from by omega)]; simp)
                go_wp2
                go_roundw
                case rel => exact ⟨m + 1, by omega, by go_num, Lib.hid (HJN.out HG.out), Lib.hid (hE.out.thin (List.Sublist.cons_cons _ (List.Sublist.cons_cons _ (List.Sublist.cons_cons _ (List.nil_sublist _)))) (List.Sublist.refl _))⟩
                case measure => simp [intOf]; omega
              have D0 := Lib.hid (show decide (q.at_ < o.at_ + o.wide) = true from decide_eq_true (by omega))
              have e0 : decide (o.at_ + o.wide ≤ q.at_) = false := decide_eq_false a0
              by_cases a1 : q.at_ + q.wide ≤ o.at_
              · have HG := Lib.hid (show mo = false from by rw [HDE.out]; rw [decide_eq_false (show ¬ o.at_ < q.at_ + q.wide from by omega)]; simp)
                go_wp2
                go_roundw
                case rel => exact ⟨m + 1, by omega, by go_num, Lib.hid (HJN.out HG.out), Lib.hid (hE.out.thin (List.Sublist.cons_cons _ (List.Sublist.cons_cons _ (List.Sublist.cons_cons _ (List.nil_sublist _)))) (List.Sublist.refl _))⟩
                case measure => simp [intOf]; omega
              have D1 := Lib.hid (show decide (o.at_ < q.at_ + q.wide) = true from decide_eq_true (by omega))
              have e1 : decide (q.at_ + q.wide ≤ o.at_) = false := decide_eq_false a1
              by_cases a2 : o.fro + o.high ≤ q.fro
              · have HG := Lib.hid (show mo = false from by rw [HDE.out]; rw [decide_eq_false (show ¬ q.fro < o.fro + o.high from by omega)]; simp)
                go_wp2
                go_roundw
                case rel => exact ⟨m + 1, by omega, by go_num, Lib.hid (HJN.out HG.out), Lib.hid (hE.out.thin (List.Sublist.cons_cons _ (List.Sublist.cons_cons _ (List.Sublist.cons_cons _ (List.nil_sublist _)))) (List.Sublist.refl _))⟩
                case measure => simp [intOf]; omega
              have D2 := Lib.hid (show decide (q.fro < o.fro + o.high) = true from decide_eq_true (by omega))
              have e2 : decide (o.fro + o.high ≤ q.fro) = false := decide_eq_false a2
              by_cases a3 : q.fro + q.high ≤ o.fro
              · have HG := Lib.hid (show mo = false from by rw [HDE.out]; rw [decide_eq_false (show ¬ o.fro < q.fro + q.high from by omega)]; simp)
                go_wp2
                go_roundw
                case rel => exact ⟨m + 1, by omega, by go_num, Lib.hid (HJN.out HG.out), Lib.hid (hE.out.thin (List.Sublist.cons_cons _ (List.Sublist.cons_cons _ (List.Sublist.cons_cons _ (List.nil_sublist _)))) (List.Sublist.refl _))⟩
                case measure => simp [intOf]; omega
              have D3 := Lib.hid (show decide (o.fro < q.fro + q.high) = true from decide_eq_true (by omega))
              have e3 : decide (q.fro + q.high ≤ o.fro) = false := decide_eq_false a3
              have HB := Lib.hid (HT.out (by rw [HDE.out, D1.out, D0.out, D3.out, D2.out]; rfl))
              go_wp2
              go_ret
              exact ⟨ret_bool HB.out.symm, hE.out.be⟩
            · have hmm : ¬ (m : Int) < (k : Int) := by omega
              have HB := Lib.hid (HMX.out (fun j hj h => HJ.out j hj (by omega)))
              go_wp2
              go_roundw
              case rel => exact ⟨k + 1, by omega, by go_num, HB, Lib.hid (hD.out.thin (List.Sublist.cons_cons _ (List.Sublist.cons_cons _ (List.nil_sublist _))) (List.Sublist.refl _))⟩
              case measure => simp [intOf]; omega
    · have hkk : ¬ (k : Int) < (ops.length : Int) := by omega
      have HB := Lib.hid (HY.out (opens_yes (fun i hi => HI.out i hi (by omega))))
      go_wp2
      go_ret
      exact ⟨ret_bool HB.out.symm, hC.out.be⟩
end
end Go.Proofs.YtchignmnnbepnaaGreat

/- the reference's Division -/
import Derived.Test.YteogibpmpppgmaaGreatK19
namespace Go.Proofs.YteogibpmpppgmaaGreat
open Go.RowKit

theorem false_of {b : Bool} (h : b = true → False) : b = false := by cases b with | false => rfl | true => exact (h rfl).elim
theorem dv_at {F paces : List Int} {L d x b : Int} {st : List I3} {k : Nat} (h : k < st.length) : divOk F L paces d x b (st.drop k) = true ↔
    st[k].2.1 = x ∧ x < st[k].2.2 ∧ st[k].2.2 ∈ endsOf F L ∧ b < st[k].1 ∧ st[k].1 < paces.length ∧ st[k].2.2 - st[k].2.1 ≤ paces.getD st[k].1.toNat 0 * d ∧ divOk F L paces d st[k].2.2 st[k].1 (st.drop (k + 1)) = true := by
  rw [List.drop_eq_getElem_cons h]
  exact divOk_cons _ _ _ _ _
theorem ends_any {F : List Int} {L u : Int} : (decide (u = L) || F.any fun f => decide (f = u)) = true ↔ u ∈ endsOf F L := by
  rw [Bool.or_eq_true, decide_eq_true_eq, List.any_eq_true, List.mem_append, List.mem_singleton]
  constructor
  · rintro (h | ⟨f, hf, h⟩)
    · exact .inr h
    · rw [decide_eq_true_eq] at h; exact .inl (by rw [← h]; exact hf)
  · rintro (h | h)
    · exact .inr ⟨_, h, by simp⟩
    · exact .inl h
theorem any_take2 {α : Type} (p : α → Bool) {l : List α} {k : Nat} (h : k < l.length) : (l.take (k + 1)).any p = ((l.take k).any p || p l[k]) := by
  rw [List.take_succ_eq_append_getElem h, List.any_append]
  simp
theorem paces_at {l : List WL} {j : Nat} (h : j < l.length) : (pacesOf l).getD j 0 = l[j].2.1 := by
  unfold pacesOf
  rw [List.getD_eq_getElem?_getD, List.getElem?_map, List.getElem?_eq_getElem h]
  rfl
theorem paces_len (l : List WL) : (pacesOf l).length = l.length := by simp [pacesOf]
/-- the waller before -/
def Bef (st : List I3) (k : Nat) (b : Int) : Prop := (k = 0 ∧ b = -1) ∨ (0 < k ∧ 0 ≤ b ∧ ∃ h : k - 1 < st.length, (st[k - 1]).1 = b)
section
variable (w : World)
set_option maxHeartbeats 8000000 in
set_option maxRecDepth 100000 in
theorem refDivision_any (a1 a2 a4 : Option Addr) (n1 c1 n2 c2 n4 c4 : Nat) (L d : Int) (F : List Int) (l : List WL) (st : List I3) (hs1 : Sx 1 w a1 n1 c1 (L1 F)) (hs2 : Sx 3 w a2 n2 c2 (LW l)) (hs4 : Sx 3 w a4 n4 c4 (L3 st)) (hR : RightF F L) (hl : l.length ≤ 12) (hp : ∀ x ∈ l, 1 ≤ x.2.1 ∧ x.2.1 ≤ 20000) (hd0 : 0 ≤ d) (hd1 : d ≤ 1000000) :
    Calls Tryz.prog 20 #[.int .i64 L, .slice a1 n1 c1, .slice a2 n2 c2, .int .i64 d, .slice a4 n4 c4] w (Gives (.bool (divOk F L (pacesOf l) d 0 (-1) st)) w) := by
  have cap1 := hs1.cap
  have cap4 := hs4.cap
  unfold maxLen at cap1 cap4
  obtain rfl := hs1.n1
  obtain rfl := hs2.nW
  obtain rfl := hs4.n3
  have HS1 := Lib.hid hs1
  have HS2 := Lib.hid hs2
  have HS4 := Lib.hid hs4
  have HP := Lib.hid hp
  clear hs1 hs2 hs4 hp
  have HR := Lib.hid hR
  have hL1 := hR.1
  have hL2 := hR.2.1
  clear hR
  have w1 : IntKind.i64.wrap ((l.length : Int) - 1) = (l.length : Int) - 1 := IntWalk.i64_in _ (by omega)
  obtain ⟨ans, hans⟩ : ∃ ans, divOk F L (pacesOf l) d 0 (-1) st = ans := ⟨_, rfl⟩
  rw [hans]
  go_enter Tryz.func20, Tryz.ntmps20
  go_wp2
  go_loopw [11, 12] (fun xv iv wr => ∃ (k : Nat) (x b : Int), k ≤ st.length ∧ xv = .int .i64 x ∧ iv = .int .i64 k ∧ 0 ≤ x ∧ x ≤ L ∧ Hid (Bef st k b) ∧ Hid (divOk F L (pacesOf l) d x b (st.drop k) = ans) ∧ Hid (Sy w wr [] [] [])) (fun _ iv _ => st.length - (intOf iv).toNat)
  case atStart => exact ⟨0, 0, -1, Nat.zero_le _, rfl, rfl, by omega, by omega, Lib.hid (.inl ⟨rfl, rfl⟩), Lib.hid hans, Lib.hid (Sy.enter w)⟩
  case round =>
    clear hans
    obtain ⟨k, x, b, hk, rfl, rfl, hx0, hxL, HB, HD, hC⟩ := hrel
    by_cases hlt : k < st.length
    · have hkk : (k : Int) < (st.length : Int) := by omega
      have k0 : (0 : Int) ≤ (k : Int) := by omega
      obtain ⟨g4, o4, rfl⟩ := HS4.out.addr (by omega)
      obtain ⟨x0, x1, x2⟩ := (hC.out.sx HS4.out).at3 hlt
      have hdv := dv_at (F := F) (paces := pacesOf l) (L := L) (d := d) (x := x) (b := b) hlt
      rw [HD.out, paces_len] at hdv
      have HNO := Lib.hid (show (st[k].2.1 = x ∧ x < st[k].2.2 ∧ st[k].2.2 ∈ endsOf F L ∧ b < st[k].1 ∧ st[k].1 < l.length ∧ st[k].2.2 - st[k].2.1 ≤ (pacesOf l).getD st[k].1.toNat 0 * d → False) → ans = false from fun h => false_of fun ht => h (by
        obtain ⟨h1, h2, h3, h4, h5, h6, -⟩ := hdv.1 ht
        exact ⟨h1, h2, h3, h4, h5, h6⟩))
      have HYS := Lib.hid (show (st[k].2.1 = x ∧ x < st[k].2.2 ∧ st[k].2.2 ∈ endsOf F L ∧ b < st[k].1 ∧ st[k].1 < l.length ∧ st[k].2.2 - st[k].2.1 ≤ (pacesOf l).getD st[k].1.toNat 0 * d) → divOk F L (pacesOf l) d st[k].2.2 st[k].1 (st.drop (k + 1)) = ans from fun ⟨h1, h2, h3, h4, h5, h6⟩ => by
        rw [Bool.eq_iff_iff, hdv]
        exact ⟨fun h7 => ⟨h1, h2, h3, h4, h5, h6, h7⟩, fun h7 => h7.2.2.2.2.2.2⟩)
      have HST := Lib.hid (show ∃ h : k < st.length, (st[k]).1 = (st[k]).1 from ⟨hlt, rfl⟩)
      obtain ⟨u0, hu0⟩ : ∃ u0, st[k].1 = u0 := ⟨_, rfl⟩
      obtain ⟨u1, hu1⟩ : ∃ u1, st[k].2.1 = u1 := ⟨_, rfl⟩
      obtain ⟨u2, hu2⟩ : ∃ u2, st[k].2.2 = u2 := ⟨_, rfl⟩
      have HU := Lib.hid hu0
      rw [hu0, hu1, hu2] at HNO HYS
      rw [hu0] at x0
      rw [hu1] at x1
      rw [hu2] at x2
      clear hdv HD HST hu0 hu1 hu2
      have hA := Lib.hid (hC.out.al wr.heap.size #[.int .i64 u0, .int .i64 u1, .int .i64 u2] 128 rfl)
      go_upto_region 6 with fail
      refine wp_geny hA.out ?_
      intro W hc
      have hS : Hid (Sy w W [(wr.heap.size, #[.int .i64 u0, .int .i64 u1, .int .i64 u2], 128)] [] []) := Lib.hid hc
      clear hc hA hC x0 x1 x2
      generalize wr.heap.size = bS at *
      have s0 := hS.out.cell 0 0 rfl rfl
      have s1 := hS.out.cell 0 1 rfl rfl
      have s2 := hS.out.cell 0 2 rfl rfl
      have hb1 : -1 ≤ b := by rcases HB.out with h | h <;> omega
      have HIA := Lib.hid (fun W => In_any u0 0 ((l.length : Int) - 1) W)
      by_cases e1 : u1 = x
      rotate_left
      · have d1 := decide_eq_false e1
        have d2 : (u1 == x) = false := beq_eq_false_iff_ne.2 e1
        have d0 : (u1 != x) = true := bne_iff_ne.2 e1
        have HG := Lib.hid (HNO.out (fun h => e1 h.1))
        clear HNO HYS
        go_big_quiet (exact Calls.quiet_of_same (HIA.out _))
        have hZ := Lib.hid (hS.out.call (below_dN (Below.refl _ _) nq))
        go_wp2
        go_ret
        exact ⟨ret_bool HG.out.symm, hZ.out.be⟩
      subst e1
      have d0 : (u1 != u1) = false := by simp
      by_cases e2 : u2 ≤ u1
      · have HG := Lib.hid (HNO.out (fun h => by have := h.2.1; omega))
        clear HNO HYS
        go_big_quiet (exact Calls.quiet_of_same (HIA.out _))
        have hZ := Lib.hid (hS.out.call (below_dN (Below.refl _ _) nq))
        go_wp2
        go_ret
        exact ⟨ret_bool HG.out.symm, hZ.out.be⟩
      have d2 := decide_eq_false e2
      by_cases e3 : L < u2
      · have HG := Lib.hid (HNO.out (fun h => by have := HR.out.ends_le _ h.2.2.1; omega))
        clear HNO HYS
        go_big_quiet (exact Calls.quiet_of_same (HIA.out _))
        have hZ := Lib.hid (hS.out.call (below_dN (Below.refl _ _) nq))
        go_wp2
        go_ret
        exact ⟨ret_bool HG.out.symm, hZ.out.be⟩
      have d3 := decide_eq_false e3
      cases hIn : inB u0 0 ((l.length : Int) - 1)
      · rw [hIn] at HIA
        have HIN := Lib.hid hIn
        clear hIn
        have HG := Lib.hid (HNO.out (fun h => by have h4 := h.2.2.2.1; have h5 := h.2.2.2.2.1; have h6 := HIN.out; rw [inB_iff.2 ⟨by omega, by omega⟩] at h6; cases h6))
        clear HNO HYS
        go_big_quiet (exact Calls.quiet_of_same (HIA.out _))
        have hZ := Lib.hid (hS.out.call (below_dN (Below.refl _ _) nq))
        go_wp2
        go_ret
        exact ⟨ret_bool HG.out.symm, hZ.out.be⟩
      obtain ⟨hi0, hi1⟩ := inB_iff.1 hIn
      rw [hIn] at HIA
      clear hIn
      obtain ⟨j, rfl⟩ : ∃ j : Nat, u0 = j := ⟨u0.toNat, by omega⟩
      have hjl : j < l.length := by omega
      rw [Int.toNat_natCast, paces_at hjl] at HNO HYS
      have hjj : (j : Int) < (l.length : Int) := by omega
      have j0 : (0 : Int) ≤ (j : Int) := by omega
      obtain ⟨g2, o2, rfl⟩ := HS2.out.addr (by omega)
      have hpc := HP.out _ (List.getElem_mem hjl)
      have HPC := Lib.hid (fun V (hV : Below w.heap.size w V) => ((HS2.out.below hV).atW hjl).2.1)
      obtain ⟨pc, hpcv⟩ : ∃ pc, l[j].2.1 = pc := ⟨_, rfl⟩
      rw [hpcv] at HNO HYS hpc HPC
      clear hpcv
      obtain ⟨hpc0, hpc1⟩ := hpc
      have q0 : 0 ≤ pc * d := Int.mul_nonneg (by omega) hd0
      have q1 : pc * d ≤ 20000 * 1000000 := Int.mul_le_mul hpc1 hd1 hd0 (by decide)
      have w3 : IntKind.i64.wrap (pc * d) = pc * d := IntWalk.i64_in _ (by omega)
      have w4 : IntKind.i64.wrap (u2 - u1) = u2 - u1 := IntWalk.i64_in _ (by omega)
      have HBE := HB.out
      have HBN := Lib.hid (show Bef st (k + 1) (j : Int) from .inr ⟨by omega, by omega, hlt, HU.out⟩)
      have HLB := Lib.hid (show (b < (j : Int)) ↔ b + 1 ≤ j from by omega)
      clear HB HU
      rcases HBE with ⟨hk0, hb⟩ | ⟨hkp, hbp, hk1, hpb⟩
      rotate_left
      · have hkn : decide (0 < k) = true := decide_eq_true hkp
        have hkz : (0 : Int) < (k : Int) := by omega
        have w2 : IntKind.i64.wrap ((k : Int) - 1) = ((k - 1 : Nat) : Int) := by rw [IntWalk.i64_in _ (by omega)]; omega
        have n1 : (k : Int) - 1 = ((k - 1 : Nat) : Int) := by omega
        have n2 : (0 : Int) ≤ ((k - 1 : Nat) : Int) := by omega
        have n3 : ((k - 1 : Nat) : Int) < (st.length : Int) := by omega
        have y0 := ((hS.out.sx HS4.out).at3 hk1).1
        rw [hpb] at y0
        clear hpb
        by_cases e5 : (j : Int) ≤ b
        · have HG := Lib.hid (HNO.out (fun h => by have := h.2.2.2.1; omega))
          clear HNO HYS
          go_big_quiet (exact Calls.quiet_of_same (HIA.out _))
          have hZ := Lib.hid (hS.out.call (below_dN (Below.refl _ _) nq))
          go_wp2
          go_ret
          exact ⟨ret_bool HG.out.symm, hZ.out.be⟩
        have d5 := decide_eq_false e5
        have hbj : b < (j : Int) := by omega
        go_big_quiet (exact Calls.quiet_of_same (HIA.out _))
        have hS2 := Lib.hid (hS.out.call (below_dN (Below.refl _ _) nq))
        clear hkn hkz w2 n1 n2 n3 y0 d5 hS s0 s1 s2
        clear e5 hkp hbp hk1
        have s2 := hS2.out.cell 0 2 rfl rfl
        go_wp2
        clear s2
        go_loopw [14, 15] (fun ev jv wj => ∃ (m : Nat) (e : Bool), m ≤ F.length ∧ ev = .bool e ∧ jv = .int .i64 m ∧ Hid (e = (decide (u2 = L) || (F.take m).any (fun f => decide (f = u2)))) ∧ Hid (Sy w wj [(bS, #[.int .i64 (j : Int), .int .i64 u1, .int .i64 u2], 128)] [] [])) (fun _ jv _ => F.length - (intOf jv).toNat)
        case atStart => exact ⟨0, _, Nat.zero_le _, rfl, rfl, Lib.hid (by rw [List.take_zero, List.any_nil, Bool.or_false]; first | rfl | (rw [Bool.eq_iff_iff]; simp)), hS2⟩
        case round =>
          clear hS2
          obtain ⟨m, e, hm, rfl, rfl, HE, hS⟩ := hrel
          have s0 := hS.out.cell 0 0 rfl rfl
          have s1 := hS.out.cell 0 1 rfl rfl
          have s2 := hS.out.cell 0 2 rfl rfl
          by_cases hml : m < F.length
          · have hmm : (m : Int) < (F.length : Int) := by omega
            have m0 : (0 : Int) ≤ (m : Int) := by omega
            obtain ⟨g1, o1, rfl⟩ := HS1.out.addr (by omega)
            have y1 := (hS.out.sx HS1.out).at1 hml
            have HT := Lib.hid (any_take2 (fun f => decide (f = u2)) hml)
            generalize F[m] = f at *
            cases e
            · by_cases ef : f = u2
              · subst ef
                go_wp2
                go_big_quiet (fail)
                have hS1 := Lib.hid (hS.out.call (below_dN (Below.refl _ _) nq))
                go_wp2
                go_roundw
                case rel => exact ⟨m + 1, true, by omega, by simp, by go_num, Lib.hid (by rw [HT.out]; simp), hS1⟩
                case measure => simp [intOf]; omega
              · have df := decide_eq_false ef
                have df2 : (f == u2) = false := beq_eq_false_iff_ne.2 ef
                go_wp2
                go_big_quiet (fail)
                have hS1 := Lib.hid (hS.out.call (below_dN (Below.refl _ _) nq))
                go_wp2
                go_roundw
                case rel => exact ⟨m + 1, false, by omega, by simp, by go_num, Lib.hid (by rw [HT.out, ← Bool.or_assoc, ← HE.out, df]; rfl), hS1⟩
                case measure => simp [intOf]; omega
            · go_wp2
              go_big_quiet (fail)
              have hS1 := Lib.hid (hS.out.call (below_dN (Below.refl _ _) nq))
              go_wp2
              go_roundw
              case rel => exact ⟨m + 1, true, by omega, rfl, by go_num, Lib.hid (by rw [HT.out, ← Bool.or_assoc, ← HE.out]; rfl), hS1⟩
              case measure => simp [intOf]; omega
          · have hmm : ¬ (m : Int) < (F.length : Int) := by omega
            rw [List.take_of_length_le (show F.length ≤ m by omega)] at HE
            go_wp2
            cases e
            · have HG := Lib.hid (HNO.out (fun h => by have h9 := ends_any.2 h.2.2.1; rw [← HE.out] at h9; cases h9))
              clear HNO HYS
              go_big_quiet (fail)
              have hZ := Lib.hid (hS.out.call (below_dN (Below.refl _ _) nq))
              go_wp2
              go_ret
              exact ⟨ret_bool HG.out.symm, hZ.out.be⟩
            · have y2 := HPC.out _ hS.out.be
              by_cases e7 : pc * d < u2 - u1
              · have HG := Lib.hid (HNO.out (fun h => by have := h.2.2.2.2.2; omega))
                clear HNO HYS
                go_big_quiet (fail)
                have hZ := Lib.hid (hS.out.call (below_dN (Below.refl _ _) nq))
                go_wp2
                go_ret
                exact ⟨ret_bool HG.out.symm, hZ.out.be⟩
              · have d7 := decide_eq_false e7
                have HG := Lib.hid (HYS.out ⟨by trivial, by omega, ends_any.1 HE.out.symm, hbj, by omega, by omega⟩)
                clear HNO HYS HE
                go_big_quiet (fail)
                have hS1 := Lib.hid (hS.out.call (below_dN (Below.refl _ _) nq))
                clear hS s0 s1 s2 y2
                have s2 := hS1.out.cell 0 2 rfl rfl
                go_wp2
                go_roundw
                case rel => exact ⟨k + 1, u2, j, by omega, rfl, by go_num, by omega, by omega, HBN, HG, Lib.hid (hS1.out.thin (List.nil_sublist _) (List.nil_sublist _))⟩
                case measure => simp [intOf]; omega
      · have hkn : decide (0 < k) = false := decide_eq_false (by omega)
        have hbj : b < (j : Int) := by omega
        clear hk0 hb
        go_big_quiet (exact Calls.quiet_of_same (HIA.out _))
        have hS2 := Lib.hid (hS.out.call (below_dN (Below.refl _ _) nq))
        clear hkn hS s0 s1 s2
        have s2 := hS2.out.cell 0 2 rfl rfl
        go_wp2
        clear s2
        go_loopw [14, 15] (fun ev jv wj => ∃ (m : Nat) (e : Bool), m ≤ F.length ∧ ev = .bool e ∧ jv = .int .i64 m ∧ Hid (e = (decide (u2 = L) || (F.take m).any (fun f => decide (f = u2)))) ∧ Hid (Sy w wj [(bS, #[.int .i64 (j : Int), .int .i64 u1, .int .i64 u2], 128)] [] [])) (fun _ jv _ => F.length - (intOf jv).toNat)
        case atStart => exact ⟨0, _, Nat.zero_le _, rfl, rfl, Lib.hid (by rw [List.take_zero, List.any_nil, Bool.or_false]; first | rfl | (rw [Bool.eq_iff_iff]; simp)), hS2⟩
        case round =>
          clear hS2
          obtain ⟨m, e, hm, rfl, rfl, HE, hS⟩ := hrel
          have s0 := hS.out.cell 0 0 rfl rfl
          have s1 := hS.out.cell 0 1 rfl rfl
          have s2 := hS.out.cell 0 2 rfl rfl
          by_cases hml : m < F.length
          · have hmm : (m : Int) < (F.length : Int) := by omega
            have m0 : (0 : Int) ≤ (m : Int) := by omega
            obtain ⟨g1, o1, rfl⟩ := HS1.out.addr (by omega)
            have y1 := (hS.out.sx HS1.out).at1 hml
            have HT := Lib.hid (any_take2 (fun f => decide (f = u2)) hml)
            generalize F[m] = f at *
            cases e
            · by_cases ef : f = u2
              · subst ef
                go_wp2
                go_big_quiet (fail)
                have hS1 := Lib.hid (hS.out.call (below_dN (Below.refl _ _) nq))
                go_wp2
                go_roundw
                case rel => exact ⟨m + 1, true, by omega, by simp, by go_num, Lib.hid (by rw [HT.out]; simp), hS1⟩
                case measure => simp [intOf]; omega
              · have df := decide_eq_false ef
                have df2 : (f == u2) = false := beq_eq_false_iff_ne.2 ef
                go_wp2
                go_big_quiet (fail)
                have hS1 := Lib.hid (hS.out.call (below_dN (Below.refl _ _) nq))
                go_wp2
                go_roundw
                case rel => exact ⟨m + 1, false, by omega, by simp, by go_num, Lib.hid (by rw [HT.out, ← Bool.or_assoc, ← HE.out, df]; rfl), hS1⟩
                case measure => simp [intOf]; omega
            · go_wp2
              go_big_quiet (fail)
              have hS1 := Lib.hid (hS.out.call (below_dN (Below.refl _ _) nq))
              go_wp2
              go_roundw
              case rel => exact ⟨m + 1, true, by omega, rfl, by go_num, Lib.hid (by rw [HT.out, ← Bool.or_assoc, ← HE.out]; rfl), hS1⟩
              case measure => simp [intOf]; omega
          · have hmm : ¬ (m : Int) < (F.length : Int) := by omega
            rw [List.take_of_length_le (show F.length ≤ m by omega)] at HE
            go_wp2
            cases e
            · have HG := Lib.hid (HNO.out (fun h => by have h9 := ends_any.2 h.2.2.1; rw [← HE.out] at h9; cases h9))
              clear HNO HYS
              go_big_quiet (fail)
              have hZ := Lib.hid (hS.out.call (below_dN (Below.refl _ _) nq))
              go_wp2
              go_ret
              exact ⟨ret_bool HG.out.symm, hZ.out.be⟩
            · have y2 := HPC.out _ hS.out.be
              by_cases e7 : pc * d < u2 - u1
              · have HG := Lib.hid (HNO.out (fun h => by have := h.2.2.2.2.2; omega))
                clear HNO HYS
                go_big_quiet (fail)
                have hZ := Lib.hid (hS.out.call (below_dN (Below.refl _ _) nq))
                go_wp2
                go_ret
                exact ⟨ret_bool HG.out.symm, hZ.out.be⟩
              · have d7 := decide_eq_false e7
                have HG := Lib.hid (HYS.out ⟨by trivial, by omega, ends_any.1 HE.out.symm, hbj, by omega, by omega⟩)
                clear HNO HYS HE
                go_big_quiet (fail)
                have hS1 := Lib.hid (hS.out.call (below_dN (Below.refl _ _) nq))
                clear hS s0 s1 s2 y2
                have s2 := hS1.out.cell 0 2 rfl rfl
                go_wp2
                go_roundw
                case rel => exact ⟨k + 1, u2, j, by omega, rfl, by go_num, by omega, by omega, HBN, HG, Lib.hid (hS1.out.thin (List.nil_sublist _) (List.nil_sublist _))⟩
                case measure => simp [intOf]; omega
    · have hkk : ¬ (k : Int) < (st.length : Int) := by omega
      rw [List.drop_eq_nil_of_le (by omega)] at HD
      have HG := Lib.hid (show decide (x = L) = ans from HD.out)
      clear HD
      go_wp2
      go_ret
      exact ⟨ret_bool (by rw [← HG.out]; first | rfl | simp), hC.out.be⟩
end
end Go.Proofs.YteogibpmpppgmaaGreat

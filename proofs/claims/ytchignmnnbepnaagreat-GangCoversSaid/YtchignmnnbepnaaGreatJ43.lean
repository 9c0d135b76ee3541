/- chain: a cheapest chain of hops -/
import Derived.Test.YtchignmnnbepnaaGreatJ42
import Derived.Test.YtchignmnnbepnaaGreatJ35
namespace Go.Proofs.YtchignmnnbepnaaGreat
open Go.RowKit Go.Shelf

/-- what a call reads of a yard -/
structure Yard (W : World) (y : Nat) (a0 a1 a2 a3 : Option Addr) (c0 c1 c2 c3 : Nat) (P : List I3) (N : List I2) (G T : List Int) (X : Nat → Nat → Int) : Prop where
  y0 : W.cell? ⟨y, 0, none⟩ = some (.slice a0 P.length c0)
  y1 : W.cell? ⟨y, 1, none⟩ = some (.slice a1 N.length c1)
  y2 : W.cell? ⟨y, 2, none⟩ = some (.slice a2 P.length c2)
  y3 : W.cell? ⟨y, 3, none⟩ = some (.slice a3 N.length c3)
  yx : ∀ i k, i < P.length → k < N.length → W.cell? ⟨y, 4 + (i * 20 + k), none⟩ = some (.int .i64 (X i k))
  sp : Sx 3 W a0 P.length c0 (L3 P)
  sn : Sx 2 W a1 N.length c1 (L2 N)
  sg : Sx 1 W a2 P.length c2 (L1 G)
  st : Sx 1 W a3 N.length c3 (L1 T)
  ly : y < W.heap.size
theorem Yard.below {W V : World} {y : Nat} {a0 a1 a2 a3 : Option Addr} {c0 c1 c2 c3 : Nat} {P : List I3} {N : List I2} {G T : List Int} {X : Nat → Nat → Int} (h : Yard W y a0 a1 a2 a3 c0 c1 c2 c3 P N G T X) (hb : Below W.heap.size W V) : Yard V y a0 a1 a2 a3 c0 c1 c2 c3 P N G T X :=
  ⟨(hb.cell (p := ⟨y, 0, none⟩) h.ly).trans h.y0, (hb.cell (p := ⟨y, 1, none⟩) h.ly).trans h.y1, (hb.cell (p := ⟨y, 2, none⟩) h.ly).trans h.y2, (hb.cell (p := ⟨y, 3, none⟩) h.ly).trans h.y3,
    fun i k hi hk => (hb.cell (p := ⟨y, 4 + (i * 20 + k), none⟩) h.ly).trans (h.yx i k hi hk), h.sp.below hb, h.sn.below hb, h.sg.below hb, h.st.below hb, Nat.lt_of_lt_of_le h.ly hb.size⟩
def hA (P : List I3) (i : Nat) : Int := (P.getD i (0, 0, 0)).2.1
def hB (N : List I2) (k : Nat) : Int := (N.getD k (0, 0)).2
/-- piles and needs are right -/
def YGood (P : List I3) (N : List I2) : Prop := P.length ≤ 20 ∧ N.length ≤ 20 ∧ (∀ x ∈ P, (-100000 ≤ x.1 ∧ x.1 ≤ 100000) ∧ (0 ≤ x.2.1 ∧ x.2.1 ≤ 1000000) ∧ (0 ≤ x.2.2 ∧ x.2.2 ≤ 1000000)) ∧ ∀ x ∈ N, (-100000 ≤ x.1 ∧ x.1 ≤ 100000) ∧ (0 ≤ x.2 ∧ x.2 ≤ 1000000)
theorem und_hops : Tryz.prog.underlying 151 = some (.slice 156) := Tryz.underlying151
theorem info_hop : (Tryz.prog.info? 156).map (fun i => (i.zero, i.size, i.bytes)) = some (some (.agg #[.int .i64 0, .int .i64 0, .bool false, .int .i64 0]), 4, 32) := by kernel_rfl
theorem eg_left : EG 122 := enters_of Tryz.func122 (by kernel_rfl) rfl
def lenV : Value → Nat
  | .slice _ n _ => n
  | _ => 0
section
variable (w : World)
def RetChain (w : World) (P : List I3) (N : List I2) (X : Nat → Nat → Int) (G T : List Int) (e : Ending) (w' : World) : Prop := ∃ (l : List Hop) (a : Option Addr) (c : Nat), e = .returned (.slice a l.length c) ∧ w'.ownsRow w.heap.size 156 4 (.slice a l.length c) l.length (LH l) ∧
  IsChain P.length N.length (hA P) (hB N) (costC P N) X (fun i => G.getD i 0) (fun k => T.getD k 0) l ∧ Below w.heap.size w w'
set_option maxHeartbeats 4000000 in
set_option maxRecDepth 100000 in
theorem chain_any (y : Nat) (a0 a1 a2 a3 : Option Addr) (c0 c1 c2 c3 : Nat) (P : List I3) (N : List I2) (G T : List Int) (X : Nat → Nat → Int) (hY : Yard w y a0 a1 a2 a3 c0 c1 c2 c3 P N G T X) (hG : YGood P N) (hE : rsum (hB N) N.length ≤ rsum (hA P) P.length)
    (hI : YInv P.length N.length (hA P) (hB N) (costC P N) X (fun i => G.getD i 0) (fun k => T.getD k 0)) :
    Calls Tryz.prog 80 #[.pointer (some ⟨y, 0, none⟩)] w (RetChain w P N X G T) := by
  obtain ⟨p0, p1, hf, hp0, hp1, hp2⟩ := hI.pot
  have HY := Lib.hid (fun V (hV : Below w.heap.size w V) => hY.below hV)
  have HI := Lib.hid hI
  have HE := Lib.hid hE
  have HP := Lib.hid (And.intro hp0 hp1)
  have HGD := Lib.hid hG
  have HC := Lib.hid (reach_any w y 122 #[.pointer (some ⟨y, 0, none⟩)] #[] (fun i => decide (G.getD i 0 < hA P i)) a0 a1 c0 c1 P N X p0 p1 eg_left
    (fun W hW i hi => by
      have h := hY.below hW
      exact left_any W y i a0 a2 c0 c2 P G h.y0 h.y2 h.sp h.sg hi)
    hG.1 hG.2.1 (fun p hp => by have := hG.2.2.1 p hp; omega) (fun q hq => by have := hG.2.2.2 q hq; omega) hf hp0 hp1 (fun i hi h => by rw [hp2 i hi (of_decide_eq_true h)]; exact Int.le_refl _) hI.c0 hY.y0 hY.y1 hY.yx hY.sp hY.sn hY.ly)
  clear hY hI hG hE hf hp0 hp1 hp2
  go_enter Tryz.func80, Tryz.ntmps80
  go_wp2_with fail
  refine HC.out.mono ?_
  rintro e V ⟨s, rfl, hI, hX, hb⟩
  have HS := Lib.hid (And.intro hI hX)
  have HSZ := Lib.hid (And.intro (distC_size hI) (byC_size hI))
  clear hI hX HC
  have hD := Lib.hid ((((Sy.enter w).call hb).al V.heap.size (Array.replicate 40 (.int .i64 0)) 196 rfl).al (V.heap.size + 1) Tryz.zeroCells198 198 (by simp))
  have hD1 := Lib.hid (hD.out.setAll 0 (distC s) rfl)
  have hD2 := Lib.hid (hD1.out.setAll 1 (byC s) rfl)
  go_upto_region 2 with (first
    | refine wpList_store_row rfl 196 (.tmp 3) (.tmp 16) rfl V.heap.size (distC s) rfl rfl 196 _ (hD.out.at_ 0 rfl).2 (by rw [HSZ.out.1]; kernel_rfl) (by rw [HSZ.out.1]; rfl) (distC_one s) ?_
    | refine wpList_store_row rfl 198 (.tmp 4) (.tmp 17) rfl (V.heap.size + 1) (byC s) rfl rfl 198 _ (hD1.out.at_ 1 rfl).2 (by rw [HSZ.out.2]; kernel_rfl) (by rw [HSZ.out.2]; kernel_rfl) (byC_one s) ?_)
  refine wp_geny hD2.out ?_
  intro W0 hc
  have hC := Lib.hid (show Sy w W0 [(V.heap.size, distC s, 196), (V.heap.size + 1, byC s, 198)] [] [] from hc)
  clear hc hD hD1 hD2 hb
  generalize V.heap.size + 1 = bB at *
  generalize V.heap.size = bD at *
  simp only [Act.put]
  have y1 := (HY.out _ hC.out.be).y1
  go_wp2
  go_loopw [5, 23] (fun ev iv wr => ∃ (k : Nat) (en : Int), k ≤ N.length ∧ ev = .int .i64 en ∧ iv = .int .i64 k ∧ Hid ((en = -1 ∧ ∀ j, j < k → ¬ T.getD j 0 < hB N j) ∨ ∃ j : Nat, j < k ∧ en = j ∧ T.getD j 0 < hB N j) ∧
    Hid (Sy w wr [(bD, distC s, 196), (bB, byC s, 198)] [] [])) (fun _ iv _ => N.length - (intOf iv).toNat)
  case atStart => exact ⟨0, -1, Nat.zero_le _, rfl, rfl, Lib.hid (.inl ⟨rfl, fun j h => absurd h (Nat.not_lt_zero j)⟩), hC⟩
  case round =>
    clear y1 hC
    obtain ⟨k, en, hk, rfl, rfl, hEn, hC⟩ := hrel
    have hYw := HY.out _ hC.out.be
    by_cases hlt : k < N.length
    · obtain ⟨g1, o1, rfl⟩ := hYw.sn.addr (by omega)
      obtain ⟨g3, o3, rfl⟩ := hYw.st.addr (by omega)
      have hTl : k < T.length := by rw [← hYw.st.n1]; exact hlt
      obtain ⟨x0, x1⟩ := hYw.sn.at2 hlt
      have y3 := hYw.y3
      have x3 := hYw.st.at1 hTl
      have ly := hYw.ly
      have l1 := World.block_lt_of_cell? _ _ x0
      have l3 := World.block_lt_of_cell? _ _ x3
      dsimp only at l1 l3
      have HTk := Lib.hid (show T.getD k 0 = T[k] from getD_at hTl)
      have HNk := Lib.hid (show hB N k = N[k].2 from by unfold hB; rw [List.getD_eq_getElem?_getD, List.getElem?_eq_getElem hlt]; rfl)
      clear hYw
      generalize T[k] = tk at *
      generalize N[k] = q at *
      obtain ⟨q0, q1⟩ := q
      dsimp only at x0 x1 HNk
      clear hTl
      have hC2 := Lib.hid (hC.out.al wr.heap.size #[.int .i64 q0, .int .i64 q1] 76 rfl)
      clear hC
      go_upto_region 6 with fail
      refine wp_geny hC2.out ?_
      intro W2 hc
      have hC : Hid (Sy w W2 [(bD, distC s, 196), (bB, byC s, 198), (wr.heap.size, #[.int .i64 q0, .int .i64 q1], 76)] [] []) := Lib.hid hc
      clear hc hC2 x0 x1 y3 x3 l1 l3 ly
      generalize wr.heap.size = bn at *
      have hYw := HY.out _ hC.out.be
      have y3 := hYw.y3
      have x3 : W2.cell? ⟨g3, o3 + k, none⟩ = some (.int .i64 tk) := by
        have hTl : k < T.length := by rw [← hYw.st.n1]; exact hlt
        have := hYw.st.at1 hTl
        rw [← getD_at hTl, HTk.out] at this
        exact this
      have n1 := hC.out.cell 2 1 rfl rfl
      clear hYw
      have HSN := Lib.hid (hC.out.thin (bs' := [(bD, distC s, 196), (bB, byC s, 198)]) (os' := []) (List.Sublist.cons_cons _ (List.Sublist.cons_cons _ (List.nil_sublist _))) (List.Sublist.refl _))
      have HIM := Lib.hid (HS.out.1.l1)
      have HLE := Lib.hid (And.intro HGD.out.2.1 HS.out.1.l0)
      have d0 := hC.out.cell 0 (20 + k) rfl (distC_at1 HS.out.1.l0 (by have := HIM.out; have := HLE.out.1; omega))
      generalize s.d1.getD k 0 = dk at d0
      have hN20 : N.length ≤ 20 := HGD.out.2.1
      have k0 : (0 : Int) ≤ (k : Int) := by omega
      have k1 : (k : Int) < (N.length : Int) := by omega
      have k2 : (k : Int) < 20 := by omega
      cases ht : decide (tk < q1)
      · have HT := Lib.hid (of_decide_eq_false ht)
        go_quiet (fail)
        go_wp2
        go_roundw
        case rel =>
          refine ⟨k + 1, en, by omega, rfl, by go_num, Lib.hid ?_, Lib.hid (HSN.out.call (below_dN (Below.refl _ _) _))⟩
          rcases hEn.out with ⟨h1, h2⟩ | ⟨j, h1, h2⟩
          · refine .inl ⟨h1, fun j hj => ?_⟩
            rcases Nat.lt_or_ge j k with h | h
            · exact h2 j h
            · rw [show j = k by omega, HTk.out, HNk.out]; exact HT.out
          · exact .inr ⟨j, by omega, h2⟩
        case measure => simp [intOf]; omega
      · have HT := Lib.hid (of_decide_eq_true ht)
        rcases hEn.out with ⟨rfl, h2⟩ | ⟨j, hj, rfl, h2⟩
        · go_quiet (fail)
          go_wp2
          go_roundw
          case rel => exact ⟨k + 1, k, by omega, rfl, by go_num, Lib.hid (.inr ⟨k, by omega, rfl, by rw [HTk.out, HNk.out]; exact HT.out⟩), Lib.hid (HSN.out.call (below_dN (Below.refl _ _) _))⟩
          case measure => simp [intOf]; omega
        · have d1 := hC.out.cell 0 (20 + j) rfl (distC_at1 HS.out.1.l0 (by have := HIM.out; have := HLE.out.1; omega))
          generalize s.d1.getD j 0 = dj at d1
          have j0 : (0 : Int) ≤ (j : Int) := by omega
          have j1 : ¬ (j : Int) < 0 := by omega
          have j2 : (j : Int) < 20 := by omega
          have j3 : decide ((j : Int) < 0) = false := decide_eq_false j1
          cases hdd : decide (dk < dj)
          · have HDD := Lib.hid (of_decide_eq_false hdd)
            go_quiet (fail)
            go_wp2
            go_roundw
            case rel => exact ⟨k + 1, j, by omega, rfl, by go_num, Lib.hid (.inr ⟨j, by omega, rfl, h2⟩), Lib.hid (HSN.out.call (below_dN (Below.refl _ _) _))⟩
            case measure => simp [intOf]; omega
          · have HDD := Lib.hid (of_decide_eq_true hdd)
            go_quiet (fail)
            go_wp2
            go_roundw
            case rel => exact ⟨k + 1, k, by omega, rfl, by go_num, Lib.hid (.inr ⟨k, by omega, rfl, by rw [HTk.out, HNk.out]; exact HT.out⟩), Lib.hid (HSN.out.call (below_dN (Below.refl _ _) _))⟩
            case measure => simp [intOf]; omega
    · obtain rfl : k = N.length := by omega
      rcases hEn.out with ⟨rfl, h2⟩ | ⟨j, hj, rfl, h2⟩
      · go_wp2
        go_ret
        refine ⟨[], none, 0, rfl, World.ownsRow_nil _ _ _ _, .inl ⟨rfl, fun k hk => ?_⟩, hC.out.be⟩
        have h3 := h2 k hk
        have h4 := HI.out.tb k hk
        dsimp only at h4 ⊢
        omega
      · have HR := Lib.hid (y_root HI.out HE.out HS.out.1 HS.out.2 hj h2)
        have HJ := Lib.hid (And.intro hj h2)
        obtain ⟨hdj, n, hPj, hr, hgr, -⟩ := HR.out
        have hn20 := pd_lt HS.out.1 (HS.out.1.p1 j hj hdj).1.1 hPj
        have hP20 := HGD.out.1
        have HQ := Lib.hid (And.intro hdj (And.intro hPj (And.intro hr hgr)))
        have j1 : ¬ (j : Int) < 0 := by omega
        clear hEn hYw HR hdj hPj hr hgr h2
        go_wp2_with fail
        go_loopw [5, 8] (fun ev ov wr => ∃ (m k' : Nat) (pre : List Hop) (a : Option Addr) (c : Nat), ev = .int .i64 k' ∧ ov = .slice a pre.length c ∧ Hid (k' < N.length ∧ s.d1.getD k' 0 < farN ∧ PD s m (s.b1.getD k' hop0).i ∧ pre ++ climb s m k' = climb s n j) ∧
          Hid (Sy w wr [(bD, distC s, 196), (bB, byC s, 198)] [⟨.slice a pre.length c, 156, 4, pre.length, LH pre⟩] [])) (fun _ ov _ => 2 * n + 1 - lenV ov)
        case atStart => exact ⟨n, j, [], none, 0, rfl, rfl, Lib.hid ⟨hj, HQ.out.1, HQ.out.2.1, rfl⟩, Lib.hid (hC.out.onil _ 4)⟩
        case round =>
          clear hC j1
          obtain ⟨m, k', pre, a, c, rfl, rfl, hK, hC⟩ := hrel
          have I := HS.out.1
          have hkl := hK.out.1
          have hlen : pre.length + (2 * m + 1) = 2 * n + 1 := by
            have := congrArg List.length hK.out.2.2.2
            rw [List.length_append, climb_len, climb_len] at this
            exact this
          have hl40 : pre.length ≤ 40 := by omega
          have HLN := Lib.hid hlen
          clear hlen
          obtain ⟨g1, g2, g3, g4⟩ := I.p1 k' hkl hK.out.2.1
          have hi20 : (s.b1.getD k' hop0).i < 20 := by have := g1.1; omega
          have hb3 := I.l3
          have hb2 := I.l2
          have hN20 : N.length ≤ 20 := HGD.out.2.1
          have HB := Lib.hid (And.intro I.l2 (And.intro I.l3 hi20))
          have x0 := hC.out.cell 1 (80 + k' * 4 + 0) rfl (byC_at1 I.l2 (k := k') (by omega) (by omega : 0 < 4))
          have x1 := hC.out.cell 1 (80 + k' * 4 + 1) rfl (byC_at1 I.l2 (k := k') (by omega) (by omega : 1 < 4))
          have x2 := hC.out.cell 1 (80 + k' * 4 + 2) rfl (byC_at1 I.l2 (k := k') (by omega) (by omega : 2 < 4))
          have x3 := hC.out.cell 1 (80 + k' * 4 + 3) rfl (byC_at1 I.l2 (k := k') (by omega) (by omega : 3 < 4))
          have HH := Lib.hid (And.intro hK.out.2.2.1 (And.intro g1.1 hK.out.2.2.2))
          have HCL := Lib.hid (show climb s m k' = s.b1.getD k' hop0 :: climbP s m (s.b1.getD k' hop0).i from rfl)
          have HK2 := Lib.hid (And.intro hkl hK.out.2.1)
          clear g1 g2 g3 g4 hb2 hb3 I hK
          generalize s.b1.getD k' hop0 = h1 at *
          obtain ⟨hi1, hk1, hb1, hc1⟩ := h1
          dsimp only [cH] at x0 x1 x2 x3 hi20 HH HCL
          rw [Nat.add_zero] at x0
          have hC2 := Lib.hid (hC.out.al wr.heap.size #[.int .i64 hi1, .int .i64 hk1, .bool hb1, .int .i64 hc1] 156 rfl)
          clear hC
          have lB := hC2.out.lt 1 rfl
          go_upto_region 13 with fail
          refine wp_geny hC2.out ?_
          intro W2 hc
          have hC : Hid (Sy w W2 [(bD, distC s, 196), (bB, byC s, 198), (wr.heap.size, #[.int .i64 hi1, .int .i64 hk1, .bool hb1, .int .i64 hc1], 156)] [⟨.slice a pre.length c, 156, 4, pre.length, LH pre⟩] []) := Lib.hid hc
          clear hc hC2 x0 x1 x2 x3 lB
          generalize wr.heap.size = bh at *
          have x0 := hC.out.cell 2 0 rfl rfl
          have x1 := hC.out.cell 2 1 rfl rfl
          have x2 := hC.out.cell 2 2 rfl rfl
          have x3 := hC.out.cell 2 3 rfl rfl
          go_upto_region 14 with (refine wpList_append_sy (o := ⟨some 64, _, _, _, _, _⟩) rfl (hC.out.onew W2.heap.size #[.int .i64 hi1, .int .i64 hk1, .bool hb1, .int .i64 hc1] 156 4 1 rfl (by omega) rfl) 0 1 rfl rfl _ _ _ rfl und_hops info_hop rfl (by omega) rfl rfl (by intro u hu; simp at hu; rcases hu with rfl | rfl | rfl | rfl <;> rfl) (by omega) (by omega) ?_; intro a3 c3 V3 hV; have hJ := Lib.hid (hV.thin (List.Sublist.refl _) (List.Sublist.cons_cons _ (List.nil_sublist _))); clear hV)
          have hL1 : LH pre ++ #[.int .i64 hi1, .int .i64 hk1, .bool hb1, .int .i64 hc1].toList = LH (pre ++ [⟨hi1, hk1, hb1, hc1⟩]) := by unfold LH; rw [List.flatMap_append]; rfl
          rw [hL1] at hJ
          clear hL1 x0 x1 x2 x3 hC
          have z0 := hJ.out.cell 2 0 rfl rfl
          have x0 := hJ.out.cell 1 (hi1 * 4 + 0) rfl (byC_at0 (i := hi1) (by rw [HB.out.1]; exact hi20) (by omega : 0 < 4))
          have x1 := hJ.out.cell 1 (hi1 * 4 + 1) rfl (byC_at0 (i := hi1) (by rw [HB.out.1]; exact hi20) (by omega : 1 < 4))
          have x2 := hJ.out.cell 1 (hi1 * 4 + 2) rfl (byC_at0 (i := hi1) (by rw [HB.out.1]; exact hi20) (by omega : 2 < 4))
          have x3 := hJ.out.cell 1 (hi1 * 4 + 3) rfl (byC_at0 (i := hi1) (by rw [HB.out.1]; exact hi20) (by omega : 3 < 4))
          rw [Nat.add_zero] at x0
          have HZ := Lib.hid (show (s.b0.getD hi1 hop0).b = false → m = 0 from fun h => PD.unique HH.out.1 (show PD s 0 hi1 from h))
          have HZ2 := Lib.hid (show (s.b0.getD hi1 hop0).b = true → ∃ m', m = m' + 1 ∧ (s.b0.getD hi1 hop0).k < N.length ∧ s.d1.getD (s.b0.getD hi1 hop0).k 0 < farN ∧ PD s m' (s.b1.getD (s.b0.getD hi1 hop0).k hop0).i ∧ climbP s m hi1 = s.b0.getD hi1 hop0 :: climb s m' (s.b0.getD hi1 hop0).k from fun h => by
            have h1 := HH.out.1
            cases m with
            | zero => rw [show (s.b0.getD hi1 hop0).b = false from h1] at h; cases h
            | succ m' =>
              obtain ⟨_, _, _, q4, q5, _⟩ := climbP_steps HS.out.1 HH.out.2.1 h1
              exact ⟨m', rfl, q4, q5, h1.2, rfl⟩)
          generalize s.b0.getD hi1 hop0 = bk at *
          obtain ⟨hi2, hk2, hb2, hc2⟩ := bk
          dsimp only [cH] at x0 x1 x2 x3 HZ HZ2
          have hC2 := Lib.hid (hJ.out.al V3.heap.size #[.int .i64 hi2, .int .i64 hk2, .bool hb2, .int .i64 hc2] 156 rfl)
          clear hJ
          have lB := hC2.out.lt 1 rfl
          have i0 : (0 : Int) ≤ (hi1 : Int) := by omega
          have i1 : (hi1 : Int) < 20 := by omega
          go_upto_region 15 with fail
          refine wp_geny hC2.out ?_
          intro W4 hc
          have hC : Hid (Sy w W4 [(bD, distC s, 196), (bB, byC s, 198), (bh, #[.int .i64 hi1, .int .i64 hk1, .bool hb1, .int .i64 hc1], 156), (V3.heap.size, #[.int .i64 hi2, .int .i64 hk2, .bool hb2, .int .i64 hc2], 156)] [⟨.slice a3 (pre.length + 1) c3, 156, 4, pre.length + 1, LH (pre ++ [⟨hi1, hk1, hb1, hc1⟩])⟩] []) := Lib.hid hc
          clear hc hC2 x0 x1 x2 x3 z0 lB
          generalize V3.heap.size = bb at *
          have x0 := hC.out.cell 3 0 rfl rfl
          have x1 := hC.out.cell 3 1 rfl rfl
          have x2 := hC.out.cell 3 2 rfl rfl
          have x3 := hC.out.cell 3 3 rfl rfl
          cases hb2
          · have hm := HZ.out rfl
            subst hm
            go_wp2
            go_ret
            refine ⟨pre ++ [⟨hi1, hk1, hb1, hc1⟩], a3, c3, by rw [List.length_append]; rfl, ?_, ?_, hC.out.be⟩
            · have := hC.out.gives 0 rfl
              rw [List.length_append]
              exact this
            · refine .inr ⟨s, n, j, p0, p1, HS.out.1, HP.out.1, HP.out.2, HS.out.2, HJ.out.1, HJ.out.2, HQ.out.1, HQ.out.2.1, HQ.out.2.2.1, HQ.out.2.2.2, ?_⟩
              rw [← HH.out.2.2, HCL.out]
              rfl
          · obtain ⟨m', rfl, q1, q2, q3, q4⟩ := HZ2.out rfl
            have HQ4 := Lib.hid (And.intro q2 (And.intro q3 q4))
            clear q2 q3 q4
            go_wp2_with (refine wpList_append_sy (o := ⟨some 76, _, _, _, _, _⟩) rfl (hC.out.onew W4.heap.size #[.int .i64 hi2, .int .i64 hk2, .bool true, .int .i64 hc2] 156 4 1 rfl (by omega) rfl) 0 1 rfl rfl _ _ _ rfl und_hops info_hop rfl (by omega) rfl rfl (by intro u hu; simp at hu; rcases hu with rfl | rfl | rfl | rfl <;> rfl) (by omega) (by omega) ?_; intro a5 c5 V5 hV; have hJ := Lib.hid (hV.thin (List.Sublist.refl _) (List.Sublist.cons_cons _ (List.nil_sublist _))); clear hV; have x1 := hJ.out.cell 3 1 rfl rfl)
            have hL1 : LH (pre ++ [⟨hi1, hk1, hb1, hc1⟩]) ++ #[.int .i64 hi2, .int .i64 hk2, .bool true, .int .i64 hc2].toList = LH (pre ++ [⟨hi1, hk1, hb1, hc1⟩, ⟨hi2, hk2, true, hc2⟩]) := by unfold LH; simp [List.flatMap_append, cH]
            rw [hL1] at hJ
            go_roundw
            case rel =>
              refine ⟨m', hk2, pre ++ [⟨hi1, hk1, hb1, hc1⟩, ⟨hi2, hk2, true, hc2⟩], a5, c5, rfl, by rw [List.length_append]; rfl, Lib.hid ⟨q1, HQ4.out.1, HQ4.out.2.1, ?_⟩, ?_⟩
              · rw [← HH.out.2.2, HCL.out, HQ4.out.2.2]; simp
              · rw [List.length_append]
                exact Lib.hid (hJ.out.thin (List.Sublist.cons_cons _ (List.Sublist.cons_cons _ (List.nil_sublist _))) (List.Sublist.refl _))
            case measure => have := HLN.out; simp [lenV]; omega
end
end Go.Proofs.YtchignmnnbepnaaGreat

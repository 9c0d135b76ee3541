/- the reference's Possible and Days -/
import Derived.Test.YteogibpmpppgmaaGreatK20
import Derived.Test.YteogibpmpppgmaaGreatG13
import Derived.Test.YteogibpmpppgmaaGreatApp
import Derived.Test.YteogibpmpppgmaaGreatH19
namespace Go.Proofs.YteogibpmpppgmaaGreat
open Go.RowKit

theorem und_bools : Tryz.prog.underlying 183 = some (.slice 4) := Tryz.underlying183
theorem info_bools : (Tryz.prog.info? 4).map (fun i => (i.zero, i.size, i.bytes)) = some (some (.bool false), 1, 1) := by kernel_rfl
theorem LB_len (l : List Bool) : (LB l).length = l.length := List.length_map _
theorem LB_get (l : List Bool) (i : Nat) (h : i < l.length) : (LB l)[i]? = some (.bool l[i]) := by unfold LB; rw [List.getElem?_map, List.getElem?_eq_getElem h]; rfl
theorem LB_set (l : List Bool) (i : Nat) (v : Bool) : (LB l).set i (.bool v) = LB (l.set i v) := by unfold LB; rw [List.map_set]
theorem LB_rep (n : Nat) (v : Bool) : List.replicate n (.bool v) = LB (List.replicate n v) := by unfold LB; rw [List.map_replicate]
theorem LB_one (l : List Bool) : ∀ u ∈ LB l, u.oneCell' = true := fun u hu => by
  unfold LB at hu
  obtain ⟨x, _, rfl⟩ := List.mem_map.1 hu
  rfl
theorem L1_one (l : List Int) : ∀ u ∈ L1 l, u.oneCell' = true := fun u hu => by
  unfold L1 at hu
  obtain ⟨x, _, rfl⟩ := List.mem_map.1 hu
  rfl
theorem getD_b {l : List Bool} {i : Nat} (h : i < l.length) : l.getD i false = l[i] := by rw [List.getD_eq_getElem?_getD, List.getElem?_eq_getElem h]; rfl
theorem marks0_set {E : List Int} (h : 0 < E.length) : (List.replicate E.length false).set 0 true = marks0 E := by
  refine list_ext (n := E.length) (by rw [List.length_set, List.length_replicate]) (marks0_len _) fun i hi => ?_
  unfold marks0
  rw [List.getElem?_map, List.getElem?_range hi]
  rcases Nat.eq_zero_or_pos i with h0 | h0
  · subst h0
    rw [List.getElem?_set_self (by rw [List.length_replicate]; exact h)]
    rfl
  · rw [List.getElem?_set_ne (by omega), List.getElem?_replicate, if_pos hi]
    simp
    omega
section
variable (w : World)
def allE (F : List Int) (L : Int) : List Int := 0 :: (F ++ [L])
theorem allE_len (F : List Int) (L : Int) : (allE F L).length = F.length + 2 := by simp [allE]
theorem allE_bd {F : List Int} {L : Int} (h : RightF F L) {i : Nat} (hi : i < (allE F L).length) : 0 ≤ (allE F L)[i] ∧ (allE F L)[i] ≤ 100000 := by
  have hm := List.getElem_mem hi
  have hL := h.2.1
  have h1 := h.1
  generalize (allE F L)[i] = x at *
  rcases List.mem_cons.1 hm with rfl | hm
  · omega
  · rcases List.mem_append.1 hm with hm | hm
    · have := h.frame x hm; omega
    · obtain rfl := List.mem_singleton.1 hm; omega
set_option maxHeartbeats 8000000 in
set_option maxRecDepth 100000 in
theorem refPossible_any (a a' : Option Addr) (n c n' c' : Nat) (L d : Int) (F : List Int) (l : List WL) (hs : Sx 1 w a n c (L1 F)) (hs' : Sx 3 w a' n' c' (LW l)) (hR : RightF F L) (hF : F.length ≤ 60) (hl : l.length ≤ 12) (hp : ∀ x ∈ l, 1 ≤ x.2.1 ∧ x.2.1 ≤ 20000) (hd0 : 0 ≤ d) (hd1 : d ≤ 1000000) :
    Calls Tryz.prog 63 #[.int .i64 L, .slice a n c, .slice a' n' c', .int .i64 d] w (Gives (.bool (possible (allE F L) (pacesOf l) d)) w) := by
  have hlen := hs.n1
  have hlen' := hs'.nW
  have HS := Lib.hid hs
  have HS' := Lib.hid hs'
  have HP := Lib.hid hp
  have HEB := Lib.hid (fun i hi => allE_bd (i := i) hR hi)
  obtain rfl : F.length = n := hlen.symm
  obtain rfl : l.length = n' := hlen'.symm
  clear hs hs' hlen hlen' hR hp
  have HEe := Lib.hid (show ([.int .i64 0] ++ L1 F) ++ [.int .i64 L] = L1 (allE F L) from by unfold allE; rw [show (0 :: (F ++ [L])) = [0] ++ F ++ [L] from rfl, L1_append, L1_append]; rfl)
  have HEn := Lib.hid (show 1 + F.length + 1 = (allE F L).length from by rw [allE_len]; omega)
  have hEl : (allE F L).length ≤ 62 := by rw [allE_len]; omega
  have hEp : 2 ≤ (allE F L).length := by rw [allE_len]; omega
  go_enter Tryz.func63, Tryz.ntmps63
  have hA0 := Lib.hid ((Sy.enter w).onew w.heap.size #[.int .i64 0] 3 1 1 rfl (by omega) rfl)
  go_upto_region 2 with (first
    | (refine wpList_append_sx (o := ⟨some 17, _, _, _, _, _⟩) rfl hA0.out 0 rfl (hA0.out.sx HS.out) _ _ _ rfl und_int info_int rfl (by omega) rfl rfl (L1_one F) (by omega) (by omega) ?_; intro a1 c1 V1 hV; have hA1 := Lib.hid (hV.onew V1.heap.size #[.int .i64 L] 3 1 1 rfl (by omega) rfl); clear hV)
    | (refine wpList_append_sy (o := ⟨some 20, _, _, _, _, _⟩) rfl hA1.out 0 1 rfl rfl _ _ _ rfl und_int info_int rfl (by omega) rfl rfl (by intro u hu; simp at hu; subst hu; rfl) (by omega) (by omega) ?_; intro a2 c2 V2 hV; have hA2 := Lib.hid hV; clear hV))
  refine wp_geny hA2.out ?_
  intro W0 hc
  have hE0 : Hid (Sy w W0 [] [⟨.slice a2 (1 + F.length + 1) c2, 3, 1, 1 + F.length + 1, ([.int .i64 0] ++ L1 F) ++ [.int .i64 L]⟩] []) := Lib.hid (hc.thin (List.Sublist.refl _) (List.Sublist.cons_cons _ (List.nil_sublist _)))
  clear hc hA0 hA1 hA2
  rw [HEe.out, HEn.out] at hE0
  rw [HEn.out]
  clear HEe HEn
  generalize allE F L = E at *
  obtain ⟨gE, rfl, hcE⟩ := hE0.out.oaddr 0 rfl (by omega)
  go_upto_region 3 with (refine wpList_make_sy (o := ⟨some 23, _, _, _, _, _⟩) rfl hE0.out _ 4 _ _ rfl (.bool false) rfl 1 E.length rfl rfl und_bools info_bools (by omega) (by omega) ?_; intro gR V3 hV; have hM0 := Lib.hid hV; clear hV)
  refine wp_geny hM0.out ?_
  intro W1 hc
  have hM : Hid (Sy w W1 [] [⟨.slice (some ⟨gE, 0, none⟩) E.length c2, 3, 1, E.length, L1 E⟩, ⟨.slice (some ⟨gR, 0, none⟩) E.length E.length, 4, 1, E.length, List.replicate E.length (.bool false)⟩] []) := Lib.hid hc
  clear hc hM0 hE0
  have x0 : W1.cell? ⟨gR, 0, none⟩ = some (.bool false) := hM.out.rcell 1 rfl (by rw [List.getElem?_replicate, if_pos (by omega)])
  have x1 : W1.frozen? ⟨gR, 0, none⟩ = false := hM.out.rfree 1 rfl 0
  have hMS : Hid (Sy w (W1.setCell ⟨gR, 0, none⟩ (.bool true)) [] [⟨.slice (some ⟨gE, 0, none⟩) E.length c2, 3, 1, E.length, L1 E⟩, ⟨.slice (some ⟨gR, 0, none⟩) E.length E.length, 4, 1, E.length, LB (marks E ((pacesOf l).take 0) d)⟩] []) := Lib.hid (by
    have h := hM.out.ostore 1 rfl 0 (.bool true)
    rw [LB_rep, LB_set, marks0_set (by omega)] at h
    exact h)
  clear hM
  have e0 : (0 : Int) < (E.length : Int) := by omega
  go_wp2
  clear x0 x1
  go_loopw [10, 11] (fun rv iv wr => ∃ (k g cR : Nat), k ≤ l.length ∧ rv = .slice (some ⟨g, 0, none⟩) E.length cR ∧ iv = .int .i64 k ∧ Hid (Sy w wr [] [⟨.slice (some ⟨gE, 0, none⟩) E.length c2, 3, 1, E.length, L1 E⟩, ⟨.slice (some ⟨g, 0, none⟩) E.length cR, 4, 1, E.length, LB (marks E ((pacesOf l).take k) d)⟩] [])) (fun _ iv _ => l.length - (intOf iv).toNat)
  case atStart => exact ⟨0, gR, E.length, Nat.zero_le _, rfl, rfl, hMS⟩
  case round =>
    clear hMS
    obtain ⟨k, g, cR, hk, rfl, rfl, hC⟩ := hrel
    have hrl := marks_len E d ((pacesOf l).take k)
    by_cases hlt : k < l.length
    · have HMT := Lib.hid (marks_take (E := E) (d := d) (show k < (pacesOf l).length by simp [pacesOf]; exact hlt))
      rw [show (pacesOf l)[k]'(by simp [pacesOf]; exact hlt) = l[k].2.1 from by simp [pacesOf]] at HMT
      obtain ⟨g0, o0, rfl⟩ := HS'.out.addr (by omega)
      have HX := Lib.hid (fun V (hV : Below w.heap.size w V) => ((HS'.out.below hV).atW hlt).2.1)
      have hp := HP.out _ (List.getElem_mem hlt)
      generalize l[k] = x at *
      obtain ⟨u0, u1, u2⟩ := x
      dsimp only at HMT HX hp
      have hp0 := hp.1
      have hp1 := hp.2
      have q0 : 0 ≤ u1 * d := Int.mul_nonneg (by omega) hd0
      have q1 : u1 * d ≤ 20000 * 1000000 := Int.mul_le_mul hp1 hd1 hd0 (by decide)
      have w1 : IntKind.i64.wrap (u1 * d) = u1 * d := IntWalk.i64_in _ (by omega)
      clear hp
      generalize marks E ((pacesOf l).take k) d = r at *
      go_upto_region 8 with (refine wpList_append_sy (o := ⟨some 33, _, _, _, _, _⟩) rfl (hC.out.onil 4 1) 2 1 rfl rfl _ _ _ rfl und_bools info_bools rfl (by omega) rfl rfl (LB_one _) (by omega) (by omega) ?_; intro a3 c3 V5 hV; have hN0 := Lib.hid hV; clear hV)
      refine wp_geny hN0.out ?_
      intro W5 hc
      have hN1 : Hid (Sy w W5 [] [⟨.slice (some ⟨gE, 0, none⟩) E.length c2, 3, 1, E.length, L1 E⟩, ⟨.slice (some ⟨g, 0, none⟩) E.length cR, 4, 1, E.length, LB r⟩, ⟨.slice a3 (0 + E.length) c3, 4, 1, 0 + E.length, [] ++ LB r⟩] []) := Lib.hid hc
      clear hc hN0 hC
      rw [Nat.zero_add, List.nil_append] at hN1
      try rw [Nat.zero_add]
      obtain ⟨g3, rfl, hc3⟩ := hN1.out.oaddr 2 rfl (by omega)
      go_wp2
      go_loopw [13] (fun av wa => ∃ x : Nat, x ≤ E.length ∧ av = .int .i64 x ∧ Hid (Sy w wa [] [⟨.slice (some ⟨gE, 0, none⟩) E.length c2, 3, 1, E.length, L1 E⟩, ⟨.slice (some ⟨g, 0, none⟩) E.length cR, 4, 1, E.length, LB r⟩, ⟨.slice (some ⟨g3, 0, none⟩) E.length c3, 4, 1, E.length, LB (markPart E r (u1 * d) x 0)⟩] [])) (fun av _ => E.length - (intOf av).toNat)
      case atStart => exact ⟨0, Nat.zero_le _, rfl, by rw [mp_start hrl]; exact hN1⟩
      case round =>
        clear hN1
        obtain ⟨x, hx, rfl, hC⟩ := hrel
        by_cases hxl : x < E.length
        · have hxx : (x : Int) < (E.length : Int) := by omega
          have x0 : (0 : Int) ≤ (x : Int) := by omega
          have HEX := Lib.hid (HEB.out x hxl)
          go_wp2
          go_loopw [14] (fun bv wb => ∃ y : Nat, x + 1 ≤ y ∧ y ≤ E.length ∧ bv = .int .i64 y ∧ Hid (Sy w wb [] [⟨.slice (some ⟨gE, 0, none⟩) E.length c2, 3, 1, E.length, L1 E⟩, ⟨.slice (some ⟨g, 0, none⟩) E.length cR, 4, 1, E.length, LB r⟩, ⟨.slice (some ⟨g3, 0, none⟩) E.length c3, 4, 1, E.length, LB (markPart E r (u1 * d) x y)⟩] [])) (fun bv _ => E.length - (intOf bv).toNat)
          case atStart => exact ⟨x + 1, Nat.le_refl _, hxl, by go_num, by rw [mp_inner]; exact hC⟩
          case round =>
            clear hC
            obtain ⟨y, hy0, hy, rfl, hC⟩ := hrel
            by_cases hyl : y < E.length
            · have hyy : (y : Int) < (E.length : Int) := by omega
              have y0 : (0 : Int) ≤ (y : Int) := by omega
              have z0 : wr.cell? ⟨g, x, none⟩ = some (.bool r[x]) := hC.out.rcell 1 rfl (LB_get r x (by omega))
              have z1 : wr.cell? ⟨gE, x, none⟩ = some (.int .i64 E[x]) := hC.out.rcell 0 rfl (L1_get E x hxl)
              have z2 : wr.cell? ⟨gE, y, none⟩ = some (.int .i64 E[y]) := hC.out.rcell 0 rfl (L1_get E y hyl)
              have z3 := HX.out _ hC.out.be
              have HNO := Lib.hid (show (r[x] && decide (E[y] - E[x] ≤ u1 * d)) = false → markPart E r (u1 * d) x (y + 1) = markPart E r (u1 * d) x y from fun h => mp_no (by rw [getD_b (by omega), getD_at hxl, getD_at hyl]; exact h))
              have HYS := Lib.hid (show (r[x] && decide (E[y] - E[x] ≤ u1 * d)) = true → markPart E r (u1 * d) x (y + 1) = (markPart E r (u1 * d) x y).set y true from fun h => mp_yes hy0 (by rw [getD_b (by omega), getD_at hxl, getD_at hyl]; exact h))
              have hex := HEX.out
              have hey := HEB.out y hyl
              have HML := Lib.hid (mp_len E r (u1 * d) x y)
              generalize r[x] = rx at *
              generalize E[x] = ex at *
              generalize E[y] = ey at *
              have w2 : IntKind.i64.wrap (ey - ex) = ey - ex := IntWalk.i64_in _ (by omega)
              cases rx
              · have HG := Lib.hid (HNO.out rfl)
                clear HNO HYS
                go_wp2
                go_quiet (fail)
                have hS1 := Lib.hid (hC.out.call (below_dN (Below.refl _ _) nq))
                go_wp2
                go_roundw
                case rel => exact ⟨y + 1, by omega, by omega, by go_num, by rw [HG.out]; exact hS1⟩
                case measure => simp [intOf]; omega
              · by_cases hle : ey - ex ≤ u1 * d
                · have HG := Lib.hid (HYS.out (by rw [decide_eq_true hle]; rfl))
                  clear HNO HYS
                  go_wp2
                  go_quiet (fail)
                  have hS1 := Lib.hid (hC.out.call (below_dN (Below.refl _ _) nq))
                  clear hC z0 z1 z2 z3
                  obtain ⟨vy, hvy⟩ : ∃ vy, (LB (markPart E r (u1 * d) x y))[y]? = some (.bool vy) := ⟨_, LB_get _ y (by rw [HML.out]; exact hyl)⟩
                  have z4 := hS1.out.rcell 2 rfl hvy
                  have z5 := hS1.out.rfree 2 rfl y
                  have hS2 := Lib.hid (hS1.out.ostore 2 rfl y (.bool true))
                  clear hvy
                  go_wp2
                  go_roundw
                  case rel => exact ⟨y + 1, by omega, by omega, by go_num, by
                    have h := hS2.out
                    rw [LB_set, ← HG.out] at h
                    exact Lib.hid h⟩
                  case measure => simp [intOf]; omega
                · have HG := Lib.hid (HNO.out (by rw [decide_eq_false hle]; rfl))
                  have hld := decide_eq_false hle
                  clear HNO HYS
                  go_wp2
                  go_quiet (fail)
                  have hS1 := Lib.hid (hC.out.call (below_dN (Below.refl _ _) nq))
                  go_wp2
                  go_roundw
                  case rel => exact ⟨y + 1, by omega, by omega, by go_num, by rw [HG.out]; exact hS1⟩
                  case measure => simp [intOf]; omega
            · have hyy : ¬ (y : Int) < (E.length : Int) := by omega
              rw [mp_next (by omega)] at hC
              go_wp2
              go_roundw
              case rel => exact ⟨x + 1, by omega, by go_num, hC⟩
              case measure => simp [intOf]; omega
        · have hxx : ¬ (x : Int) < (E.length : Int) := by omega
          rw [mp_all (by omega), ← HMT.out] at hC
          go_wp2
          go_roundw
          case rel => exact ⟨k + 1, g3, c3, by omega, rfl, by go_num, Lib.hid (hC.out.thin (List.Sublist.refl _) (List.Sublist.cons_cons _ (List.Sublist.cons _ (List.Sublist.refl _))))⟩
          case measure => simp [intOf]; omega
    · have ht : (pacesOf l).take k = pacesOf l := List.take_of_length_le (by simp [pacesOf]; omega)
      rw [ht] at hC hrl
      have hlast : E.length - 1 < (marks E (pacesOf l) d).length := by omega
      have HPO := Lib.hid (show possible E (pacesOf l) d = (marks E (pacesOf l) d)[E.length - 1] from by unfold possible; rw [getD_b hlast])
      have z0 := hC.out.rcell 1 rfl (LB_get _ _ hlast)
      have n1 : (E.length : Int) - 1 = ((E.length - 1 : Nat) : Int) := by omega
      generalize (marks E (pacesOf l) d)[E.length - 1] = an at *
      clear ht
      go_wp2
      go_ret
      exact ⟨ret_bool HPO.out.symm, hC.out.be⟩
set_option maxHeartbeats 4000000 in
set_option maxRecDepth 100000 in
theorem refDays_any (a a' : Option Addr) (n c n' c' : Nat) (L : Int) (F : List Int) (l : List WL) (hs : Sx 1 w a n c (L1 F)) (hs' : Sx 3 w a' n' c' (LW l)) (hR : RightF F L) (hF : F.length ≤ 60) (hl : l.length ≤ 12) (hp : ∀ x ∈ l, 1 ≤ x.2.1 ∧ x.2.1 ≤ 20000) (hRP : RightP (pacesOf l)) :
    Calls Tryz.prog 17 #[.int .i64 L, .slice a n c, .slice a' n' c'] w (Gives (.int .i64 (daysOf F L (pacesOf l))) w) := by
  have hsp := daysOf_spec hR hRP
  have hLL := hR.2.1
  have HPI := Lib.hid (fun (k : Nat) (h0 : 1 ≤ k) (h1 : k ≤ daysOf F L (pacesOf l)) => show possible (allE F L) (pacesOf l) k = decide (k = daysOf F L (pacesOf l)) from by
    have hi := possible_iff (frames := F) (L := L) (days := (k : Int)) hR.2.2 (by omega) (paces := pacesOf l) hRP.nonneg
    by_cases hk : k = daysOf F L (pacesOf l)
    · rw [decide_eq_true hk]; exact hi.2 (by rw [hk]; exact hsp.2.2.1)
    · rw [decide_eq_false hk]
      cases hb : possible (allE F L) (pacesOf l) k
      · rfl
      · exact absurd (hi.1 hb) (hsp.2.2.2 (k : Int) (by omega)))
  have HPA := Lib.hid (fun W (k : Nat) (h0 : k ≤ 1000000) (hV : Below w.heap.size w W) => refPossible_any W a a' n c n' c' L k F l (hs.below hV) (hs'.below hV) hR hF hl hp (by omega) (by omega))
  obtain ⟨hd1, hd2, -⟩ := hsp
  clear hs hs' hR hp hRP
  generalize daysOf F L (pacesOf l) = D at *
  go_enter Tryz.func17, Tryz.ntmps17
  go_wp2
  go_loopw [7] (fun dv wr => ∃ k : Nat, 1 ≤ k ∧ k ≤ D ∧ dv = .int .i64 k ∧ Hid (Sy w wr [] [] [])) (fun dv _ => D - (intOf dv).toNat)
  case atStart => exact ⟨1, Nat.le_refl _, hd1, rfl, Lib.hid (Sy.enter w)⟩
  case round =>
    obtain ⟨k, hk1, hkD, rfl, hC⟩ := hrel
    have HP := Lib.hid (HPA.out wr k (by omega) hC.out.be)
    rw [HPI.out k hk1 hkD] at HP
    by_cases hkk : k = D
    · rw [decide_eq_true hkk] at HP
      have HK := Lib.hid hkk
      clear hkk
      go_wp2_with fail
      refine HP.out.mono ?_
      rintro e V ⟨rfl, hb⟩
      have hB := Lib.hid (hC.out.call hb)
      clear hb
      go_wp2
      go_ret
      exact ⟨ret_int (by rw [HK.out]), hB.out.be⟩
    · rw [decide_eq_false hkk] at HP
      go_wp2_with fail
      refine HP.out.mono ?_
      rintro e V ⟨rfl, hb⟩
      have hB := Lib.hid (hC.out.call hb)
      clear hb
      go_wp2
      go_roundw
      case rel => exact ⟨k + 1, by omega, by omega, by go_num, hB⟩
      case measure => simp [intOf]; omega
end
end Go.Proofs.YteogibpmpppgmaaGreat

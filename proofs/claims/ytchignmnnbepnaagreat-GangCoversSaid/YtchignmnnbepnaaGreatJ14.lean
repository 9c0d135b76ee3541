/- the program's Wall.valid -/
/- sheets and walls found by their names; the program's Plan.sheet, Plan.wall -/
import Derived.Test.YtchignmnnbepnaaGreatJ13
import Derived.Test.YtchignmnnbepnaaGreatJ10
import Derived.Test.YtchignmnnbepnaaGreatJ11
namespace Go.Proofs.YtchignmnnbepnaaGreat
open Go.RowKit
theorem opens_no {l : List Opn} {len H : Int} {i : Nat} (hi : i < l.length) (h : fitsB l[i] len H = false ∨ (l.take i).any (meetsO l[i]) = true) : opensB l len H = false := by
  cases e : opensB l len H
  · rfl
  · have := List.all_eq_true.1 e i (List.mem_range.2 hi)
    rw [List.getElem?_eq_getElem hi] at this
    dsimp only at this
    rcases h with h | h <;> rw [h] at this <;> simp at this
theorem opens_yes {l : List Opn} {len H : Int} (h : ∀ i (hi : i < l.length), fitsB l[i] len H = true ∧ (l.take i).any (meetsO l[i]) = false) : opensB l len H = true := List.all_eq_true.2 fun i hi => by
  have hi := List.mem_range.1 hi
  rw [List.getElem?_eq_getElem hi]
  dsimp only
  rw [(h i hi).1, (h i hi).2]
  rfl
theorem wallB_no {x : Wal} {s : Sht} (h : namedB x.name = false ∨ [(x.len, 1, 100000), ((x.on : Int), 0, 20)].all limB = false ∨ opensB x.ops x.len s.height = false) : wallB x s = false := by
  unfold wallB
  rcases h with h | h | h
  all_goals simp only [h, Bool.false_and, Bool.and_false]
theorem wallB_yes {x : Wal} {s : Sht} (h1 : namedB x.name = true) (h2 : [(x.len, 1, 100000), ((x.on : Int), 0, 20)].all limB = true) (h3 : opensB x.ops x.len s.height = true) : wallB x s = true := by
  unfold wallB
  rw [h1, h2, h3]; rfl
theorem eg_meets : EG 101 := enters_of Tryz.func101 (by kernel_rfl) rfl
theorem info_Wall : (Tryz.prog.info? 91).map (·.size) = some 4 := by kernel_rfl
section
variable (w : World)
set_option maxHeartbeats 16000000 in
set_option maxRecDepth 100000 in
theorem wvalid_any (x : Wal) (s : Sht) (hs : Sx 5 w x.oa x.on x.oc (LO x.ops)) (hm : x.name.size ≤ maxLen) (hk : ∀ o ∈ x.ops, 0 ≤ o.kind ∧ o.kind ≤ 255) (hH : 1 ≤ s.height ∧ s.height ≤ 3000) :
    Calls Tryz.prog 66 #[aW x, aS s] w (Gives (.bool (wallB x s)) w) := by
  obtain ⟨nm, sh, len, oa, on, oc, ops⟩ := x
  dsimp only at hs hm hk
  obtain rfl := hs.nO
  have hcap := hs.cap
  unfold maxLen at hcap
  have HS := Lib.hid hs
  have HM := Lib.hid hm
  have HK := Lib.hid hk
  have HH := Lib.hid hH
  obtain ⟨V, hV⟩ : ∃ V, aS s = V := ⟨_, rfl⟩
  have HV := Lib.hid (show V.cells = (cS s).toArray by rw [← hV]; rfl)
  have HV2 := Lib.hid (show Value.agg (cS s).toArray = V by rw [← hV]; rfl)
  obtain ⟨U, hU⟩ : ∃ U, aW ⟨nm, sh, len, oa, ops.length, oc, ops⟩ = U := ⟨_, rfl⟩
  have HU := Lib.hid (show U.cells = (cWa ⟨nm, sh, len, oa, ops.length, oc, ops⟩).toArray by rw [← hU]; rfl)
  have HU2 := Lib.hid (show Value.agg (cWa ⟨nm, sh, len, oa, ops.length, oc, ops⟩).toArray = U by rw [← hU]; rfl)
  have HFI := Lib.hid (fun W o a b => (show Calls Tryz.prog 99 #[aO o, U, V] W (Gives (.bool (fitsB o len s.height)) W) by rw [← hV, ← hU]; exact fits_any W o ⟨nm, sh, len, oa, ops.length, oc, ops⟩ s a b hH))
  have HNO := Lib.hid (fun h => wallB_no (x := ⟨nm, sh, len, oa, ops.length, oc, ops⟩) (s := s) h)
  have HYES := Lib.hid (fun a b c => wallB_yes (x := ⟨nm, sh, len, oa, ops.length, oc, ops⟩) (s := s) a b c)
  rw [hV, hU]
  clear hV hU hs hm hk hH
  go_enter Tryz.func66, Tryz.ntmps66
  go_upto_region 1 with (first | (refine wpList_bx (o := ⟨some 2, _, _, _, _, _⟩) rfl (Sy.enter w) _ _ rfl (cWa ⟨nm, sh, len, oa, ops.length, oc, ops⟩).toArray HU.out ?_; intro bx V1 h1; have hC1 := Lib.hid h1; clear h1) | (refine wpList_bx (o := ⟨some 3, _, _, _, _, _⟩) rfl hC1.out _ _ rfl (cS s).toArray HV.out ?_; intro bs V2 h2; have hC := Lib.hid h2; clear h2 hC1) | fail)
  have x0 : V2.cell? ⟨bx, 0, none⟩ = some (.string nm) := hC.out.cell 0 0 rfl rfl
  have x2 : V2.cell? ⟨bx, 2, none⟩ = some (.int .i64 len) := hC.out.cell 0 2 rfl rfl
  have x3 : V2.cell? ⟨bx, 3, none⟩ = some (.slice oa ops.length oc) := hC.out.cell 0 3 rfl rfl
  go_wp2_with fail
  refine (planNamed_any _ _ HM.out).mono ?_
  rintro e w4 ⟨rfl, hb⟩
  have hO := Lib.hid (hC.out.call hb)
  clear hb hC x0 x2 x3
  cases hna : namedB nm
  · have HNA := Lib.hid (HNO.out (.inl hna))
    clear hna
    as_aux_lemma =>
      go_wp2
      go_ret
      exact ⟨ret_bool HNA.out.symm, hO.out.be⟩
  have HNA := Lib.hid hna
  clear hna
  have x2 : w4.cell? ⟨bx, 2, none⟩ = some (.int .i64 len) := hO.out.cell 0 2 rfl rfl
  have x3 : w4.cell? ⟨bx, 3, none⟩ = some (.slice oa ops.length oc) := hO.out.cell 0 3 rfl rfl
  go_wp2_with fail
  refine (kept_any _ _ _ _ [(len, 1, 100000), ((ops.length : Int), 0, 20)] ((hO.out.onew w4.heap.size #[.int .i64 len, .int .i64 1, .int .i64 100000, .int .i64 ops.length, .int .i64 0, .int .i64 20] 167 3 2 rfl (by omega) rfl).osx 0 rfl)).mono ?_
  rintro e w5 ⟨rfl, hb⟩
  have hP := Lib.hid ((hO.out.row).call hb)
  clear hb hO x2 x3
  cases hnu : [(len, 1, 100000), ((ops.length : Int), 0, 20)].all limB
  · have HNB := Lib.hid (HNO.out (.inr (.inl hnu)))
    clear hnu
    as_aux_lemma =>
      go_wp2
      go_ret
      exact ⟨ret_bool HNB.out.symm, hP.out.be⟩
  have l1 : 1 ≤ len ∧ len ≤ 100000 := lim_iff.1 (List.all_eq_true.1 hnu (len, 1, 100000) (by simp))
  have l2 : 0 ≤ (ops.length : Int) ∧ (ops.length : Int) ≤ 20 := lim_iff.1 (List.all_eq_true.1 hnu ((ops.length : Int), 0, 20) (by simp))
  have HWY := Lib.hid (fun c => HYES.out HNA.out hnu c)
  have HL1 := Lib.hid l1
  clear hnu l1 HYES HNA
  have x3 : w5.cell? ⟨bx, 3, none⟩ = some (.slice oa ops.length oc) := hP.out.cell 0 3 rfl rfl
  go_wp2
  go_loopw [26] (fun iv wr => ∃ k : Nat, k ≤ ops.length ∧ iv = .int .i64 k ∧ Hid (∀ i (hi : i < ops.length), i < k → fitsB ops[i] len s.height = true ∧ (ops.take i).any (meetsO ops[i]) = false) ∧ Hid (Sy w wr [(bx, (cWa ⟨nm, sh, len, oa, ops.length, oc, ops⟩).toArray, 91), (bs, (cS s).toArray, 92)] [] [])) (fun iv _ => ops.length - (intOf iv).toNat)
  case atStart => exact ⟨0, Nat.zero_le _, rfl, Lib.hid (fun i _ h => absurd h (Nat.not_lt_zero i)), hP⟩
  case round =>
    clear hP x3
    obtain ⟨k, hk, rfl, HI, hC⟩ := hrel
    by_cases hlt : k < ops.length
    · obtain ⟨g0, o0, rfl⟩ := HS.out.addr (by omega)
      have HN := Lib.hid (fun h => HNO.out (.inr (.inr (opens_no hlt h))))
      have HY := Lib.hid (show fitsB ops[k] len s.height = true → (ops.take k).any (meetsO ops[k]) = false → ∀ i (hi : i < ops.length), i < k + 1 → fitsB ops[i] len s.height = true ∧ (ops.take i).any (meetsO ops[i]) = false from fun h1 h2 i hi hik => by
        rcases Nat.lt_or_ge i k with h | h
        · exact HI.out i hi h
        · have : i = k := by omega
          subst this; exact ⟨h1, h2⟩)
      have HSM := Lib.hid (show ∀ q ∈ ops.take k, smallO q from fun q hq => by
        obtain ⟨i, hi, e⟩ := List.mem_take_iff_getElem.1 hq
        rw [← e]
        exact fits_small (HI.out i (by omega) (by omega)).1 HL1.out.2 (by have := HH.out.2; omega))
      have HST := Lib.hid (fun W (h : Below w.heap.size w W) => (show Sx 5 W (some ⟨g0, o0, none⟩) k oc (LO (ops.take k)) by
        have h := (HS.out.below h).take (show k ≤ ops.length by omega)
        rwa [LO_take] at h))
      have HKK := Lib.hid (HK.out ops[k] (List.getElem_mem hlt))
      have HFK := Lib.hid (fun W => HFI.out W ops[k] HKK.out HL1.out)
      have HSO := Lib.hid (show fitsB ops[k] len s.height = true → smallO ops[k] from fun h => fits_small h HL1.out.2 (by have := HH.out.2; omega))
      obtain ⟨y0, y1, y2, y3, y4⟩ := (HS.out.below hC.out.be).atO hlt
      clear HI HK
      obtain ⟨o, ho⟩ : ∃ o, ops[k] = o := ⟨_, rfl⟩
      rw [ho] at HN HY HFK HSO y0 y1 y2 y3 y4
      clear ho HKK HFI HH HNO
      have hkn : k ≤ ops.length := by omega
      have i0 : (0 : Int) ≤ (k : Int) := by omega
      have i1 : (k : Int) < (ops.length : Int) := by omega
      have i2 : k ≤ oc := by omega
      go_upto_region 6 with fail
      have hD6 := Lib.hid (hC.out.al wr.heap.size #[.int .u8 o.kind, .int .i64 o.at_, .int .i64 o.wide, .int .i64 o.fro, .int .i64 o.high] 95 rfl)
      obtain ⟨bo, hbo⟩ : ∃ bo, wr.heap.size = bo := ⟨_, rfl⟩
      rw [hbo] at hD6 ⊢
      refine wp_geny hD6.out ?_
      intro W6 hc
      have hD := Lib.hid hc
      clear hc hD6 hbo hC y0 y1 y2 y3 y4
      cases hf : fitsB o len s.height
      · have HFT := Lib.hid (fun W => by have h := HFK.out W; rw [hf] at h; exact h)
        have HB := Lib.hid (HN.out (.inl hf))
        clear hf HFK HSO HN HY HSM HST
        refine wp_region_held_drew (S := (fun w' => w'.cell? ⟨bo, 0, none⟩ = some (.int .u8 o.kind) ∧ w'.cell? ⟨bo, 1, none⟩ = some (.int .i64 o.at_) ∧ w'.cell? ⟨bo, 2, none⟩ = some (.int .i64 o.wide) ∧ w'.cell? ⟨bo, 3, none⟩ = some (.int .i64 o.fro) ∧ w'.cell? ⟨bo, 4, none⟩ = some (.int .i64 o.high) ∧ w'.rangeAt bx 0 (cWa ⟨nm, sh, len, some ⟨g0, o0, none⟩, ops.length, oc, ops⟩) ∧ w'.rangeAt bs 0 (cS s) ∧ w'.cell? ⟨bx, 3, none⟩ = some (.slice (some ⟨g0, o0, none⟩) ops.length oc) ∧ True)) (by kernel_rfl) ⟨hD.out.drew.cell 2 0 rfl rfl, hD.out.drew.cell 2 1 rfl rfl, hD.out.drew.cell 2 2 rfl rfl, hD.out.drew.cell 2 3 rfl rfl, hD.out.drew.cell 2 4 rfl rfl, hD.out.drew.range 0 rfl, hD.out.drew.range 1 rfl, hD.out.drew.cell 0 3 rfl rfl, trivial⟩ (fun hH => ?_)
        refine wpAnyH_geny (show Sy w _ [(bx, (cWa ⟨nm, sh, len, some ⟨g0, o0, none⟩, ops.length, oc, ops⟩).toArray, 91), (bs, (cS s).toArray, 92), (bo, #[.int .u8 o.kind, .int .i64 o.at_, .int .i64 o.wide, .int .i64 o.fro, .int .i64 o.high], 95)] [] [] from hD.out.drew) hH ?_
        intro VA_0 hc hHA_0
        have hVA_0 := Lib.hid hc
        clear hc hH hD
        refine wpAnyH_take (i := 0) (oi := ⟨_, _, _, _, _, _⟩) (v := ?_) rfl (by kernel_rfl) (by kernel_rfl) (by kernel_rfl) (fun _ _ _ h => h) (Or.inl ⟨by rfl, ?_⟩) hHA_0 ?_
        rotate_left
        · intro wS hSw; (try dsimp only at hSw); go_simp; try with_reducible rfl
        try simp only [Act.put, List.setIfInBounds_toArray, List.set_cons_zero, List.set_cons_succ]
        refine wpAnyH_take (i := 1) (oi := ⟨_, _, _, _, _, _⟩) (v := U) rfl (by kernel_rfl) (by kernel_rfl) (by kernel_rfl) (fun _ _ _ h => h) (yieldsIf_ld (by rfl) _ _ rfl bx 0 rfl (cWa ⟨nm, sh, len, some ⟨g0, o0, none⟩, ops.length, oc, ops⟩) _ (fun _ h => h.2.2.2.2.2.1) Tryz.underlying91 rfl info_Wall U HU2.out) hHA_0 ?_
        try simp only [Act.put, List.setIfInBounds_toArray, List.set_cons_zero, List.set_cons_succ]
        refine wpAnyH_take (i := 2) (oi := ⟨_, _, _, _, _, _⟩) (v := V) rfl (by kernel_rfl) (by kernel_rfl) (by kernel_rfl) (fun _ _ _ h => h) (yieldsIf_ld (by rfl) _ _ rfl bs 0 rfl (cS s) _ (fun _ h => h.2.2.2.2.2.2.1) Tryz.underlying92 rfl info_Sheet V HV2.out) hHA_0 ?_
        try simp only [Act.put, List.setIfInBounds_toArray, List.set_cons_zero, List.set_cons_succ]
        refine wpAnyH_ready (rs := [3]) (by kernel_rfl) (by simp) ?_
        refine AllReadyH.cons (o := ⟨_, _, _, _, _, _⟩) rfl (fun Kq hKq => ?_) AllReadyH.nil
        go_simp
        go_at_call 99
        refine (HFT.out _).mono ?_
        rintro e wT ⟨rfl, hb⟩
        (try go_wp2_with fail)
        refine stepY hKq (show Sy w _ [(bx, (cWa ⟨nm, sh, len, some ⟨g0, o0, none⟩, ops.length, oc, ops⟩).toArray, 91), (bs, (cS s).toArray, 92), (bo, #[.int .u8 o.kind, .int .i64 o.at_, .int .i64 o.wide, .int .i64 o.fro, .int .i64 o.high], 95)] [] [] from (hVA_0.out.call hb)) (fun _ hX => ⟨hX.cell 2 0 rfl rfl, hX.cell 2 1 rfl rfl, hX.cell 2 2 rfl rfl, hX.cell 2 3 rfl rfl, hX.cell 2 4 rfl rfl, hX.range 0 rfl, hX.range 1 rfl, hX.cell 0 3 rfl rfl, trivial⟩) ?_
        intro VA_1 hc hHA_1
        have hVA_1 := Lib.hid hc
        clear hc hKq Kq hVA_0 hb hHA_0
        try simp only [Act.put, List.setIfInBounds_toArray, List.set_cons_zero, List.set_cons_succ]
        refine wpAnyH_take (i := 4) (oi := ⟨_, _, _, _, _, _⟩) (v := ?_) rfl (by kernel_rfl) (by kernel_rfl) (by kernel_rfl) (fun _ _ _ h => h) (Or.inl ⟨by rfl, ?_⟩) hHA_1 ?_
        rotate_left
        · intro wS hSw; (try dsimp only at hSw); go_simp; try with_reducible rfl
        try simp only [Act.put, List.setIfInBounds_toArray, List.set_cons_zero, List.set_cons_succ]
        refine wpAnyH_take (i := 5) (oi := ⟨_, _, _, _, _, _⟩) (v := ?_) rfl (by kernel_rfl) (by kernel_rfl) (by kernel_rfl) (fun _ _ _ h => h) (Or.inl ⟨by rfl, ?_⟩) hHA_1 ?_
        rotate_left
        · intro wS hSw; (try dsimp only at hSw); go_simp; try with_reducible rfl
        try simp only [Act.put, List.setIfInBounds_toArray, List.set_cons_zero, List.set_cons_succ]
        refine wpAnyH_take (i := 6) (oi := ⟨_, _, _, _, _, _⟩) (v := undef) rfl (by kernel_rfl) (by kernel_rfl) (by kernel_rfl) (fun _ _ _ h => h) (Or.inr ⟨by rfl, rfl⟩) hHA_1 ?_
        try simp only [Act.put, List.setIfInBounds_toArray, List.set_cons_zero, List.set_cons_succ]
        refine wpAnyH_take (i := 7) (oi := ⟨_, _, _, _, _, _⟩) (v := undef) rfl (by kernel_rfl) (by kernel_rfl) (by kernel_rfl) (fun _ _ _ h => h) (Or.inr ⟨by rfl, rfl⟩) hHA_1 ?_
        try simp only [Act.put, List.setIfInBounds_toArray, List.set_cons_zero, List.set_cons_succ]
        refine wpAnyH_take (i := 8) (oi := ⟨_, _, _, _, _, _⟩) (v := undef) rfl (by kernel_rfl) (by kernel_rfl) (by kernel_rfl) (fun _ _ _ h => h) (Or.inr ⟨by rfl, rfl⟩) hHA_1 ?_
        try simp only [Act.put, List.setIfInBounds_toArray, List.set_cons_zero, List.set_cons_succ]
        refine wpAnyH_take (i := 9) (oi := ⟨_, _, _, _, _, _⟩) (v := undef) rfl (by kernel_rfl) (by kernel_rfl) (by kernel_rfl) (fun _ _ _ h => h) (Or.inr ⟨by rfl, rfl⟩) hHA_1 ?_
        try simp only [Act.put, List.setIfInBounds_toArray, List.set_cons_zero, List.set_cons_succ]
        refine wpAnyH_take (i := 10) (oi := ⟨_, _, _, _, _, _⟩) (v := undef) rfl (by kernel_rfl) (by kernel_rfl) (by kernel_rfl) (fun _ _ _ h => h) (Or.inr ⟨by rfl, rfl⟩) hHA_1 ?_
        try simp only [Act.put, List.setIfInBounds_toArray, List.set_cons_zero, List.set_cons_succ]
        refine wpAnyH_take (i := 11) (oi := ⟨_, _, _, _, _, _⟩) (v := undef) rfl (by kernel_rfl) (by kernel_rfl) (by kernel_rfl) (fun _ _ _ h => h) (Or.inr ⟨by rfl, rfl⟩) hHA_1 ?_
        try simp only [Act.put, List.setIfInBounds_toArray, List.set_cons_zero, List.set_cons_succ]
        refine wpAnyH_take (i := 12) (oi := ⟨_, _, _, _, _, _⟩) (v := undef) rfl (by kernel_rfl) (by kernel_rfl) (by kernel_rfl) (fun _ _ _ h => h) (Or.inr ⟨by rfl, rfl⟩) hHA_1 ?_
        try simp only [Act.put, List.setIfInBounds_toArray, List.set_cons_zero, List.set_cons_succ]
        refine wpAnyH_take (i := 13) (oi := ⟨_, _, _, _, _, _⟩) (v := ?_) rfl (by kernel_rfl) (by kernel_rfl) (by kernel_rfl) (fun _ _ _ h => h) (Or.inl ⟨by rfl, ?_⟩) hHA_1 ?_
        rotate_left
        · intro wS hSw; (try dsimp only at hSw); go_simp; try with_reducible rfl
        try simp only [Act.put, List.setIfInBounds_toArray, List.set_cons_zero, List.set_cons_succ]
        refine wpAnyH_done (by kernel_rfl) ?_ _
        go_wp2
        go_ret
        exact ⟨ret_bool HB.out.symm, hVA_1.out.be⟩
      have HFT := Lib.hid (fun W => by have h := HFK.out W; rw [hf] at h; exact h)
      have HS0 := Lib.hid (HSO.out hf)
      have HYF := Lib.hid (HY.out hf)
      clear hf HFK HSO HY
      cases ha : (ops.take k).any (meetsO o)
      · have HB := Lib.hid (HYF.out ha)
        have HCF := Lib.hid (fun W h => by have h := containsFunc_Opening _ _ _ _ 101 (aO o) (meetsO o) W (HST.out W h) eg_meets (fun W' _ q hq => meets_any W' o q HS0.out (HSM.out q hq)); rw [ha] at h; exact h)
        clear ha HN HYF HSM HST HS0
        refine wp_region_held_drew (S := (fun w' => w'.cell? ⟨bo, 0, none⟩ = some (.int .u8 o.kind) ∧ w'.cell? ⟨bo, 1, none⟩ = some (.int .i64 o.at_) ∧ w'.cell? ⟨bo, 2, none⟩ = some (.int .i64 o.wide) ∧ w'.cell? ⟨bo, 3, none⟩ = some (.int .i64 o.fro) ∧ w'.cell? ⟨bo, 4, none⟩ = some (.int .i64 o.high) ∧ w'.rangeAt bx 0 (cWa ⟨nm, sh, len, some ⟨g0, o0, none⟩, ops.length, oc, ops⟩) ∧ w'.rangeAt bs 0 (cS s) ∧ w'.cell? ⟨bx, 3, none⟩ = some (.slice (some ⟨g0, o0, none⟩) ops.length oc) ∧ True)) (by kernel_rfl) ⟨hD.out.drew.cell 2 0 rfl rfl, hD.out.drew.cell 2 1 rfl rfl, hD.out.drew.cell 2 2 rfl rfl, hD.out.drew.cell 2 3 rfl rfl, hD.out.drew.cell 2 4 rfl rfl, hD.out.drew.range 0 rfl, hD.out.drew.range 1 rfl, hD.out.drew.cell 0 3 rfl rfl, trivial⟩ (fun hH => ?_)
        refine wpAnyH_geny (show Sy w _ [(bx, (cWa ⟨nm, sh, len, some ⟨g0, o0, none⟩, ops.length, oc, ops⟩).toArray, 91), (bs, (cS s).toArray, 92), (bo, #[.int .u8 o.kind, .int .i64 o.at_, .int .i64 o.wide, .int .i64 o.fro, .int .i64 o.high], 95)] [] [] from hD.out.drew) hH ?_
        intro VC_0 hc hHC_0
        have hVC_0 := Lib.hid hc
        clear hc hH hD
        refine wpAnyH_take (i := 0) (oi := ⟨_, _, _, _, _, _⟩) (v := ?_) rfl (by kernel_rfl) (by kernel_rfl) (by kernel_rfl) (fun _ _ _ h => h) (Or.inl ⟨by rfl, ?_⟩) hHC_0 ?_
        rotate_left
        · intro wS hSw; (try dsimp only at hSw); go_simp; try with_reducible rfl
        try simp only [Act.put, List.setIfInBounds_toArray, List.set_cons_zero, List.set_cons_succ]
        refine wpAnyH_take (i := 1) (oi := ⟨_, _, _, _, _, _⟩) (v := U) rfl (by kernel_rfl) (by kernel_rfl) (by kernel_rfl) (fun _ _ _ h => h) (yieldsIf_ld (by rfl) _ _ rfl bx 0 rfl (cWa ⟨nm, sh, len, some ⟨g0, o0, none⟩, ops.length, oc, ops⟩) _ (fun _ h => h.2.2.2.2.2.1) Tryz.underlying91 rfl info_Wall U HU2.out) hHC_0 ?_
        try simp only [Act.put, List.setIfInBounds_toArray, List.set_cons_zero, List.set_cons_succ]
        refine wpAnyH_take (i := 2) (oi := ⟨_, _, _, _, _, _⟩) (v := V) rfl (by kernel_rfl) (by kernel_rfl) (by kernel_rfl) (fun _ _ _ h => h) (yieldsIf_ld (by rfl) _ _ rfl bs 0 rfl (cS s) _ (fun _ h => h.2.2.2.2.2.2.1) Tryz.underlying92 rfl info_Sheet V HV2.out) hHC_0 ?_
        try simp only [Act.put, List.setIfInBounds_toArray, List.set_cons_zero, List.set_cons_succ]
        refine wpAnyH_ready (rs := [3]) (by kernel_rfl) (by simp) ?_
        refine AllReadyH.cons (o := ⟨_, _, _, _, _, _⟩) rfl (fun Kq hKq => ?_) AllReadyH.nil
        go_simp
        go_at_call 99
        refine (HFT.out _).mono ?_
        rintro e wT ⟨rfl, hb⟩
        (try go_wp2_with fail)
        refine stepY hKq (show Sy w _ [(bx, (cWa ⟨nm, sh, len, some ⟨g0, o0, none⟩, ops.length, oc, ops⟩).toArray, 91), (bs, (cS s).toArray, 92), (bo, #[.int .u8 o.kind, .int .i64 o.at_, .int .i64 o.wide, .int .i64 o.fro, .int .i64 o.high], 95)] [] [] from (hVC_0.out.call hb)) (fun _ hX => ⟨hX.cell 2 0 rfl rfl, hX.cell 2 1 rfl rfl, hX.cell 2 2 rfl rfl, hX.cell 2 3 rfl rfl, hX.cell 2 4 rfl rfl, hX.range 0 rfl, hX.range 1 rfl, hX.cell 0 3 rfl rfl, trivial⟩) ?_
        intro VC_1 hc hHC_1
        have hVC_1 := Lib.hid hc
        clear hc hKq Kq hVC_0 hb hHC_0
        try simp only [Act.put, List.setIfInBounds_toArray, List.set_cons_zero, List.set_cons_succ]
        refine wpAnyH_take (i := 4) (oi := ⟨_, _, _, _, _, _⟩) (v := ?_) rfl (by kernel_rfl) (by kernel_rfl) (by kernel_rfl) (fun _ _ _ h => h) (Or.inl ⟨by rfl, ?_⟩) hHC_1 ?_
        rotate_left
        · intro wS hSw; (try dsimp only at hSw); go_simp; try with_reducible rfl
        try simp only [Act.put, List.setIfInBounds_toArray, List.set_cons_zero, List.set_cons_succ]
        refine wpAnyH_take (i := 5) (oi := ⟨_, _, _, _, _, _⟩) (v := ?_) rfl (by kernel_rfl) (by kernel_rfl) (by kernel_rfl) (fun _ _ _ h => h) (Or.inl ⟨by rfl, ?_⟩) hHC_1 ?_
        rotate_left
        · intro wS hSw; (try dsimp only at hSw); go_simp; try with_reducible rfl
        try simp only [Act.put, List.setIfInBounds_toArray, List.set_cons_zero, List.set_cons_succ]
        refine wpAnyH_take (i := 6) (oi := ⟨_, _, _, _, _, _⟩) (v := ?_) rfl (by kernel_rfl) (by kernel_rfl) (by kernel_rfl) (fun _ _ _ h => h) (Or.inl ⟨by rfl, ?_⟩) hHC_1 ?_
        rotate_left
        · intro wS hSw; (try dsimp only at hSw); go_simp; try with_reducible rfl
        try simp only [Act.put, List.setIfInBounds_toArray, List.set_cons_zero, List.set_cons_succ]
        refine wpAnyH_take (i := 7) (oi := ⟨_, _, _, _, _, _⟩) (v := ?_) rfl (by kernel_rfl) (by kernel_rfl) (by kernel_rfl) (fun _ _ _ h => h) (Or.inl ⟨by rfl, ?_⟩) hHC_1 ?_
        rotate_left
        · intro wS hSw; (try dsimp only at hSw); go_simp; try with_reducible rfl
        try simp only [Act.put, List.setIfInBounds_toArray, List.set_cons_zero, List.set_cons_succ]
        refine wpAnyH_take (i := 8) (oi := ⟨_, _, _, _, _, _⟩) (v := ?_) rfl (by kernel_rfl) (by kernel_rfl) (by kernel_rfl) (fun _ _ _ h => h) (Or.inl ⟨by rfl, ?_⟩) hHC_1 ?_
        rotate_left
        · intro wS hSw; (try dsimp only at hSw); go_simp; try with_reducible rfl
        try simp only [Act.put, List.setIfInBounds_toArray, List.set_cons_zero, List.set_cons_succ]
        refine wpAnyH_take (i := 9) (oi := ⟨_, _, _, _, _, _⟩) (v := ?_) rfl (by kernel_rfl) (by kernel_rfl) (by kernel_rfl) (fun _ _ _ h => h) (Or.inl ⟨by rfl, ?_⟩) hHC_1 ?_
        rotate_left
        · intro wS hSw; (try dsimp only at hSw); go_simp; try with_reducible rfl
        try simp only [Act.put, List.setIfInBounds_toArray, List.set_cons_zero, List.set_cons_succ]
        refine wpAnyH_take (i := 10) (oi := ⟨_, _, _, _, _, _⟩) (v := ?_) rfl (by kernel_rfl) (by kernel_rfl) (by kernel_rfl) (fun _ _ _ h => h) (Or.inl ⟨by rfl, ?_⟩) hHC_1 ?_
        rotate_left
        · intro wS hSw; (try dsimp only at hSw); go_simp; try with_reducible rfl
        try simp only [Act.put, List.setIfInBounds_toArray, List.set_cons_zero, List.set_cons_succ]
        refine wpAnyH_take (i := 11) (oi := ⟨_, _, _, _, _, _⟩) (v := ?_) rfl (by kernel_rfl) (by kernel_rfl) (by kernel_rfl) (fun _ _ _ h => h) (Or.inl ⟨by rfl, ?_⟩) hHC_1 ?_
        rotate_left
        · intro wS hSw; (try dsimp only at hSw); go_simp; try with_reducible rfl
        try simp only [Act.put, List.setIfInBounds_toArray, List.set_cons_zero, List.set_cons_succ]
        refine wpAnyH_ready (rs := [12]) (by kernel_rfl) (by simp) ?_
        refine AllReadyH.cons (o := ⟨_, _, _, _, _, _⟩) rfl (fun Kq hKq => ?_) AllReadyH.nil
        go_simp
        go_at_call 100
        refine (HCF.out _ hVC_1.out.be).mono ?_
        rintro e wT ⟨rfl, hb⟩
        (try go_wp2_with fail)
        refine stepY hKq (show Sy w _ [(bx, (cWa ⟨nm, sh, len, some ⟨g0, o0, none⟩, ops.length, oc, ops⟩).toArray, 91), (bs, (cS s).toArray, 92), (bo, #[.int .u8 o.kind, .int .i64 o.at_, .int .i64 o.wide, .int .i64 o.fro, .int .i64 o.high], 95)] [] [] from (hVC_1.out.call hb)) (fun _ hX => ⟨hX.cell 2 0 rfl rfl, hX.cell 2 1 rfl rfl, hX.cell 2 2 rfl rfl, hX.cell 2 3 rfl rfl, hX.cell 2 4 rfl rfl, hX.range 0 rfl, hX.range 1 rfl, hX.cell 0 3 rfl rfl, trivial⟩) ?_
        intro VC_2 hc hHC_2
        have hVC_2 := Lib.hid hc
        clear hc hKq Kq hVC_1 hb hHC_1
        try simp only [Act.put, List.setIfInBounds_toArray, List.set_cons_zero, List.set_cons_succ]
        refine wpAnyH_take (i := 13) (oi := ⟨_, _, _, _, _, _⟩) (v := ?_) rfl (by kernel_rfl) (by kernel_rfl) (by kernel_rfl) (fun _ _ _ h => h) (Or.inl ⟨by rfl, ?_⟩) hHC_2 ?_
        rotate_left
        · intro wS hSw; (try dsimp only at hSw); go_simp; try with_reducible rfl
        try simp only [Act.put, List.setIfInBounds_toArray, List.set_cons_zero, List.set_cons_succ]
        refine wpAnyH_done (by kernel_rfl) ?_ _
        go_wp2
        go_roundw
        case rel => exact ⟨k + 1, by omega, by go_num, HB, Lib.hid (hVC_2.out.thin (List.Sublist.cons_cons _ (List.Sublist.cons_cons _ (List.nil_sublist _))) (List.Sublist.refl _))⟩
        case measure => simp [intOf]; omega
      · have HB := Lib.hid (HN.out (.inr ha))
        have HCF := Lib.hid (fun W h => by have h := containsFunc_Opening _ _ _ _ 101 (aO o) (meetsO o) W (HST.out W h) eg_meets (fun W' _ q hq => meets_any W' o q HS0.out (HSM.out q hq)); rw [ha] at h; exact h)
        clear ha HN HYF HSM HST HS0
        refine wp_region_held_drew (S := (fun w' => w'.cell? ⟨bo, 0, none⟩ = some (.int .u8 o.kind) ∧ w'.cell? ⟨bo, 1, none⟩ = some (.int .i64 o.at_) ∧ w'.cell? ⟨bo, 2, none⟩ = some (.int .i64 o.wide) ∧ w'.cell? ⟨bo, 3, none⟩ = some (.int .i64 o.fro) ∧ w'.cell? ⟨bo, 4, none⟩ = some (.int .i64 o.high) ∧ w'.rangeAt bx 0 (cWa ⟨nm, sh, len, some ⟨g0, o0, none⟩, ops.length, oc, ops⟩) ∧ w'.rangeAt bs 0 (cS s) ∧ w'.cell? ⟨bx, 3, none⟩ = some (.slice (some ⟨g0, o0, none⟩) ops.length oc) ∧ True)) (by kernel_rfl) ⟨hD.out.drew.cell 2 0 rfl rfl, hD.out.drew.cell 2 1 rfl rfl, hD.out.drew.cell 2 2 rfl rfl, hD.out.drew.cell 2 3 rfl rfl, hD.out.drew.cell 2 4 rfl rfl, hD.out.drew.range 0 rfl, hD.out.drew.range 1 rfl, hD.out.drew.cell 0 3 rfl rfl, trivial⟩ (fun hH => ?_)
        refine wpAnyH_geny (show Sy w _ [(bx, (cWa ⟨nm, sh, len, some ⟨g0, o0, none⟩, ops.length, oc, ops⟩).toArray, 91), (bs, (cS s).toArray, 92), (bo, #[.int .u8 o.kind, .int .i64 o.at_, .int .i64 o.wide, .int .i64 o.fro, .int .i64 o.high], 95)] [] [] from hD.out.drew) hH ?_
        intro VB_0 hc hHB_0
        have hVB_0 := Lib.hid hc
        clear hc hH hD
        refine wpAnyH_take (i := 0) (oi := ⟨_, _, _, _, _, _⟩) (v := ?_) rfl (by kernel_rfl) (by kernel_rfl) (by kernel_rfl) (fun _ _ _ h => h) (Or.inl ⟨by rfl, ?_⟩) hHB_0 ?_
        rotate_left
        · intro wS hSw; (try dsimp only at hSw); go_simp; try with_reducible rfl
        try simp only [Act.put, List.setIfInBounds_toArray, List.set_cons_zero, List.set_cons_succ]
        refine wpAnyH_take (i := 1) (oi := ⟨_, _, _, _, _, _⟩) (v := U) rfl (by kernel_rfl) (by kernel_rfl) (by kernel_rfl) (fun _ _ _ h => h) (yieldsIf_ld (by rfl) _ _ rfl bx 0 rfl (cWa ⟨nm, sh, len, some ⟨g0, o0, none⟩, ops.length, oc, ops⟩) _ (fun _ h => h.2.2.2.2.2.1) Tryz.underlying91 rfl info_Wall U HU2.out) hHB_0 ?_
        try simp only [Act.put, List.setIfInBounds_toArray, List.set_cons_zero, List.set_cons_succ]
        refine wpAnyH_take (i := 2) (oi := ⟨_, _, _, _, _, _⟩) (v := V) rfl (by kernel_rfl) (by kernel_rfl) (by kernel_rfl) (fun _ _ _ h => h) (yieldsIf_ld (by rfl) _ _ rfl bs 0 rfl (cS s) _ (fun _ h => h.2.2.2.2.2.2.1) Tryz.underlying92 rfl info_Sheet V HV2.out) hHB_0 ?_
        try simp only [Act.put, List.setIfInBounds_toArray, List.set_cons_zero, List.set_cons_succ]
        refine wpAnyH_ready (rs := [3]) (by kernel_rfl) (by simp) ?_
        refine AllReadyH.cons (o := ⟨_, _, _, _, _, _⟩) rfl (fun Kq hKq => ?_) AllReadyH.nil
        go_simp
        go_at_call 99
        refine (HFT.out _).mono ?_
        rintro e wT ⟨rfl, hb⟩
        (try go_wp2_with fail)
        refine stepY hKq (show Sy w _ [(bx, (cWa ⟨nm, sh, len, some ⟨g0, o0, none⟩, ops.length, oc, ops⟩).toArray, 91), (bs, (cS s).toArray, 92), (bo, #[.int .u8 o.kind, .int .i64 o.at_, .int .i64 o.wide, .int .i64 o.fro, .int .i64 o.high], 95)] [] [] from (hVB_0.out.call hb)) (fun _ hX => ⟨hX.cell 2 0 rfl rfl, hX.cell 2 1 rfl rfl, hX.cell 2 2 rfl rfl, hX.cell 2 3 rfl rfl, hX.cell 2 4 rfl rfl, hX.range 0 rfl, hX.range 1 rfl, hX.cell 0 3 rfl rfl, trivial⟩) ?_
        intro VB_1 hc hHB_1
        have hVB_1 := Lib.hid hc
        clear hc hKq Kq hVB_0 hb hHB_0
        try simp only [Act.put, List.setIfInBounds_toArray, List.set_cons_zero, List.set_cons_succ]
        refine wpAnyH_take (i := 4) (oi := ⟨_, _, _, _, _, _⟩) (v := ?_) rfl (by kernel_rfl) (by kernel_rfl) (by kernel_rfl) (fun _ _ _ h => h) (Or.inl ⟨by rfl, ?_⟩) hHB_1 ?_
        rotate_left
        · intro wS hSw; (try dsimp only at hSw); go_simp; try with_reducible rfl
        try simp only [Act.put, List.setIfInBounds_toArray, List.set_cons_zero, List.set_cons_succ]
        refine wpAnyH_take (i := 5) (oi := ⟨_, _, _, _, _, _⟩) (v := ?_) rfl (by kernel_rfl) (by kernel_rfl) (by kernel_rfl) (fun _ _ _ h => h) (Or.inl ⟨by rfl, ?_⟩) hHB_1 ?_
        rotate_left
        · intro wS hSw; (try dsimp only at hSw); go_simp; try with_reducible rfl
        try simp only [Act.put, List.setIfInBounds_toArray, List.set_cons_zero, List.set_cons_succ]
        refine wpAnyH_take (i := 6) (oi := ⟨_, _, _, _, _, _⟩) (v := ?_) rfl (by kernel_rfl) (by kernel_rfl) (by kernel_rfl) (fun _ _ _ h => h) (Or.inl ⟨by rfl, ?_⟩) hHB_1 ?_
        rotate_left
        · intro wS hSw; (try dsimp only at hSw); go_simp; try with_reducible rfl
        try simp only [Act.put, List.setIfInBounds_toArray, List.set_cons_zero, List.set_cons_succ]
        refine wpAnyH_take (i := 7) (oi := ⟨_, _, _, _, _, _⟩) (v := ?_) rfl (by kernel_rfl) (by kernel_rfl) (by kernel_rfl) (fun _ _ _ h => h) (Or.inl ⟨by rfl, ?_⟩) hHB_1 ?_
        rotate_left
        · intro wS hSw; (try dsimp only at hSw); go_simp; try with_reducible rfl
        try simp only [Act.put, List.setIfInBounds_toArray, List.set_cons_zero, List.set_cons_succ]
        refine wpAnyH_take (i := 8) (oi := ⟨_, _, _, _, _, _⟩) (v := ?_) rfl (by kernel_rfl) (by kernel_rfl) (by kernel_rfl) (fun _ _ _ h => h) (Or.inl ⟨by rfl, ?_⟩) hHB_1 ?_
        rotate_left
        · intro wS hSw; (try dsimp only at hSw); go_simp; try with_reducible rfl
        try simp only [Act.put, List.setIfInBounds_toArray, List.set_cons_zero, List.set_cons_succ]
        refine wpAnyH_take (i := 9) (oi := ⟨_, _, _, _, _, _⟩) (v := ?_) rfl (by kernel_rfl) (by kernel_rfl) (by kernel_rfl) (fun _ _ _ h => h) (Or.inl ⟨by rfl, ?_⟩) hHB_1 ?_
        rotate_left
        · intro wS hSw; (try dsimp only at hSw); go_simp; try with_reducible rfl
        try simp only [Act.put, List.setIfInBounds_toArray, List.set_cons_zero, List.set_cons_succ]
        refine wpAnyH_take (i := 10) (oi := ⟨_, _, _, _, _, _⟩) (v := ?_) rfl (by kernel_rfl) (by kernel_rfl) (by kernel_rfl) (fun _ _ _ h => h) (Or.inl ⟨by rfl, ?_⟩) hHB_1 ?_
        rotate_left
        · intro wS hSw; (try dsimp only at hSw); go_simp; try with_reducible rfl
        try simp only [Act.put, List.setIfInBounds_toArray, List.set_cons_zero, List.set_cons_succ]
        refine wpAnyH_take (i := 11) (oi := ⟨_, _, _, _, _, _⟩) (v := ?_) rfl (by kernel_rfl) (by kernel_rfl) (by kernel_rfl) (fun _ _ _ h => h) (Or.inl ⟨by rfl, ?_⟩) hHB_1 ?_
        rotate_left
        · intro wS hSw; (try dsimp only at hSw); go_simp; try with_reducible rfl
        try simp only [Act.put, List.setIfInBounds_toArray, List.set_cons_zero, List.set_cons_succ]
        refine wpAnyH_ready (rs := [12]) (by kernel_rfl) (by simp) ?_
        refine AllReadyH.cons (o := ⟨_, _, _, _, _, _⟩) rfl (fun Kq hKq => ?_) AllReadyH.nil
        go_simp
        go_at_call 100
        refine (HCF.out _ hVB_1.out.be).mono ?_
        rintro e wT ⟨rfl, hb⟩
        (try go_wp2_with fail)
        refine stepY hKq (show Sy w _ [(bx, (cWa ⟨nm, sh, len, some ⟨g0, o0, none⟩, ops.length, oc, ops⟩).toArray, 91), (bs, (cS s).toArray, 92), (bo, #[.int .u8 o.kind, .int .i64 o.at_, .int .i64 o.wide, .int .i64 o.fro, .int .i64 o.high], 95)] [] [] from (hVB_1.out.call hb)) (fun _ hX => ⟨hX.cell 2 0 rfl rfl, hX.cell 2 1 rfl rfl, hX.cell 2 2 rfl rfl, hX.cell 2 3 rfl rfl, hX.cell 2 4 rfl rfl, hX.range 0 rfl, hX.range 1 rfl, hX.cell 0 3 rfl rfl, trivial⟩) ?_
        intro VB_2 hc hHB_2
        have hVB_2 := Lib.hid hc
        clear hc hKq Kq hVB_1 hb hHB_1
        try simp only [Act.put, List.setIfInBounds_toArray, List.set_cons_zero, List.set_cons_succ]
        refine wpAnyH_take (i := 13) (oi := ⟨_, _, _, _, _, _⟩) (v := ?_) rfl (by kernel_rfl) (by kernel_rfl) (by kernel_rfl) (fun _ _ _ h => h) (Or.inl ⟨by rfl, ?_⟩) hHB_2 ?_
        rotate_left
        · intro wS hSw; (try dsimp only at hSw); go_simp; try with_reducible rfl
        try simp only [Act.put, List.setIfInBounds_toArray, List.set_cons_zero, List.set_cons_succ]
        refine wpAnyH_done (by kernel_rfl) ?_ _
        go_wp2
        go_ret
        exact ⟨ret_bool HB.out.symm, hVB_2.out.be⟩
    · have hkk : ¬ (k : Int) < (ops.length : Int) := by omega
      have HB := Lib.hid (HWY.out (opens_yes (fun i hi => HI.out i hi (by omega))))
      go_wp2
      go_ret
      exact ⟨ret_bool HB.out.symm, hC.out.be⟩
end
end Go.Proofs.YtchignmnnbepnaaGreat
namespace Go.Proofs.YtchignmnnbepnaaGreat
open Go.RowKit
def isS (nm : ByteArray) (s : Sht) : Bool := s.name.toList == nm.toList
def isW (nm : ByteArray) (x : Wal) : Bool := x.name.toList == nm.toList
/-- a sheet of nothing, a wall of nothing -/
def zC : List Value := [.string ⟨#[]⟩, .int .i64 0, .int .i64 0, .int .i64 0, .int .i64 0, .slice none 0 0, .int .i64 0, .int .i64 0, .int .i64 0, .int .i64 0, .int .i64 0, .int .i64 0, .int .i64 0, .int .u8 0, .int .i64 0, .int .i64 0, .int .i64 0, .int .i64 0, .int .i64 0, .int .i64 0]
def zS : Value := .agg zC.toArray
theorem zero_Sheet : (Tryz.prog.info? 92).map (·.zero) = some (some zS) := by kernel_rfl
/-- what is found -/
def theS (nm : ByteArray) (l : List Sht) : List Value × Bool := match l.find? (isS nm) with
  | some s => (cS s, true)
  | none => (zC, false)
theorem find_idx {α : Type} {p : α → Bool} {l : List α} : (idxB p l = -1 ∧ l.find? p = none) ∨ ∃ k, ∃ h : k < l.length, idxB p l = k ∧ l.find? p = some l[k] ∧ p l[k] = true := by
  rcases idxB_cases p l with ⟨h1, h2⟩ | ⟨k, hk, h1, h2, h3⟩
  · exact .inl ⟨h1, List.find?_eq_none.2 fun x hx => by obtain ⟨i, hi, rfl⟩ := List.getElem_of_mem hx; rw [h2 i hi]; simp⟩
  · refine .inr ⟨k, hk, h1, ?_, h2⟩
    rw [List.find?_eq_some_iff_append]
    exact ⟨h2, l.take k, l.drop (k + 1), by rw [List.getElem_cons_drop, List.take_append_drop], fun x hx => by
      obtain ⟨i, hi, rfl⟩ := List.mem_take_iff_getElem.1 hx
      simp [h3 i (by omega) (by omega)]⟩
theorem cS_one (s : Sht) : (cS s).toArray.all (·.oneCell') = true := by simp [cS, Value.oneCell']
theorem zC_one : zC.toArray.all (·.oneCell') = true := by simp [zC, Value.oneCell']
section
variable (w : World)
set_option maxHeartbeats 4000000 in
set_option maxRecDepth 100000 in
theorem sheet1_any (s : Sht) (bn : Nat) (nm : ByteArray) (hb : w.cell? ⟨bn, 0, none⟩ = some (.string nm)) (hl : bn < w.heap.size) : Calls Tryz.prog 90 #[aS s, .pointer (some ⟨bn, 0, none⟩)] w (Gives (.bool (isS nm s)) w) := by
  obtain ⟨V, hV⟩ : ∃ V, aS s = V := ⟨_, rfl⟩
  have HV := Lib.hid (show V.cells = (cS s).toArray by rw [← hV]; rfl)
  rw [hV]
  clear hV
  have HB := Lib.hid (fun W (h : Below w.heap.size w W) => (h.cell (p := ⟨bn, 0, none⟩) hl).trans hb)
  clear hb
  go_enter Tryz.func90, Tryz.ntmps90
  go_upto_region 1 with (refine wpList_bx (o := ⟨some 2, _, _, _, _, _⟩) rfl (Sy.enter w) _ _ rfl (cS s).toArray HV.out ?_; intro b V2 h2; have hC := Lib.hid h2; clear h2)
  have x0 : V2.cell? ⟨b, 0, none⟩ = some (.string s.name) := hC.out.cell 0 0 rfl rfl
  have y0 := HB.out _ hC.out.be
  go_wp2
  go_ret
  exact ⟨rfl, hC.out.be⟩
set_option maxHeartbeats 4000000 in
set_option maxRecDepth 100000 in
theorem wall1_any (x : Wal) (bn : Nat) (nm : ByteArray) (hb : w.cell? ⟨bn, 0, none⟩ = some (.string nm)) (hl : bn < w.heap.size) : Calls Tryz.prog 98 #[aW x, .pointer (some ⟨bn, 0, none⟩)] w (Gives (.bool (isW nm x)) w) := by
  obtain ⟨V, hV⟩ : ∃ V, aW x = V := ⟨_, rfl⟩
  have HV := Lib.hid (show V.cells = (cWa x).toArray by rw [← hV]; rfl)
  rw [hV]
  clear hV
  have HB := Lib.hid (fun W (h : Below w.heap.size w W) => (h.cell (p := ⟨bn, 0, none⟩) hl).trans hb)
  clear hb
  go_enter Tryz.func98, Tryz.ntmps98
  go_upto_region 1 with (refine wpList_bx (o := ⟨some 2, _, _, _, _, _⟩) rfl (Sy.enter w) _ _ rfl (cWa x).toArray HV.out ?_; intro b V2 h2; have hC := Lib.hid h2; clear h2)
  have x0 : V2.cell? ⟨b, 0, none⟩ = some (.string x.name) := hC.out.cell 0 0 rfl rfl
  have y0 := HB.out _ hC.out.be
  go_wp2
  go_ret
  exact ⟨rfl, hC.out.be⟩
theorem eg_sheet1 : EG 90 := enters_of Tryz.func90 (by kernel_rfl) rfl
theorem eg_wall1 : EG 98 := enters_of Tryz.func98 (by kernel_rfl) rfl
def RetTheS (w : World) (nm : ByteArray) (l : List Sht) (e : Ending) (w' : World) : Prop := e = .returned (.tuple #[.agg (theS nm l).1.toArray, .bool (theS nm l).2]) ∧ Below w.heap.size w w'
set_option maxHeartbeats 8000000 in
set_option maxRecDepth 100000 in
theorem pwall_any (sl : Value) (a : Option Addr) (n c : Nat) (l : List Wal) (nm : ByteArray) (hs : Sx 4 w a n c (LWa l)) : Calls Tryz.prog 65 #[.agg #[sl, .slice a n c], .string nm] w (Gives (.int .i64 (idxB (isW nm) l)) w) := by
  have HS := Lib.hid hs
  clear hs
  go_enter Tryz.func65, Tryz.ntmps65
  have hC := Lib.hid (((Sy.enter w).al w.heap.size #[sl, .slice a n c] 38 rfl).al (w.heap.size + 1) #[.string nm] 9 (by simp))
  have HI := Lib.hid (fun W bn h0 h1 h2 => indexFunc_Wall a n c l 98 #[.pointer (some ⟨bn, 0, none⟩)] (isW nm) W h0 eg_wall1 (fun W' hW x _ => wall1_any W' x bn nm ((hW.cell (p := ⟨bn, 0, none⟩) h1).trans h2) (Nat.lt_of_lt_of_le h1 hW.size)))
  generalize idxB (isW nm) l = r at *
  go_wp2_with fail
  refine (HI.out _ _ (hC.out.sx HS.out) (hC.out.lt 1 rfl) (hC.out.cell 1 0 rfl rfl)).mono ?_
  rintro e w3 ⟨rfl, hb⟩
  have hD := Lib.hid (hC.out.call hb)
  clear hb hC
  go_wp2
  go_ret
  exact ⟨rfl, hD.out.be⟩
set_option maxHeartbeats 16000000 in
set_option maxRecDepth 100000 in
theorem psheet_any (a : Option Addr) (n c : Nat) (l : List Sht) (wl : Value) (nm : ByteArray) (hs : Sx 20 w a n c (LS l)) : Calls Tryz.prog 63 #[.agg #[.slice a n c, wl], .string nm] w (RetTheS w nm l) := by
  obtain rfl := hs.nS
  have hcap := hs.cap
  unfold maxLen at hcap
  have HS := Lib.hid hs
  clear hs
  unfold RetTheS
  have HI := Lib.hid (fun W bn h0 h1 h2 => indexFunc_Sheet a l.length c l 90 #[.pointer (some ⟨bn, 0, none⟩)] (isS nm) W h0 eg_sheet1 (fun W' hW x _ => sheet1_any W' x bn nm ((hW.cell (p := ⟨bn, 0, none⟩) h1).trans h2) (Nat.lt_of_lt_of_le h1 hW.size)))
  rcases find_idx (p := isS nm) (l := l) with ⟨h1, h2⟩ | ⟨k, hk, h1, h2, _⟩
  · have HT := Lib.hid (show theS nm l = (zC, false) by unfold theS; rw [h2])
    rw [h1] at HI
    clear h1 h2
    go_enter Tryz.func63, Tryz.ntmps63
    have hC0 := Lib.hid (((Sy.enter w).al w.heap.size #[.slice a l.length c, wl] 38 rfl).al (w.heap.size + 1) #[.string nm] 9 (by simp))
    go_upto_region 1 with (refine wpList_al (o := ⟨some 4, _, _, _, _, _⟩) rfl hC0.out _ rfl zS zero_Sheet ?_; intro b V2 h2; have hC := Lib.hid h2; clear h2 hC0)
    have x0 : V2.cell? ⟨w.heap.size, 0, none⟩ = some (.slice a l.length c) := hC.out.cell 0 0 rfl rfl
    go_wp2_with fail
    refine (HI.out _ _ (hC.out.sx HS.out) (hC.out.lt 1 rfl) (hC.out.cell 1 0 rfl rfl)).mono ?_
    rintro e w3 ⟨rfl, hb⟩
    have hD := Lib.hid (hC.out.call hb)
    clear hb hC x0
    go_upto_region 3 with fail
    go_wp2_with (refine wpList_st (o := ⟨none, _, _, _, _, _⟩) rfl hD.out 2 rfl _ _ _ rfl rfl zC.toArray rfl info_Sheet rfl zC_one ?_; intro V4 h4; have hE := Lib.hid h4; clear h4 hD)
    refine bodyPost_ret (results_cell_tmp_row Tryz.results63 _ _ b 92 zC.toArray (0, 0) _ rfl (hE.out.at_ 2 rfl).2 Tryz.underlying92 rfl info_Sheet) rfl ?_
    rw [HT.out]
    exact ⟨rfl, hE.out.be⟩
  · have HT := Lib.hid (show theS nm l = (cS l[k], true) by unfold theS; rw [h2])
    rw [h1] at HI
    clear h1 h2
    obtain ⟨g0, o0, rfl⟩ := HS.out.addr (by omega)
    have HR := Lib.hid (fun W (hW : Below w.heap.size w W) => (HS.out.below hW).range (f := cS) (fun _ => rfl) hk)
    have i0 : (0 : Int) ≤ (k : Int) := by omega
    have i1 : (k : Int) < (l.length : Int) := by omega
    generalize l[k] = s at *
    obtain ⟨V, hV⟩ : ∃ V, Value.agg (cS s).toArray = V := ⟨_, rfl⟩
    have HV := Lib.hid hV
    clear hV
    go_enter Tryz.func63, Tryz.ntmps63
    have hC0 := Lib.hid (((Sy.enter w).al w.heap.size #[.slice (some ⟨g0, o0, none⟩) l.length c, wl] 38 rfl).al (w.heap.size + 1) #[.string nm] 9 (by simp))
    go_upto_region 1 with (refine wpList_al (o := ⟨some 4, _, _, _, _, _⟩) rfl hC0.out _ rfl zS zero_Sheet ?_; intro b V2 h2; have hC := Lib.hid h2; clear h2 hC0)
    have x0 : V2.cell? ⟨w.heap.size, 0, none⟩ = some (.slice (some ⟨g0, o0, none⟩) l.length c) := hC.out.cell 0 0 rfl rfl
    go_wp2_with fail
    refine (HI.out _ _ (hC.out.sx HS.out) (hC.out.lt 1 rfl) (hC.out.cell 1 0 rfl rfl)).mono ?_
    rintro e w3 ⟨rfl, hb⟩
    have hD := Lib.hid (hC.out.call hb)
    clear hb hC x0
    have x0 : w3.cell? ⟨w.heap.size, 0, none⟩ = some (.slice (some ⟨g0, o0, none⟩) l.length c) := hD.out.cell 0 0 rfl rfl
    go_upto_region 4 with fail
    go_wp2_with (first | (refine wpList_ld (o := ⟨some 18, _, _, _, _, _⟩) rfl _ _ rfl _ _ rfl (cS s) _ (HR.out _ hD.out.be) Tryz.underlying92 rfl info_Sheet V HV.out ?_) | (refine wpList_st (o := ⟨none, _, _, _, _, _⟩) rfl hD.out 2 rfl _ _ _ rfl rfl (cS s).toArray HV.out.symm info_Sheet rfl (cS_one s) ?_; intro V4 h4; have hE := Lib.hid h4; clear h4 hD) | fail)
    refine bodyPost_ret (results_cell_tmp_row Tryz.results63 _ _ b 92 (cS s).toArray (0, 0) _ rfl (hE.out.at_ 2 rfl).2 Tryz.underlying92 rfl info_Sheet) rfl ?_
    rw [HT.out]
    exact ⟨rfl, hE.out.be⟩
end
end Go.Proofs.YtchignmnnbepnaaGreat

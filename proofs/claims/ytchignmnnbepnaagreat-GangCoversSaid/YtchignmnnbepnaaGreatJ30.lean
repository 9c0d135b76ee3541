/- the reference's Valid -/
import Derived.Test.YtchignmnnbepnaaGreatJ29
import Derived.Test.YtchignmnnbepnaaGreatJ25
namespace Go.Proofs.YtchignmnnbepnaaGreat
open Go.RowKit
theorem info_RWall : (Tryz.prog.info? 51).map (·.size) = some 4 := by kernel_rfl
theorem idx_le {α : Type} {p : α → Bool} {l : List α} {i : Nat} (hi : i < l.length) (hp : p l[i] = true) : 0 ≤ idxB p l ∧ idxB p l ≤ i := by
  rcases idxB_cases p l with ⟨_, h2⟩ | ⟨k, hk, h1, _, h3⟩
  · rw [h2 i hi] at hp; cases hp
  · rw [h1]
    refine ⟨by omega, ?_⟩
    rcases Nat.lt_or_ge i k with h | h
    · rw [h3 i hi h] at hp; cases hp
    · omega
theorem idx_first {α : Type} {p : α → Bool} {l : List α} {i : Nat} (hi : i < l.length) (hp : p l[i] = true) : (idxB p l = (i : Int)) ↔ (l.take i).any p = false := by
  constructor
  · intro h
    rcases idxB_cases p l with ⟨h1, _⟩ | ⟨k, hk, h1, _, h3⟩
    · omega
    · obtain rfl : k = i := by omega
      refine List.any_eq_false.2 fun q hq => ?_
      obtain ⟨j, hj, rfl⟩ := List.mem_take_iff_getElem.1 hq
      rw [h3 j (by omega) (by omega)]; simp
  · intro h
    exact idxB_some hi hp fun j hj hji => by
      cases e : p l[j]
      · rfl
      · exact absurd (List.any_eq_false.1 h _ (List.mem_take_iff_getElem.2 ⟨j, by omega, rfl⟩)) (by simp [e])
theorem isS_self (s : Sht) : isS s.name s = true := beq_self_eq_true _
theorem isW_self (x : Wal) : isW x.name x = true := beq_self_eq_true _
theorem okSheet_idx {S : List Sht} {i : Nat} (hi : i < S.length) : okSheet S i = (sheetB S[i] && (idxB (isS S[i].name) S == (i : Int))) := by
  rw [okSheet_at hi, Bool.and_comm]
  congr 1
  rw [Bool.eq_iff_iff]
  simp only [Bool.not_eq_true', beq_iff_eq]
  exact (idx_first hi (isS_self _)).symm
theorem okWall_idx {S : List Sht} {L : List Wal} {i : Nat} (hi : i < L.length) {s : Sht} (hs : S.find? (isS L[i].sheet) = some s) : okWall S L i = (wallB L[i] s && (idxB (isW L[i].name) L == (i : Int))) := by
  rw [okWall_at hi, hs]
  dsimp only
  rw [Bool.and_comm]
  congr 1
  have := idx_le hi (isW_self L[i])
  rw [Bool.eq_iff_iff]
  simp only [Bool.not_eq_true', decide_eq_false_iff_not, beq_iff_eq]
  omega
section
variable (w : World)
set_option maxHeartbeats 32000000 in
set_option maxRecDepth 100000 in
theorem refValid_any (sa wa : Option Addr) (sn sc wn wc : Nat) (S : List Sht) (L : List Wal) (hS : Shts w sa sn sc S) (hL : Wals w wa wn wc L) :
    Calls Tryz.prog 12 #[.agg #[.slice sa sn sc, .slice wa wn wc]] w (Gives (.bool (planB S L)) w) := by
  obtain rfl := hS.row.nS
  obtain rfl := hL.row.nWa
  have hcs := hS.row.cap
  have hcw := hL.row.cap
  unfold maxLen at hcs hcw
  have HS := Lib.hid hS
  have HL := Lib.hid hL
  clear hS hL
  have HBS := Lib.hid (fun i hi h => planB_s (S := S) (L := L) (i := i) hi h)
  have HBW := Lib.hid (fun i hi h => planB_w (S := S) (L := L) (i := i) hi h)
  have HBL := Lib.hid (fun h => planB_len (S := S) (L := L) h)
  have HBY := Lib.hid (fun h1 h2 h3 h4 => planB_yes (S := S) (L := L) h1 h2 h3 h4)
  generalize planB S L = R at *
  go_enter Tryz.func12, Tryz.ntmps12
  go_upto_region 1 with (refine wpList_bx (o := ⟨some 1, _, _, _, _, _⟩) rfl (Sy.enter w) _ _ rfl #[.slice sa S.length sc, .slice wa L.length wc] rfl ?_; intro bp V1 h1; have hC := Lib.hid h1; clear h1)
  go_wp2
  go_loopw [3] (fun iv wr => ∃ k : Nat, k ≤ S.length ∧ iv = .int .i64 k ∧ Hid (∀ i, i < k → okSheet S i = true) ∧ Hid (Sy w wr [(bp, #[.slice sa S.length sc, .slice wa L.length wc], 25)] [] [])) (fun iv _ => S.length - (intOf iv).toNat)
  case atStart => exact ⟨0, Nat.zero_le _, rfl, Lib.hid (fun i h => absurd h (Nat.not_lt_zero i)), hC⟩
  case round =>
    clear hC
    obtain ⟨k, hk, rfl, HI, hC⟩ := hrel
    have x0 : wr.cell? ⟨bp, 0, none⟩ = some (.slice sa S.length sc) := hC.out.cell 0 0 rfl rfl
    have x1 : wr.cell? ⟨bp, 1, none⟩ = some (.slice wa L.length wc) := hC.out.cell 0 1 rfl rfl
    by_cases hlt : k < S.length
    · obtain ⟨g0, o0, rfl⟩ := HS.out.row.addr (by omega)
      have HOK := Lib.hid (okSheet_idx hlt)
      have HR := Lib.hid (fun W (hW : Below w.heap.size w W) => (HS.out.row.below hW).range (f := cS) (fun _ => rfl) hlt)
      have HNM := Lib.hid (fun W (hW : Below w.heap.size w W) => ((HS.out.row.below hW).atS hlt).1)
      have HVS := Lib.hid (fun W (hW : Below w.heap.size w W) => validSheet_any W S[k] ((HS.out.hts _ (List.getElem_mem hlt)).below hW) (HS.out.nam _ (List.getElem_mem hlt)) (HS.out.cop _ (List.getElem_mem hlt)))
      have HFS := Lib.hid (fun W (hW : Below w.heap.size w W) => refFindSheet_any W (some ⟨g0, o0, none⟩) S.length sc S (.slice wa L.length wc) S[k].name (HS.out.row.below hW))
      have HNO := Lib.hid (HBS.out k hlt)
      have HNX := Lib.hid (show okSheet S k = true → ∀ i, i < k + 1 → okSheet S i = true from fun h i hi => by
        rcases Nat.lt_or_ge i k with h1 | h1
        · exact HI.out i h1
        · have : i = k := by omega
          subst this; exact h)
      have i0 : (0 : Int) ≤ (k : Int) := by omega
      have i1 : (k : Int) < (S.length : Int) := by omega
      clear HI
      generalize okSheet S k = ok at *
      generalize idxB (isS S[k].name) S = r at *
      generalize S[k] = s at *
      obtain ⟨V, hV⟩ : ∃ V, Value.agg (cS s).toArray = V := ⟨_, rfl⟩
      have HV := Lib.hid hV
      rw [show aS s = V from hV] at HVS
      clear hV
      go_upto_region 4 with fail
      cases hsb : sheetB s
      · rw [hsb] at HVS HOK
        have HB := Lib.hid (HNO.out (by rw [HOK.out]; rfl))
        clear hsb x0 x1
        refine wp_region_held_drew (S := (fun w' => w'.cell? ⟨bp, 0, none⟩ = some (.slice (some ⟨g0, o0, none⟩) S.length sc) ∧ w'.cell? ⟨bp, 1, none⟩ = some (.slice wa L.length wc) ∧ w'.rangeAt g0 (o0 + k * 20) (cS s) ∧ w'.cell? ⟨g0, o0 + k * 20, none⟩ = some (.string s.name) ∧ True)) (by kernel_rfl) ⟨hC.out.drew.cell 0 0 rfl rfl, hC.out.drew.cell 0 1 rfl rfl, (HR.out _ hC.out.drew.be), (HNM.out _ hC.out.drew.be), trivial⟩ (fun hH => ?_)
        refine wpAnyH_geny (show Sy w _ [(bp, #[.slice (some ⟨g0, o0, none⟩) S.length sc, .slice wa L.length wc], 25)] [] [] from hC.out.drew) hH ?_
        intro VA_0 hc hHA_0
        have hVA_0 := Lib.hid hc
        clear hc hH hC
        refine wpAnyH_take (i := 0) (oi := ⟨_, _, _, _, _, _⟩) (v := ?_) rfl (by kernel_rfl) (by kernel_rfl) (by kernel_rfl) (fun _ _ _ h => h) (Or.inl ⟨by rfl, ?_⟩) hHA_0 ?_
        rotate_left
        · intro wS hSw; (try dsimp only at hSw); go_simp; try with_reducible rfl
        try simp only [Act.put, List.setIfInBounds_toArray, List.set_cons_zero, List.set_cons_succ]
        refine wpAnyH_take (i := 1) (oi := ⟨_, _, _, _, _, _⟩) (v := ?_) rfl (by kernel_rfl) (by kernel_rfl) (by kernel_rfl) (fun _ _ _ h => h) (Or.inl ⟨by rfl, ?_⟩) hHA_0 ?_
        rotate_left
        · intro wS hSw; (try dsimp only at hSw); go_simp; try with_reducible rfl
        try simp only [Act.put, List.setIfInBounds_toArray, List.set_cons_zero, List.set_cons_succ]
        refine wpAnyH_take (i := 2) (oi := ⟨_, _, _, _, _, _⟩) (v := ?_) rfl (by kernel_rfl) (by kernel_rfl) (by kernel_rfl) (fun _ _ _ h => h) (Or.inl ⟨by rfl, ?_⟩) hHA_0 ?_
        rotate_left
        · intro wS hSw; (try dsimp only at hSw); go_simp; try with_reducible rfl
        try simp only [Act.put, List.setIfInBounds_toArray, List.set_cons_zero, List.set_cons_succ]
        refine wpAnyH_take (i := 3) (oi := ⟨_, _, _, _, _, _⟩) (v := ?_) rfl (by kernel_rfl) (by kernel_rfl) (by kernel_rfl) (fun _ _ _ h => h) (Or.inl ⟨by rfl, ?_⟩) hHA_0 ?_
        rotate_left
        · intro wS hSw; (try dsimp only at hSw); go_simp; try with_reducible rfl
        try simp only [Act.put, List.setIfInBounds_toArray, List.set_cons_zero, List.set_cons_succ]
        refine wpAnyH_take (i := 4) (oi := ⟨_, _, _, _, _, _⟩) (v := V) rfl (by kernel_rfl) (by kernel_rfl) (by kernel_rfl) (fun _ _ _ h => h) (yieldsIf_ld (by rfl) _ _ rfl g0 (o0 + k * 20) rfl (cS s) _ (fun _ h => h.2.2.1) Tryz.underlying53 rfl info_RSheet V HV.out) hHA_0 ?_
        try simp only [Act.put, List.setIfInBounds_toArray, List.set_cons_zero, List.set_cons_succ]
        refine wpAnyH_ready (rs := [5]) (by kernel_rfl) (by simp) ?_
        refine AllReadyH.cons (o := ⟨_, _, _, _, _, _⟩) rfl (fun Kq hKq => ?_) AllReadyH.nil
        go_simp
        go_at_call 35
        refine (HVS.out _ hVA_0.out.be).mono ?_
        rintro e wT ⟨rfl, hb⟩
        (try go_wp2_with fail)
        refine stepY hKq (show Sy w _ [(bp, #[.slice (some ⟨g0, o0, none⟩) S.length sc, .slice wa L.length wc], 25)] [] [] from (hVA_0.out.call hb)) (fun _ hX => ⟨hX.cell 0 0 rfl rfl, hX.cell 0 1 rfl rfl, (HR.out _ hX.be), (HNM.out _ hX.be), trivial⟩) ?_
        intro VA_1 hc hHA_1
        have hVA_1 := Lib.hid hc
        clear hc hKq Kq hVA_0 hb hHA_0
        try simp only [Act.put, List.setIfInBounds_toArray, List.set_cons_zero, List.set_cons_succ]
        refine wpAnyH_take (i := 6) (oi := ⟨_, _, _, _, _, _⟩) (v := ?_) rfl (by kernel_rfl) (by kernel_rfl) (by kernel_rfl) (fun _ _ _ h => h) (Or.inl ⟨by rfl, ?_⟩) hHA_1 ?_
        rotate_left
        · intro wS hSw; (try dsimp only at hSw); go_simp; try with_reducible rfl
        try simp only [Act.put, List.setIfInBounds_toArray, List.set_cons_zero, List.set_cons_succ]
        refine wpAnyH_take (i := 7) (oi := ⟨_, _, _, _, _, _⟩) (v := ?_) rfl (by kernel_rfl) (by kernel_rfl) (by kernel_rfl) (fun _ _ _ h => h) (Or.inl ⟨by rfl, ?_⟩) hHA_1 ?_
        rotate_left
        · intro wS hSw; (try dsimp only at hSw); go_simp; try with_reducible rfl
        try simp only [Act.put, List.setIfInBounds_toArray, List.set_cons_zero, List.set_cons_succ]
        refine wpAnyH_take (i := 8) (oi := ⟨_, _, _, _, _, _⟩) (v := undef) rfl (by kernel_rfl) (by kernel_rfl) (by kernel_rfl) (fun _ _ _ h => h) (Or.inr ⟨by rfl, rfl⟩) hHA_1 ?_
        try simp only [Act.put, List.setIfInBounds_toArray, List.set_cons_zero, List.set_cons_succ]
        refine wpAnyH_take (i := 9) (oi := ⟨_, _, _, _, _, _⟩) (v := undef) rfl (by kernel_rfl) (by kernel_rfl) (by kernel_rfl) (fun _ _ _ h => h) (Or.inr ⟨by rfl, rfl⟩) hHA_1 ?_
        try simp only [Act.put, List.setIfInBounds_toArray, List.set_cons_zero, List.set_cons_succ]
        refine wpAnyH_take (i := 10) (oi := ⟨_, _, _, _, _, _⟩) (v := undef) rfl (by kernel_rfl) (by kernel_rfl) (by kernel_rfl) (fun _ _ _ h => h) (Or.inr ⟨by rfl, rfl⟩) hHA_1 ?_
        try simp only [Act.put, List.setIfInBounds_toArray, List.set_cons_zero, List.set_cons_succ]
        refine wpAnyH_take (i := 11) (oi := ⟨_, _, _, _, _, _⟩) (v := undef) rfl (by kernel_rfl) (by kernel_rfl) (by kernel_rfl) (fun _ _ _ h => h) (Or.inr ⟨by rfl, rfl⟩) hHA_1 ?_
        try simp only [Act.put, List.setIfInBounds_toArray, List.set_cons_zero, List.set_cons_succ]
        refine wpAnyH_take (i := 12) (oi := ⟨_, _, _, _, _, _⟩) (v := undef) rfl (by kernel_rfl) (by kernel_rfl) (by kernel_rfl) (fun _ _ _ h => h) (Or.inr ⟨by rfl, rfl⟩) hHA_1 ?_
        try simp only [Act.put, List.setIfInBounds_toArray, List.set_cons_zero, List.set_cons_succ]
        refine wpAnyH_take (i := 13) (oi := ⟨_, _, _, _, _, _⟩) (v := undef) rfl (by kernel_rfl) (by kernel_rfl) (by kernel_rfl) (fun _ _ _ h => h) (Or.inr ⟨by rfl, rfl⟩) hHA_1 ?_
        try simp only [Act.put, List.setIfInBounds_toArray, List.set_cons_zero, List.set_cons_succ]
        refine wpAnyH_take (i := 14) (oi := ⟨_, _, _, _, _, _⟩) (v := undef) rfl (by kernel_rfl) (by kernel_rfl) (by kernel_rfl) (fun _ _ _ h => h) (Or.inr ⟨by rfl, rfl⟩) hHA_1 ?_
        try simp only [Act.put, List.setIfInBounds_toArray, List.set_cons_zero, List.set_cons_succ]
        refine wpAnyH_take (i := 15) (oi := ⟨_, _, _, _, _, _⟩) (v := undef) rfl (by kernel_rfl) (by kernel_rfl) (by kernel_rfl) (fun _ _ _ h => h) (Or.inr ⟨by rfl, rfl⟩) hHA_1 ?_
        try simp only [Act.put, List.setIfInBounds_toArray, List.set_cons_zero, List.set_cons_succ]
        refine wpAnyH_take (i := 16) (oi := ⟨_, _, _, _, _, _⟩) (v := undef) rfl (by kernel_rfl) (by kernel_rfl) (by kernel_rfl) (fun _ _ _ h => h) (Or.inr ⟨by rfl, rfl⟩) hHA_1 ?_
        try simp only [Act.put, List.setIfInBounds_toArray, List.set_cons_zero, List.set_cons_succ]
        refine wpAnyH_take (i := 17) (oi := ⟨_, _, _, _, _, _⟩) (v := undef) rfl (by kernel_rfl) (by kernel_rfl) (by kernel_rfl) (fun _ _ _ h => h) (Or.inr ⟨by rfl, rfl⟩) hHA_1 ?_
        try simp only [Act.put, List.setIfInBounds_toArray, List.set_cons_zero, List.set_cons_succ]
        refine wpAnyH_take (i := 18) (oi := ⟨_, _, _, _, _, _⟩) (v := ?_) rfl (by kernel_rfl) (by kernel_rfl) (by kernel_rfl) (fun _ _ _ h => h) (Or.inl ⟨by rfl, ?_⟩) hHA_1 ?_
        rotate_left
        · intro wS hSw; (try dsimp only at hSw); go_simp; try with_reducible rfl
        try simp only [Act.put, List.setIfInBounds_toArray, List.set_cons_zero, List.set_cons_succ]
        refine wpAnyH_done (by kernel_rfl) ?_ _
        go_wp2
        go_ret
        exact ⟨ret_bool HB.out.symm, hVA_1.out.be⟩
      rw [hsb] at HVS HOK
      clear hsb x0 x1
      cases hr : (r != (k : Int))
      · have HB := Lib.hid (HNX.out (by rw [HOK.out, Bool.true_and]; simpa using hr))
        clear HNO HNX HOK
        refine wp_region_held_drew (S := (fun w' => w'.cell? ⟨bp, 0, none⟩ = some (.slice (some ⟨g0, o0, none⟩) S.length sc) ∧ w'.cell? ⟨bp, 1, none⟩ = some (.slice wa L.length wc) ∧ w'.rangeAt g0 (o0 + k * 20) (cS s) ∧ w'.cell? ⟨g0, o0 + k * 20, none⟩ = some (.string s.name) ∧ True)) (by kernel_rfl) ⟨hC.out.drew.cell 0 0 rfl rfl, hC.out.drew.cell 0 1 rfl rfl, (HR.out _ hC.out.drew.be), (HNM.out _ hC.out.drew.be), trivial⟩ (fun hH => ?_)
        refine wpAnyH_geny (show Sy w _ [(bp, #[.slice (some ⟨g0, o0, none⟩) S.length sc, .slice wa L.length wc], 25)] [] [] from hC.out.drew) hH ?_
        intro VB_0 hc hHB_0
        have hVB_0 := Lib.hid hc
        clear hc hH hC
        refine wpAnyH_take (i := 0) (oi := ⟨_, _, _, _, _, _⟩) (v := ?_) rfl (by kernel_rfl) (by kernel_rfl) (by kernel_rfl) (fun _ _ _ h => h) (Or.inl ⟨by rfl, ?_⟩) hHB_0 ?_
        rotate_left
        · intro wS hSw; (try dsimp only at hSw); go_simp; try with_reducible rfl
        try simp only [Act.put, List.setIfInBounds_toArray, List.set_cons_zero, List.set_cons_succ]
        refine wpAnyH_take (i := 1) (oi := ⟨_, _, _, _, _, _⟩) (v := ?_) rfl (by kernel_rfl) (by kernel_rfl) (by kernel_rfl) (fun _ _ _ h => h) (Or.inl ⟨by rfl, ?_⟩) hHB_0 ?_
        rotate_left
        · intro wS hSw; (try dsimp only at hSw); go_simp; try with_reducible rfl
        try simp only [Act.put, List.setIfInBounds_toArray, List.set_cons_zero, List.set_cons_succ]
        refine wpAnyH_take (i := 2) (oi := ⟨_, _, _, _, _, _⟩) (v := ?_) rfl (by kernel_rfl) (by kernel_rfl) (by kernel_rfl) (fun _ _ _ h => h) (Or.inl ⟨by rfl, ?_⟩) hHB_0 ?_
        rotate_left
        · intro wS hSw; (try dsimp only at hSw); go_simp; try with_reducible rfl
        try simp only [Act.put, List.setIfInBounds_toArray, List.set_cons_zero, List.set_cons_succ]
        refine wpAnyH_take (i := 3) (oi := ⟨_, _, _, _, _, _⟩) (v := ?_) rfl (by kernel_rfl) (by kernel_rfl) (by kernel_rfl) (fun _ _ _ h => h) (Or.inl ⟨by rfl, ?_⟩) hHB_0 ?_
        rotate_left
        · intro wS hSw; (try dsimp only at hSw); go_simp; try with_reducible rfl
        try simp only [Act.put, List.setIfInBounds_toArray, List.set_cons_zero, List.set_cons_succ]
        refine wpAnyH_take (i := 4) (oi := ⟨_, _, _, _, _, _⟩) (v := V) rfl (by kernel_rfl) (by kernel_rfl) (by kernel_rfl) (fun _ _ _ h => h) (yieldsIf_ld (by rfl) _ _ rfl g0 (o0 + k * 20) rfl (cS s) _ (fun _ h => h.2.2.1) Tryz.underlying53 rfl info_RSheet V HV.out) hHB_0 ?_
        try simp only [Act.put, List.setIfInBounds_toArray, List.set_cons_zero, List.set_cons_succ]
        refine wpAnyH_ready (rs := [5]) (by kernel_rfl) (by simp) ?_
        refine AllReadyH.cons (o := ⟨_, _, _, _, _, _⟩) rfl (fun Kq hKq => ?_) AllReadyH.nil
        go_simp
        go_at_call 35
        refine (HVS.out _ hVB_0.out.be).mono ?_
        rintro e wT ⟨rfl, hb⟩
        (try go_wp2_with fail)
        refine stepY hKq (show Sy w _ [(bp, #[.slice (some ⟨g0, o0, none⟩) S.length sc, .slice wa L.length wc], 25)] [] [] from (hVB_0.out.call hb)) (fun _ hX => ⟨hX.cell 0 0 rfl rfl, hX.cell 0 1 rfl rfl, (HR.out _ hX.be), (HNM.out _ hX.be), trivial⟩) ?_
        intro VB_1 hc hHB_1
        have hVB_1 := Lib.hid hc
        clear hc hKq Kq hVB_0 hb hHB_0
        try simp only [Act.put, List.setIfInBounds_toArray, List.set_cons_zero, List.set_cons_succ]
        refine wpAnyH_take (i := 6) (oi := ⟨_, _, _, _, _, _⟩) (v := ?_) rfl (by kernel_rfl) (by kernel_rfl) (by kernel_rfl) (fun _ _ _ h => h) (Or.inl ⟨by rfl, ?_⟩) hHB_1 ?_
        rotate_left
        · intro wS hSw; (try dsimp only at hSw); go_simp; try with_reducible rfl
        try simp only [Act.put, List.setIfInBounds_toArray, List.set_cons_zero, List.set_cons_succ]
        refine wpAnyH_take (i := 7) (oi := ⟨_, _, _, _, _, _⟩) (v := ?_) rfl (by kernel_rfl) (by kernel_rfl) (by kernel_rfl) (fun _ _ _ h => h) (Or.inl ⟨by rfl, ?_⟩) hHB_1 ?_
        rotate_left
        · intro wS hSw; (try dsimp only at hSw); go_simp; try with_reducible rfl
        try simp only [Act.put, List.setIfInBounds_toArray, List.set_cons_zero, List.set_cons_succ]
        refine wpAnyH_take (i := 8) (oi := ⟨_, _, _, _, _, _⟩) (v := ?_) rfl (by kernel_rfl) (by kernel_rfl) (by kernel_rfl) (fun _ _ _ h => h) (Or.inl ⟨by rfl, ?_⟩) hHB_1 ?_
        rotate_left
        · intro wS hSw; (try dsimp only at hSw); go_simp; try with_reducible rfl
        try simp only [Act.put, List.setIfInBounds_toArray, List.set_cons_zero, List.set_cons_succ]
        refine wpAnyH_take (i := 9) (oi := ⟨_, _, _, _, _, _⟩) (v := ?_) rfl (by kernel_rfl) (by kernel_rfl) (by kernel_rfl) (fun _ _ _ h => h) (Or.inl ⟨by rfl, ?_⟩) hHB_1 ?_
        rotate_left
        · intro wS hSw; (try dsimp only at hSw); go_simp; try with_reducible rfl
        try simp only [Act.put, List.setIfInBounds_toArray, List.set_cons_zero, List.set_cons_succ]
        refine wpAnyH_take (i := 10) (oi := ⟨_, _, _, _, _, _⟩) (v := ?_) rfl (by kernel_rfl) (by kernel_rfl) (by kernel_rfl) (fun _ _ _ h => h) (Or.inl ⟨by rfl, ?_⟩) hHB_1 ?_
        rotate_left
        · intro wS hSw; (try dsimp only at hSw); go_simp; try with_reducible rfl
        try simp only [Act.put, List.setIfInBounds_toArray, List.set_cons_zero, List.set_cons_succ]
        refine wpAnyH_take (i := 11) (oi := ⟨_, _, _, _, _, _⟩) (v := ?_) rfl (by kernel_rfl) (by kernel_rfl) (by kernel_rfl) (fun _ _ _ h => h) (Or.inl ⟨by rfl, ?_⟩) hHB_1 ?_
        rotate_left
        · intro wS hSw; (try dsimp only at hSw); go_simp; try with_reducible rfl
        try simp only [Act.put, List.setIfInBounds_toArray, List.set_cons_zero, List.set_cons_succ]
        refine wpAnyH_take (i := 12) (oi := ⟨_, _, _, _, _, _⟩) (v := ?_) rfl (by kernel_rfl) (by kernel_rfl) (by kernel_rfl) (fun _ _ _ h => h) (Or.inl ⟨by rfl, ?_⟩) hHB_1 ?_
        rotate_left
        · intro wS hSw; (try dsimp only at hSw); go_simp; try with_reducible rfl
        try simp only [Act.put, List.setIfInBounds_toArray, List.set_cons_zero, List.set_cons_succ]
        refine wpAnyH_take (i := 13) (oi := ⟨_, _, _, _, _, _⟩) (v := ?_) rfl (by kernel_rfl) (by kernel_rfl) (by kernel_rfl) (fun _ _ _ h => h) (Or.inl ⟨by rfl, ?_⟩) hHB_1 ?_
        rotate_left
        · intro wS hSw; (try dsimp only at hSw); go_simp; try with_reducible rfl
        try simp only [Act.put, List.setIfInBounds_toArray, List.set_cons_zero, List.set_cons_succ]
        refine wpAnyH_take (i := 14) (oi := ⟨_, _, _, _, _, _⟩) (v := ?_) rfl (by kernel_rfl) (by kernel_rfl) (by kernel_rfl) (fun _ _ _ h => h) (Or.inl ⟨by rfl, ?_⟩) hHB_1 ?_
        rotate_left
        · intro wS hSw; (try dsimp only at hSw); go_simp; try with_reducible rfl
        try simp only [Act.put, List.setIfInBounds_toArray, List.set_cons_zero, List.set_cons_succ]
        refine wpAnyH_take (i := 16) (oi := ⟨_, _, _, _, _, _⟩) (v := ?_) rfl (by kernel_rfl) (by kernel_rfl) (by kernel_rfl) (fun _ _ _ h => h) (Or.inl ⟨by rfl, ?_⟩) hHB_1 ?_
        rotate_left
        · intro wS hSw; (try dsimp only at hSw); go_simp; try with_reducible rfl
        try simp only [Act.put, List.setIfInBounds_toArray, List.set_cons_zero, List.set_cons_succ]
        refine wpAnyH_ready (rs := [15]) (by kernel_rfl) (by simp) ?_
        refine AllReadyH.cons (o := ⟨_, _, _, _, _, _⟩) rfl (fun Kq hKq => ?_) AllReadyH.nil
        go_simp
        go_at_call 16
        refine (HFS.out _ hVB_1.out.be).mono ?_
        rintro e wT ⟨rfl, hb⟩
        (try go_wp2_with fail)
        refine stepY hKq (show Sy w _ [(bp, #[.slice (some ⟨g0, o0, none⟩) S.length sc, .slice wa L.length wc], 25)] [] [] from (hVB_1.out.call hb)) (fun _ hX => ⟨hX.cell 0 0 rfl rfl, hX.cell 0 1 rfl rfl, (HR.out _ hX.be), (HNM.out _ hX.be), trivial⟩) ?_
        intro VB_2 hc hHB_2
        have hVB_2 := Lib.hid hc
        clear hc hKq Kq hVB_1 hb hHB_1
        try simp only [Act.put, List.setIfInBounds_toArray, List.set_cons_zero, List.set_cons_succ]
        refine wpAnyH_take (i := 17) (oi := ⟨_, _, _, _, _, _⟩) (v := ?_) rfl (by kernel_rfl) (by kernel_rfl) (by kernel_rfl) (fun _ _ _ h => h) (Or.inl ⟨by rfl, ?_⟩) hHB_2 ?_
        rotate_left
        · intro wS hSw; (try dsimp only at hSw); go_simp; try with_reducible rfl
        try simp only [Act.put, List.setIfInBounds_toArray, List.set_cons_zero, List.set_cons_succ]
        refine wpAnyH_take (i := 18) (oi := ⟨_, _, _, _, _, _⟩) (v := ?_) rfl (by kernel_rfl) (by kernel_rfl) (by kernel_rfl) (fun _ _ _ h => h) (Or.inl ⟨by rfl, ?_⟩) hHB_2 ?_
        rotate_left
        · intro wS hSw; (try dsimp only at hSw); go_simp; try with_reducible rfl
        try simp only [Act.put, List.setIfInBounds_toArray, List.set_cons_zero, List.set_cons_succ]
        refine wpAnyH_done (by kernel_rfl) ?_ _
        go_wp2
        go_roundw
        case rel => exact ⟨k + 1, by omega, by go_num, HB, hVB_2⟩
        case measure => simp [intOf]; omega
      · have HB := Lib.hid (HNO.out (by rw [HOK.out, Bool.true_and]; simpa using hr))
        clear HNO HNX HOK
        refine wp_region_held_drew (S := (fun w' => w'.cell? ⟨bp, 0, none⟩ = some (.slice (some ⟨g0, o0, none⟩) S.length sc) ∧ w'.cell? ⟨bp, 1, none⟩ = some (.slice wa L.length wc) ∧ w'.rangeAt g0 (o0 + k * 20) (cS s) ∧ w'.cell? ⟨g0, o0 + k * 20, none⟩ = some (.string s.name) ∧ True)) (by kernel_rfl) ⟨hC.out.drew.cell 0 0 rfl rfl, hC.out.drew.cell 0 1 rfl rfl, (HR.out _ hC.out.drew.be), (HNM.out _ hC.out.drew.be), trivial⟩ (fun hH => ?_)
        refine wpAnyH_geny (show Sy w _ [(bp, #[.slice (some ⟨g0, o0, none⟩) S.length sc, .slice wa L.length wc], 25)] [] [] from hC.out.drew) hH ?_
        intro VC_0 hc hHC_0
        have hVC_0 := Lib.hid hc
        clear hc hH hC
        refine wpAnyH_take (i := 0) (oi := ⟨_, _, _, _, _, _⟩) (v := ?_) rfl (by kernel_rfl) (by kernel_rfl) (by kernel_rfl) (fun _ _ _ h => h) (Or.inl ⟨by rfl, ?_⟩) hHC_0 ?_
        rotate_left
        · intro wS hSw; (try dsimp only at hSw); go_simp; try with_reducible rfl
        try simp only [Act.put, List.setIfInBounds_toArray, List.set_cons_zero, List.set_cons_succ]
        refine wpAnyH_take (i := 1) (oi := ⟨_, _, _, _, _, _⟩) (v := ?_) rfl (by kernel_rfl) (by kernel_rfl) (by kernel_rfl) (fun _ _ _ h => h) (Or.inl ⟨by rfl, ?_⟩) hHC_0 ?_
        rotate_left
        · intro wS hSw; (try dsimp only at hSw); go_simp; try with_reducible rfl
        try simp only [Act.put, List.setIfInBounds_toArray, List.set_cons_zero, List.set_cons_succ]
        refine wpAnyH_take (i := 2) (oi := ⟨_, _, _, _, _, _⟩) (v := ?_) rfl (by kernel_rfl) (by kernel_rfl) (by kernel_rfl) (fun _ _ _ h => h) (Or.inl ⟨by rfl, ?_⟩) hHC_0 ?_
        rotate_left
        · intro wS hSw; (try dsimp only at hSw); go_simp; try with_reducible rfl
        try simp only [Act.put, List.setIfInBounds_toArray, List.set_cons_zero, List.set_cons_succ]
        refine wpAnyH_take (i := 3) (oi := ⟨_, _, _, _, _, _⟩) (v := ?_) rfl (by kernel_rfl) (by kernel_rfl) (by kernel_rfl) (fun _ _ _ h => h) (Or.inl ⟨by rfl, ?_⟩) hHC_0 ?_
        rotate_left
        · intro wS hSw; (try dsimp only at hSw); go_simp; try with_reducible rfl
        try simp only [Act.put, List.setIfInBounds_toArray, List.set_cons_zero, List.set_cons_succ]
        refine wpAnyH_take (i := 4) (oi := ⟨_, _, _, _, _, _⟩) (v := V) rfl (by kernel_rfl) (by kernel_rfl) (by kernel_rfl) (fun _ _ _ h => h) (yieldsIf_ld (by rfl) _ _ rfl g0 (o0 + k * 20) rfl (cS s) _ (fun _ h => h.2.2.1) Tryz.underlying53 rfl info_RSheet V HV.out) hHC_0 ?_
        try simp only [Act.put, List.setIfInBounds_toArray, List.set_cons_zero, List.set_cons_succ]
        refine wpAnyH_ready (rs := [5]) (by kernel_rfl) (by simp) ?_
        refine AllReadyH.cons (o := ⟨_, _, _, _, _, _⟩) rfl (fun Kq hKq => ?_) AllReadyH.nil
        go_simp
        go_at_call 35
        refine (HVS.out _ hVC_0.out.be).mono ?_
        rintro e wT ⟨rfl, hb⟩
        (try go_wp2_with fail)
        refine stepY hKq (show Sy w _ [(bp, #[.slice (some ⟨g0, o0, none⟩) S.length sc, .slice wa L.length wc], 25)] [] [] from (hVC_0.out.call hb)) (fun _ hX => ⟨hX.cell 0 0 rfl rfl, hX.cell 0 1 rfl rfl, (HR.out _ hX.be), (HNM.out _ hX.be), trivial⟩) ?_
        intro VC_1 hc hHC_1
        have hVC_1 := Lib.hid hc
        clear hc hKq Kq hVC_0 hb hHC_0
        try simp only [Act.put, List.setIfInBounds_toArray, List.set_cons_zero, List.set_cons_succ]
        refine wpAnyH_take (i := 6) (oi := ⟨_, _, _, _, _, _⟩) (v := ?_) rfl (by kernel_rfl) (by kernel_rfl) (by kernel_rfl) (fun _ _ _ h => h) (Or.inl ⟨by rfl, ?_⟩) hHC_1 ?_
        rotate_left
        · intro wS hSw; (try dsimp only at hSw); go_simp; try with_reducible rfl
        try simp only [Act.put, List.setIfInBounds_toArray, List.set_cons_zero, List.set_cons_succ]
        refine wpAnyH_take (i := 7) (oi := ⟨_, _, _, _, _, _⟩) (v := ?_) rfl (by kernel_rfl) (by kernel_rfl) (by kernel_rfl) (fun _ _ _ h => h) (Or.inl ⟨by rfl, ?_⟩) hHC_1 ?_
        rotate_left
        · intro wS hSw; (try dsimp only at hSw); go_simp; try with_reducible rfl
        try simp only [Act.put, List.setIfInBounds_toArray, List.set_cons_zero, List.set_cons_succ]
        refine wpAnyH_take (i := 8) (oi := ⟨_, _, _, _, _, _⟩) (v := ?_) rfl (by kernel_rfl) (by kernel_rfl) (by kernel_rfl) (fun _ _ _ h => h) (Or.inl ⟨by rfl, ?_⟩) hHC_1 ?_
        rotate_left
        · intro wS hSw; (try dsimp only at hSw); go_simp; try with_reducible rfl
        try simp only [Act.put, List.setIfInBounds_toArray, List.set_cons_zero, List.set_cons_succ]
        refine wpAnyH_take (i := 9) (oi := ⟨_, _, _, _, _, _⟩) (v := ?_) rfl (by kernel_rfl) (by kernel_rfl) (by kernel_rfl) (fun _ _ _ h => h) (Or.inl ⟨by rfl, ?_⟩) hHC_1 ?_
        rotate_left
        · intro wS hSw; (try dsimp only at hSw); go_simp; try with_reducible rfl
        try simp only [Act.put, List.setIfInBounds_toArray, List.set_cons_zero, List.set_cons_succ]
        refine wpAnyH_take (i := 10) (oi := ⟨_, _, _, _, _, _⟩) (v := ?_) rfl (by kernel_rfl) (by kernel_rfl) (by kernel_rfl) (fun _ _ _ h => h) (Or.inl ⟨by rfl, ?_⟩) hHC_1 ?_
        rotate_left
        · intro wS hSw; (try dsimp only at hSw); go_simp; try with_reducible rfl
        try simp only [Act.put, List.setIfInBounds_toArray, List.set_cons_zero, List.set_cons_succ]
        refine wpAnyH_take (i := 11) (oi := ⟨_, _, _, _, _, _⟩) (v := ?_) rfl (by kernel_rfl) (by kernel_rfl) (by kernel_rfl) (fun _ _ _ h => h) (Or.inl ⟨by rfl, ?_⟩) hHC_1 ?_
        rotate_left
        · intro wS hSw; (try dsimp only at hSw); go_simp; try with_reducible rfl
        try simp only [Act.put, List.setIfInBounds_toArray, List.set_cons_zero, List.set_cons_succ]
        refine wpAnyH_take (i := 12) (oi := ⟨_, _, _, _, _, _⟩) (v := ?_) rfl (by kernel_rfl) (by kernel_rfl) (by kernel_rfl) (fun _ _ _ h => h) (Or.inl ⟨by rfl, ?_⟩) hHC_1 ?_
        rotate_left
        · intro wS hSw; (try dsimp only at hSw); go_simp; try with_reducible rfl
        try simp only [Act.put, List.setIfInBounds_toArray, List.set_cons_zero, List.set_cons_succ]
        refine wpAnyH_take (i := 13) (oi := ⟨_, _, _, _, _, _⟩) (v := ?_) rfl (by kernel_rfl) (by kernel_rfl) (by kernel_rfl) (fun _ _ _ h => h) (Or.inl ⟨by rfl, ?_⟩) hHC_1 ?_
        rotate_left
        · intro wS hSw; (try dsimp only at hSw); go_simp; try with_reducible rfl
        try simp only [Act.put, List.setIfInBounds_toArray, List.set_cons_zero, List.set_cons_succ]
        refine wpAnyH_take (i := 14) (oi := ⟨_, _, _, _, _, _⟩) (v := ?_) rfl (by kernel_rfl) (by kernel_rfl) (by kernel_rfl) (fun _ _ _ h => h) (Or.inl ⟨by rfl, ?_⟩) hHC_1 ?_
        rotate_left
        · intro wS hSw; (try dsimp only at hSw); go_simp; try with_reducible rfl
        try simp only [Act.put, List.setIfInBounds_toArray, List.set_cons_zero, List.set_cons_succ]
        refine wpAnyH_take (i := 16) (oi := ⟨_, _, _, _, _, _⟩) (v := ?_) rfl (by kernel_rfl) (by kernel_rfl) (by kernel_rfl) (fun _ _ _ h => h) (Or.inl ⟨by rfl, ?_⟩) hHC_1 ?_
        rotate_left
        · intro wS hSw; (try dsimp only at hSw); go_simp; try with_reducible rfl
        try simp only [Act.put, List.setIfInBounds_toArray, List.set_cons_zero, List.set_cons_succ]
        refine wpAnyH_ready (rs := [15]) (by kernel_rfl) (by simp) ?_
        refine AllReadyH.cons (o := ⟨_, _, _, _, _, _⟩) rfl (fun Kq hKq => ?_) AllReadyH.nil
        go_simp
        go_at_call 16
        refine (HFS.out _ hVC_1.out.be).mono ?_
        rintro e wT ⟨rfl, hb⟩
        (try go_wp2_with fail)
        refine stepY hKq (show Sy w _ [(bp, #[.slice (some ⟨g0, o0, none⟩) S.length sc, .slice wa L.length wc], 25)] [] [] from (hVC_1.out.call hb)) (fun _ hX => ⟨hX.cell 0 0 rfl rfl, hX.cell 0 1 rfl rfl, (HR.out _ hX.be), (HNM.out _ hX.be), trivial⟩) ?_
        intro VC_2 hc hHC_2
        have hVC_2 := Lib.hid hc
        clear hc hKq Kq hVC_1 hb hHC_1
        try simp only [Act.put, List.setIfInBounds_toArray, List.set_cons_zero, List.set_cons_succ]
        refine wpAnyH_take (i := 17) (oi := ⟨_, _, _, _, _, _⟩) (v := ?_) rfl (by kernel_rfl) (by kernel_rfl) (by kernel_rfl) (fun _ _ _ h => h) (Or.inl ⟨by rfl, ?_⟩) hHC_2 ?_
        rotate_left
        · intro wS hSw; (try dsimp only at hSw); go_simp; try with_reducible rfl
        try simp only [Act.put, List.setIfInBounds_toArray, List.set_cons_zero, List.set_cons_succ]
        refine wpAnyH_take (i := 18) (oi := ⟨_, _, _, _, _, _⟩) (v := ?_) rfl (by kernel_rfl) (by kernel_rfl) (by kernel_rfl) (fun _ _ _ h => h) (Or.inl ⟨by rfl, ?_⟩) hHC_2 ?_
        rotate_left
        · intro wS hSw; (try dsimp only at hSw); go_simp; try with_reducible rfl
        try simp only [Act.put, List.setIfInBounds_toArray, List.set_cons_zero, List.set_cons_succ]
        refine wpAnyH_done (by kernel_rfl) ?_ _
        go_wp2
        go_ret
        exact ⟨ret_bool HB.out.symm, hVC_2.out.be⟩
    · have hkk : ¬ (k : Int) < (S.length : Int) := by omega
      have HSY := Lib.hid (show ∀ i, i < S.length → okSheet S i = true from fun i hi => HI.out i (by omega))
      clear HI HBS
      go_wp2
      go_loopw [4] (fun iv wr => ∃ k : Nat, k ≤ L.length ∧ iv = .int .i64 k ∧ Hid (∀ i, i < k → okWall S L i = true) ∧ Hid (Sy w wr [(bp, #[.slice sa S.length sc, .slice wa L.length wc], 25)] [] [])) (fun iv _ => L.length - (intOf iv).toNat)
      case atStart => exact ⟨0, Nat.zero_le _, rfl, Lib.hid (fun i h => absurd h (Nat.not_lt_zero i)), hC⟩
      case round =>
        clear hC x0 x1 hkk hlt
        obtain ⟨m, hm, rfl, HI, hC⟩ := hrel
        have x0 : wr.cell? ⟨bp, 0, none⟩ = some (.slice sa S.length sc) := hC.out.cell 0 0 rfl rfl
        have x1 : wr.cell? ⟨bp, 1, none⟩ = some (.slice wa L.length wc) := hC.out.cell 0 1 rfl rfl
        by_cases hlt : m < L.length
        · obtain ⟨g1, o1, rfl⟩ := HL.out.row.addr (by omega)
          have HY := Lib.hid (fun W (hW : Below w.heap.size w W) => (HL.out.row.below hW).atWa hlt)
          have HNO := Lib.hid (HBW.out m hlt)
          have HNX := Lib.hid (show okWall S L m = true → ∀ i, i < m + 1 → okWall S L i = true from fun h i hi => by
            rcases Nat.lt_or_ge i m with h1 | h1
            · exact HI.out i h1
            · have : i = m := by omega
              subst this; exact h)
          have HVW := Lib.hid (fun W (hW : Below w.heap.size w W) s hH => refValidWall_any W L[m] s ((HL.out.opn _ (List.getElem_mem hlt)).below hW) (HL.out.nam _ (List.getElem_mem hlt)).1 (HL.out.knd _ (List.getElem_mem hlt)) hH)
          have HFW := Lib.hid (fun W (hW : Below w.heap.size w W) => refFindWall_any W (some ⟨g1, o1, none⟩) L.length wc L (.slice sa S.length sc) L[m].name (HL.out.row.below hW))
          have HFS := Lib.hid (fun W (hW : Below w.heap.size w W) => refFindSheet_any W sa S.length sc S (.slice (some ⟨g1, o1, none⟩) L.length wc) L[m].sheet (HS.out.row.below hW))
          have HOI := Lib.hid (fun s hs => okWall_idx (S := S) hlt (s := s) hs)
          have HOA := Lib.hid (okWall_at (S := S) hlt)
          have i0 : (0 : Int) ≤ (m : Int) := by omega
          have i1 : (m : Int) < (L.length : Int) := by omega
          clear HI
          generalize okWall S L m = ok at *
          generalize idxB (isW L[m].name) L = r2 at *
          generalize L[m] = x at *
          go_upto_region 9 with fail
          rcases find_idx (p := isS x.sheet) (l := S) with ⟨h1, h2⟩ | ⟨k2, hk2, h1, h2, -⟩
          · rw [h2] at HOA
            have HB := Lib.hid (HNO.out HOA.out)
            rw [h1] at HFS
            clear h1 h2 HNX HVW HFW HNO HOI HOA x0 x1
            refine wp_region_held_drew (S := (fun w' => w'.cell? ⟨bp, 0, none⟩ = some (.slice sa S.length sc) ∧ w'.cell? ⟨bp, 1, none⟩ = some (.slice (some ⟨g1, o1, none⟩) L.length wc) ∧ w'.cell? ⟨g1, o1 + m * 4 + 1, none⟩ = some (.string x.sheet) ∧ True)) (by kernel_rfl) ⟨hC.out.drew.cell 0 0 rfl rfl, hC.out.drew.cell 0 1 rfl rfl, (HY.out _ hC.out.drew.be).2.1, trivial⟩ (fun hH => ?_)
            refine wpAnyH_geny (show Sy w _ [(bp, #[.slice sa S.length sc, .slice (some ⟨g1, o1, none⟩) L.length wc], 25)] [] [] from hC.out.drew) hH ?_
            intro VNA_0 hc hHNA_0
            have hVNA_0 := Lib.hid hc
            clear hc hH hC
            refine wpAnyH_take (i := 0) (oi := ⟨_, _, _, _, _, _⟩) (v := ?_) rfl (by kernel_rfl) (by kernel_rfl) (by kernel_rfl) (fun _ _ _ h => h) (Or.inl ⟨by rfl, ?_⟩) hHNA_0 ?_
            rotate_left
            · intro wS hSw; (try dsimp only at hSw); go_simp; try with_reducible rfl
            try simp only [Act.put, List.setIfInBounds_toArray, List.set_cons_zero, List.set_cons_succ]
            refine wpAnyH_take (i := 1) (oi := ⟨_, _, _, _, _, _⟩) (v := ?_) rfl (by kernel_rfl) (by kernel_rfl) (by kernel_rfl) (fun _ _ _ h => h) (Or.inl ⟨by rfl, ?_⟩) hHNA_0 ?_
            rotate_left
            · intro wS hSw; (try dsimp only at hSw); go_simp; try with_reducible rfl
            try simp only [Act.put, List.setIfInBounds_toArray, List.set_cons_zero, List.set_cons_succ]
            refine wpAnyH_take (i := 2) (oi := ⟨_, _, _, _, _, _⟩) (v := ?_) rfl (by kernel_rfl) (by kernel_rfl) (by kernel_rfl) (fun _ _ _ h => h) (Or.inl ⟨by rfl, ?_⟩) hHNA_0 ?_
            rotate_left
            · intro wS hSw; (try dsimp only at hSw); go_simp; try with_reducible rfl
            try simp only [Act.put, List.setIfInBounds_toArray, List.set_cons_zero, List.set_cons_succ]
            refine wpAnyH_take (i := 3) (oi := ⟨_, _, _, _, _, _⟩) (v := ?_) rfl (by kernel_rfl) (by kernel_rfl) (by kernel_rfl) (fun _ _ _ h => h) (Or.inl ⟨by rfl, ?_⟩) hHNA_0 ?_
            rotate_left
            · intro wS hSw; (try dsimp only at hSw); go_simp; try with_reducible rfl
            try simp only [Act.put, List.setIfInBounds_toArray, List.set_cons_zero, List.set_cons_succ]
            refine wpAnyH_take (i := 4) (oi := ⟨_, _, _, _, _, _⟩) (v := ?_) rfl (by kernel_rfl) (by kernel_rfl) (by kernel_rfl) (fun _ _ _ h => h) (Or.inl ⟨by rfl, ?_⟩) hHNA_0 ?_
            rotate_left
            · intro wS hSw; (try dsimp only at hSw); go_simp; try with_reducible rfl
            try simp only [Act.put, List.setIfInBounds_toArray, List.set_cons_zero, List.set_cons_succ]
            refine wpAnyH_take (i := 5) (oi := ⟨_, _, _, _, _, _⟩) (v := ?_) rfl (by kernel_rfl) (by kernel_rfl) (by kernel_rfl) (fun _ _ _ h => h) (Or.inl ⟨by rfl, ?_⟩) hHNA_0 ?_
            rotate_left
            · intro wS hSw; (try dsimp only at hSw); go_simp; try with_reducible rfl
            try simp only [Act.put, List.setIfInBounds_toArray, List.set_cons_zero, List.set_cons_succ]
            refine wpAnyH_take (i := 6) (oi := ⟨_, _, _, _, _, _⟩) (v := ?_) rfl (by kernel_rfl) (by kernel_rfl) (by kernel_rfl) (fun _ _ _ h => h) (Or.inl ⟨by rfl, ?_⟩) hHNA_0 ?_
            rotate_left
            · intro wS hSw; (try dsimp only at hSw); go_simp; try with_reducible rfl
            try simp only [Act.put, List.setIfInBounds_toArray, List.set_cons_zero, List.set_cons_succ]
            refine wpAnyH_ready (rs := [7]) (by kernel_rfl) (by simp) ?_
            refine AllReadyH.cons (o := ⟨_, _, _, _, _, _⟩) rfl (fun Kq hKq => ?_) AllReadyH.nil
            go_simp
            go_at_call 16
            refine (HFS.out _ hVNA_0.out.be).mono ?_
            rintro e wT ⟨rfl, hb⟩
            (try go_wp2_with fail)
            refine stepY hKq (show Sy w _ [(bp, #[.slice sa S.length sc, .slice (some ⟨g1, o1, none⟩) L.length wc], 25)] [] [] from (hVNA_0.out.call hb)) (fun _ hX => ⟨hX.cell 0 0 rfl rfl, hX.cell 0 1 rfl rfl, (HY.out _ hX.be).2.1, trivial⟩) ?_
            intro VNA_1 hc hHNA_1
            have hVNA_1 := Lib.hid hc
            clear hc hKq Kq hVNA_0 hb hHNA_0
            try simp only [Act.put, List.setIfInBounds_toArray, List.set_cons_zero, List.set_cons_succ]
            refine wpAnyH_ready (rs := [8]) (by kernel_rfl) (by simp) ?_
            refine AllReadyH.cons (o := ⟨_, _, _, _, _, _⟩) rfl (fun Kq hKq => ?_) AllReadyH.nil
            go_simp
            refine stepY hKq (show Sy w _ [(bp, #[.slice sa S.length sc, .slice (some ⟨g1, o1, none⟩) L.length wc], 25)] [] [] from hVNA_1.out) (fun _ hX => ⟨hX.cell 0 0 rfl rfl, hX.cell 0 1 rfl rfl, (HY.out _ hX.be).2.1, trivial⟩) ?_
            intro VNA_2 hc hHNA_2
            have hVNA_2 := Lib.hid hc
            clear hc hKq Kq hVNA_1 hHNA_1
            try simp only [Act.put, List.setIfInBounds_toArray, List.set_cons_zero, List.set_cons_succ]
            refine wpAnyH_done (by kernel_rfl) ?_ _
            go_upto_region 10 with fail
            refine wp_region_held_drew (S := (fun w' => True)) (by kernel_rfl) trivial (fun hH => ?_)
            refine wpAnyH_geny (show Sy w _ [(bp, #[.slice sa S.length sc, .slice (some ⟨g1, o1, none⟩) L.length wc], 25)] [] [] from hVNA_2.out.drew) hH ?_
            intro VT_0 hc hHT_0
            have hVT_0 := Lib.hid hc
            clear hc hH hVNA_2
            refine wpAnyH_take (i := 0) (oi := ⟨_, _, _, _, _, _⟩) (v := ?_) rfl (by kernel_rfl) (by kernel_rfl) (by kernel_rfl) (fun _ _ _ h => h) (Or.inl ⟨by rfl, ?_⟩) hHT_0 ?_
            rotate_left
            · intro wS hSw; (try dsimp only at hSw); go_simp; try with_reducible rfl
            try simp only [Act.put, List.setIfInBounds_toArray, List.set_cons_zero, List.set_cons_succ]
            refine wpAnyH_take (i := 1) (oi := ⟨_, _, _, _, _, _⟩) (v := ?_) rfl (by kernel_rfl) (by kernel_rfl) (by kernel_rfl) (fun _ _ _ h => h) (Or.inl ⟨by rfl, ?_⟩) hHT_0 ?_
            rotate_left
            · intro wS hSw; (try dsimp only at hSw); go_simp; try with_reducible rfl
            try simp only [Act.put, List.setIfInBounds_toArray, List.set_cons_zero, List.set_cons_succ]
            refine wpAnyH_take (i := 2) (oi := ⟨_, _, _, _, _, _⟩) (v := ?_) rfl (by kernel_rfl) (by kernel_rfl) (by kernel_rfl) (fun _ _ _ h => h) (Or.inl ⟨by rfl, ?_⟩) hHT_0 ?_
            rotate_left
            · intro wS hSw; (try dsimp only at hSw); go_simp; try with_reducible rfl
            try simp only [Act.put, List.setIfInBounds_toArray, List.set_cons_zero, List.set_cons_succ]
            refine wpAnyH_take (i := 3) (oi := ⟨_, _, _, _, _, _⟩) (v := undef) rfl (by kernel_rfl) (by kernel_rfl) (by kernel_rfl) (fun _ _ _ h => h) (Or.inr ⟨by rfl, rfl⟩) hHT_0 ?_
            try simp only [Act.put, List.setIfInBounds_toArray, List.set_cons_zero, List.set_cons_succ]
            refine wpAnyH_take (i := 4) (oi := ⟨_, _, _, _, _, _⟩) (v := undef) rfl (by kernel_rfl) (by kernel_rfl) (by kernel_rfl) (fun _ _ _ h => h) (Or.inr ⟨by rfl, rfl⟩) hHT_0 ?_
            try simp only [Act.put, List.setIfInBounds_toArray, List.set_cons_zero, List.set_cons_succ]
            refine wpAnyH_take (i := 5) (oi := ⟨_, _, _, _, _, _⟩) (v := undef) rfl (by kernel_rfl) (by kernel_rfl) (by kernel_rfl) (fun _ _ _ h => h) (Or.inr ⟨by rfl, rfl⟩) hHT_0 ?_
            try simp only [Act.put, List.setIfInBounds_toArray, List.set_cons_zero, List.set_cons_succ]
            refine wpAnyH_take (i := 6) (oi := ⟨_, _, _, _, _, _⟩) (v := undef) rfl (by kernel_rfl) (by kernel_rfl) (by kernel_rfl) (fun _ _ _ h => h) (Or.inr ⟨by rfl, rfl⟩) hHT_0 ?_
            try simp only [Act.put, List.setIfInBounds_toArray, List.set_cons_zero, List.set_cons_succ]
            refine wpAnyH_take (i := 7) (oi := ⟨_, _, _, _, _, _⟩) (v := undef) rfl (by kernel_rfl) (by kernel_rfl) (by kernel_rfl) (fun _ _ _ h => h) (Or.inr ⟨by rfl, rfl⟩) hHT_0 ?_
            try simp only [Act.put, List.setIfInBounds_toArray, List.set_cons_zero, List.set_cons_succ]
            refine wpAnyH_take (i := 8) (oi := ⟨_, _, _, _, _, _⟩) (v := undef) rfl (by kernel_rfl) (by kernel_rfl) (by kernel_rfl) (fun _ _ _ h => h) (Or.inr ⟨by rfl, rfl⟩) hHT_0 ?_
            try simp only [Act.put, List.setIfInBounds_toArray, List.set_cons_zero, List.set_cons_succ]
            refine wpAnyH_take (i := 9) (oi := ⟨_, _, _, _, _, _⟩) (v := undef) rfl (by kernel_rfl) (by kernel_rfl) (by kernel_rfl) (fun _ _ _ h => h) (Or.inr ⟨by rfl, rfl⟩) hHT_0 ?_
            try simp only [Act.put, List.setIfInBounds_toArray, List.set_cons_zero, List.set_cons_succ]
            refine wpAnyH_take (i := 10) (oi := ⟨_, _, _, _, _, _⟩) (v := undef) rfl (by kernel_rfl) (by kernel_rfl) (by kernel_rfl) (fun _ _ _ h => h) (Or.inr ⟨by rfl, rfl⟩) hHT_0 ?_
            try simp only [Act.put, List.setIfInBounds_toArray, List.set_cons_zero, List.set_cons_succ]
            refine wpAnyH_take (i := 11) (oi := ⟨_, _, _, _, _, _⟩) (v := undef) rfl (by kernel_rfl) (by kernel_rfl) (by kernel_rfl) (fun _ _ _ h => h) (Or.inr ⟨by rfl, rfl⟩) hHT_0 ?_
            try simp only [Act.put, List.setIfInBounds_toArray, List.set_cons_zero, List.set_cons_succ]
            refine wpAnyH_take (i := 12) (oi := ⟨_, _, _, _, _, _⟩) (v := undef) rfl (by kernel_rfl) (by kernel_rfl) (by kernel_rfl) (fun _ _ _ h => h) (Or.inr ⟨by rfl, rfl⟩) hHT_0 ?_
            try simp only [Act.put, List.setIfInBounds_toArray, List.set_cons_zero, List.set_cons_succ]
            refine wpAnyH_take (i := 13) (oi := ⟨_, _, _, _, _, _⟩) (v := undef) rfl (by kernel_rfl) (by kernel_rfl) (by kernel_rfl) (fun _ _ _ h => h) (Or.inr ⟨by rfl, rfl⟩) hHT_0 ?_
            try simp only [Act.put, List.setIfInBounds_toArray, List.set_cons_zero, List.set_cons_succ]
            refine wpAnyH_take (i := 14) (oi := ⟨_, _, _, _, _, _⟩) (v := undef) rfl (by kernel_rfl) (by kernel_rfl) (by kernel_rfl) (fun _ _ _ h => h) (Or.inr ⟨by rfl, rfl⟩) hHT_0 ?_
            try simp only [Act.put, List.setIfInBounds_toArray, List.set_cons_zero, List.set_cons_succ]
            refine wpAnyH_take (i := 15) (oi := ⟨_, _, _, _, _, _⟩) (v := ?_) rfl (by kernel_rfl) (by kernel_rfl) (by kernel_rfl) (fun _ _ _ h => h) (Or.inl ⟨by rfl, ?_⟩) hHT_0 ?_
            rotate_left
            · intro wS hSw; (try dsimp only at hSw); go_simp; try with_reducible rfl
            try simp only [Act.put, List.setIfInBounds_toArray, List.set_cons_zero, List.set_cons_succ]
            refine wpAnyH_take (i := 16) (oi := ⟨_, _, _, _, _, _⟩) (v := ?_) rfl (by kernel_rfl) (by kernel_rfl) (by kernel_rfl) (fun _ _ _ h => h) (Or.inl ⟨by rfl, ?_⟩) hHT_0 ?_
            rotate_left
            · intro wS hSw; (try dsimp only at hSw); go_simp; try with_reducible rfl
            try simp only [Act.put, List.setIfInBounds_toArray, List.set_cons_zero, List.set_cons_succ]
            refine wpAnyH_take (i := 17) (oi := ⟨_, _, _, _, _, _⟩) (v := undef) rfl (by kernel_rfl) (by kernel_rfl) (by kernel_rfl) (fun _ _ _ h => h) (Or.inr ⟨by rfl, rfl⟩) hHT_0 ?_
            try simp only [Act.put, List.setIfInBounds_toArray, List.set_cons_zero, List.set_cons_succ]
            refine wpAnyH_take (i := 18) (oi := ⟨_, _, _, _, _, _⟩) (v := undef) rfl (by kernel_rfl) (by kernel_rfl) (by kernel_rfl) (fun _ _ _ h => h) (Or.inr ⟨by rfl, rfl⟩) hHT_0 ?_
            try simp only [Act.put, List.setIfInBounds_toArray, List.set_cons_zero, List.set_cons_succ]
            refine wpAnyH_take (i := 19) (oi := ⟨_, _, _, _, _, _⟩) (v := undef) rfl (by kernel_rfl) (by kernel_rfl) (by kernel_rfl) (fun _ _ _ h => h) (Or.inr ⟨by rfl, rfl⟩) hHT_0 ?_
            try simp only [Act.put, List.setIfInBounds_toArray, List.set_cons_zero, List.set_cons_succ]
            refine wpAnyH_take (i := 20) (oi := ⟨_, _, _, _, _, _⟩) (v := undef) rfl (by kernel_rfl) (by kernel_rfl) (by kernel_rfl) (fun _ _ _ h => h) (Or.inr ⟨by rfl, rfl⟩) hHT_0 ?_
            try simp only [Act.put, List.setIfInBounds_toArray, List.set_cons_zero, List.set_cons_succ]
            refine wpAnyH_take (i := 21) (oi := ⟨_, _, _, _, _, _⟩) (v := undef) rfl (by kernel_rfl) (by kernel_rfl) (by kernel_rfl) (fun _ _ _ h => h) (Or.inr ⟨by rfl, rfl⟩) hHT_0 ?_
            try simp only [Act.put, List.setIfInBounds_toArray, List.set_cons_zero, List.set_cons_succ]
            refine wpAnyH_take (i := 22) (oi := ⟨_, _, _, _, _, _⟩) (v := undef) rfl (by kernel_rfl) (by kernel_rfl) (by kernel_rfl) (fun _ _ _ h => h) (Or.inr ⟨by rfl, rfl⟩) hHT_0 ?_
            try simp only [Act.put, List.setIfInBounds_toArray, List.set_cons_zero, List.set_cons_succ]
            refine wpAnyH_take (i := 23) (oi := ⟨_, _, _, _, _, _⟩) (v := undef) rfl (by kernel_rfl) (by kernel_rfl) (by kernel_rfl) (fun _ _ _ h => h) (Or.inr ⟨by rfl, rfl⟩) hHT_0 ?_
            try simp only [Act.put, List.setIfInBounds_toArray, List.set_cons_zero, List.set_cons_succ]
            refine wpAnyH_take (i := 24) (oi := ⟨_, _, _, _, _, _⟩) (v := undef) rfl (by kernel_rfl) (by kernel_rfl) (by kernel_rfl) (fun _ _ _ h => h) (Or.inr ⟨by rfl, rfl⟩) hHT_0 ?_
            try simp only [Act.put, List.setIfInBounds_toArray, List.set_cons_zero, List.set_cons_succ]
            refine wpAnyH_take (i := 25) (oi := ⟨_, _, _, _, _, _⟩) (v := undef) rfl (by kernel_rfl) (by kernel_rfl) (by kernel_rfl) (fun _ _ _ h => h) (Or.inr ⟨by rfl, rfl⟩) hHT_0 ?_
            try simp only [Act.put, List.setIfInBounds_toArray, List.set_cons_zero, List.set_cons_succ]
            refine wpAnyH_take (i := 26) (oi := ⟨_, _, _, _, _, _⟩) (v := undef) rfl (by kernel_rfl) (by kernel_rfl) (by kernel_rfl) (fun _ _ _ h => h) (Or.inr ⟨by rfl, rfl⟩) hHT_0 ?_
            try simp only [Act.put, List.setIfInBounds_toArray, List.set_cons_zero, List.set_cons_succ]
            refine wpAnyH_take (i := 27) (oi := ⟨_, _, _, _, _, _⟩) (v := ?_) rfl (by kernel_rfl) (by kernel_rfl) (by kernel_rfl) (fun _ _ _ h => h) (Or.inl ⟨by rfl, ?_⟩) hHT_0 ?_
            rotate_left
            · intro wS hSw; (try dsimp only at hSw); go_simp; try with_reducible rfl
            try simp only [Act.put, List.setIfInBounds_toArray, List.set_cons_zero, List.set_cons_succ]
            refine wpAnyH_done (by kernel_rfl) ?_ _
            go_wp2
            go_ret
            exact ⟨ret_bool HB.out.symm, hVT_0.out.be⟩
          · have HOK := Lib.hid (HOI.out _ h2)
            rw [h1] at HFS
            have hsb : sheetB S[k2] = true := by
              have h := HSY.out k2 hk2
              rw [okSheet_at hk2, Bool.and_eq_true] at h
              exact h.2
            have HHT : 1 ≤ S[k2].height ∧ S[k2].height ≤ 3000 := by
              unfold sheetB at hsb
              simp only [Bool.and_eq_true] at hsb
              exact (nums_get hsb.1.1.1.1.2).2.2.1
            obtain ⟨g0, o0, rfl⟩ := HS.out.row.addr (by omega)
            have HR := Lib.hid (fun W (hW : Below w.heap.size w W) => (HS.out.row.below hW).range (f := cS) (fun _ => rfl) hk2)
            have HVB := Lib.hid (fun W h => HVW.out W h S[k2] HHT)
            have e0 : (0 : Int) ≤ (k2 : Int) := by omega
            have e1 : (k2 : Int) < (S.length : Int) := by omega
            have e2 : decide ((k2 : Int) < 0) = false := decide_eq_false (by omega)
            clear h1 h2 hsb HHT HVW HOI HOA x0 x1
            generalize S[k2] = s at *
            obtain ⟨V, hV⟩ : ∃ V, Value.agg (cS s).toArray = V := ⟨_, rfl⟩
            have HV := Lib.hid hV
            rw [show aS s = V from hV] at HVB
            clear hV
            refine wp_region_held_drew (S := (fun w' => w'.cell? ⟨bp, 0, none⟩ = some (.slice (some ⟨g0, o0, none⟩) S.length sc) ∧ w'.cell? ⟨bp, 1, none⟩ = some (.slice (some ⟨g1, o1, none⟩) L.length wc) ∧ w'.cell? ⟨g1, o1 + m * 4 + 1, none⟩ = some (.string x.sheet) ∧ True)) (by kernel_rfl) ⟨hC.out.drew.cell 0 0 rfl rfl, hC.out.drew.cell 0 1 rfl rfl, (HY.out _ hC.out.drew.be).2.1, trivial⟩ (fun hH => ?_)
            refine wpAnyH_geny (show Sy w _ [(bp, #[.slice (some ⟨g0, o0, none⟩) S.length sc, .slice (some ⟨g1, o1, none⟩) L.length wc], 25)] [] [] from hC.out.drew) hH ?_
            intro VNB_0 hc hHNB_0
            have hVNB_0 := Lib.hid hc
            clear hc hH hC
            refine wpAnyH_take (i := 0) (oi := ⟨_, _, _, _, _, _⟩) (v := ?_) rfl (by kernel_rfl) (by kernel_rfl) (by kernel_rfl) (fun _ _ _ h => h) (Or.inl ⟨by rfl, ?_⟩) hHNB_0 ?_
            rotate_left
            · intro wS hSw; (try dsimp only at hSw); go_simp; try with_reducible rfl
            try simp only [Act.put, List.setIfInBounds_toArray, List.set_cons_zero, List.set_cons_succ]
            refine wpAnyH_take (i := 1) (oi := ⟨_, _, _, _, _, _⟩) (v := ?_) rfl (by kernel_rfl) (by kernel_rfl) (by kernel_rfl) (fun _ _ _ h => h) (Or.inl ⟨by rfl, ?_⟩) hHNB_0 ?_
            rotate_left
            · intro wS hSw; (try dsimp only at hSw); go_simp; try with_reducible rfl
            try simp only [Act.put, List.setIfInBounds_toArray, List.set_cons_zero, List.set_cons_succ]
            refine wpAnyH_take (i := 2) (oi := ⟨_, _, _, _, _, _⟩) (v := ?_) rfl (by kernel_rfl) (by kernel_rfl) (by kernel_rfl) (fun _ _ _ h => h) (Or.inl ⟨by rfl, ?_⟩) hHNB_0 ?_
            rotate_left
            · intro wS hSw; (try dsimp only at hSw); go_simp; try with_reducible rfl
            try simp only [Act.put, List.setIfInBounds_toArray, List.set_cons_zero, List.set_cons_succ]
            refine wpAnyH_take (i := 3) (oi := ⟨_, _, _, _, _, _⟩) (v := ?_) rfl (by kernel_rfl) (by kernel_rfl) (by kernel_rfl) (fun _ _ _ h => h) (Or.inl ⟨by rfl, ?_⟩) hHNB_0 ?_
            rotate_left
            · intro wS hSw; (try dsimp only at hSw); go_simp; try with_reducible rfl
            try simp only [Act.put, List.setIfInBounds_toArray, List.set_cons_zero, List.set_cons_succ]
            refine wpAnyH_take (i := 4) (oi := ⟨_, _, _, _, _, _⟩) (v := ?_) rfl (by kernel_rfl) (by kernel_rfl) (by kernel_rfl) (fun _ _ _ h => h) (Or.inl ⟨by rfl, ?_⟩) hHNB_0 ?_
            rotate_left
            · intro wS hSw; (try dsimp only at hSw); go_simp; try with_reducible rfl
            try simp only [Act.put, List.setIfInBounds_toArray, List.set_cons_zero, List.set_cons_succ]
            refine wpAnyH_take (i := 5) (oi := ⟨_, _, _, _, _, _⟩) (v := ?_) rfl (by kernel_rfl) (by kernel_rfl) (by kernel_rfl) (fun _ _ _ h => h) (Or.inl ⟨by rfl, ?_⟩) hHNB_0 ?_
            rotate_left
            · intro wS hSw; (try dsimp only at hSw); go_simp; try with_reducible rfl
            try simp only [Act.put, List.setIfInBounds_toArray, List.set_cons_zero, List.set_cons_succ]
            refine wpAnyH_take (i := 6) (oi := ⟨_, _, _, _, _, _⟩) (v := ?_) rfl (by kernel_rfl) (by kernel_rfl) (by kernel_rfl) (fun _ _ _ h => h) (Or.inl ⟨by rfl, ?_⟩) hHNB_0 ?_
            rotate_left
            · intro wS hSw; (try dsimp only at hSw); go_simp; try with_reducible rfl
            try simp only [Act.put, List.setIfInBounds_toArray, List.set_cons_zero, List.set_cons_succ]
            refine wpAnyH_ready (rs := [7]) (by kernel_rfl) (by simp) ?_
            refine AllReadyH.cons (o := ⟨_, _, _, _, _, _⟩) rfl (fun Kq hKq => ?_) AllReadyH.nil
            go_simp
            go_at_call 16
            refine (HFS.out _ hVNB_0.out.be).mono ?_
            rintro e wT ⟨rfl, hb⟩
            (try go_wp2_with fail)
            refine stepY hKq (show Sy w _ [(bp, #[.slice (some ⟨g0, o0, none⟩) S.length sc, .slice (some ⟨g1, o1, none⟩) L.length wc], 25)] [] [] from (hVNB_0.out.call hb)) (fun _ hX => ⟨hX.cell 0 0 rfl rfl, hX.cell 0 1 rfl rfl, (HY.out _ hX.be).2.1, trivial⟩) ?_
            intro VNB_1 hc hHNB_1
            have hVNB_1 := Lib.hid hc
            clear hc hKq Kq hVNB_0 hb hHNB_0
            try simp only [Act.put, List.setIfInBounds_toArray, List.set_cons_zero, List.set_cons_succ]
            refine wpAnyH_ready (rs := [8]) (by kernel_rfl) (by simp) ?_
            refine AllReadyH.cons (o := ⟨_, _, _, _, _, _⟩) rfl (fun Kq hKq => ?_) AllReadyH.nil
            go_simp
            refine stepY hKq (show Sy w _ [(bp, #[.slice (some ⟨g0, o0, none⟩) S.length sc, .slice (some ⟨g1, o1, none⟩) L.length wc], 25)] [] [] from hVNB_1.out) (fun _ hX => ⟨hX.cell 0 0 rfl rfl, hX.cell 0 1 rfl rfl, (HY.out _ hX.be).2.1, trivial⟩) ?_
            intro VNB_2 hc hHNB_2
            have hVNB_2 := Lib.hid hc
            clear hc hKq Kq hVNB_1 hHNB_1
            try simp only [Act.put, List.setIfInBounds_toArray, List.set_cons_zero, List.set_cons_succ]
            refine wpAnyH_done (by kernel_rfl) ?_ _
            go_upto_region 10 with fail
            cases hwb : wallB x s
            · rw [hwb] at HVB HOK
              have HB := Lib.hid (HNO.out (by rw [HOK.out]; rfl))
              clear hwb HNO HNX HOK HFW
              refine wp_region_held_drew (S := (fun w' => w'.cell? ⟨bp, 0, none⟩ = some (.slice (some ⟨g0, o0, none⟩) S.length sc) ∧ w'.cell? ⟨bp, 1, none⟩ = some (.slice (some ⟨g1, o1, none⟩) L.length wc) ∧ w'.cell? ⟨g1, o1 + m * 4, none⟩ = some (.string x.name) ∧ w'.cell? ⟨g1, o1 + m * 4 + 1, none⟩ = some (.string x.sheet) ∧ w'.cell? ⟨g1, o1 + m * 4 + 2, none⟩ = some (.int .i64 x.len) ∧ w'.cell? ⟨g1, o1 + m * 4 + 3, none⟩ = some (.slice x.oa x.on x.oc) ∧ w'.rangeAt g0 (o0 + k2 * 20) (cS s) ∧ True)) (by kernel_rfl) ⟨hVNB_2.out.drew.cell 0 0 rfl rfl, hVNB_2.out.drew.cell 0 1 rfl rfl, (HY.out _ hVNB_2.out.drew.be).1, (HY.out _ hVNB_2.out.drew.be).2.1, (HY.out _ hVNB_2.out.drew.be).2.2.1, (HY.out _ hVNB_2.out.drew.be).2.2.2, (HR.out _ hVNB_2.out.drew.be), trivial⟩ (fun hH => ?_)
              refine wpAnyH_geny (show Sy w _ [(bp, #[.slice (some ⟨g0, o0, none⟩) S.length sc, .slice (some ⟨g1, o1, none⟩) L.length wc], 25)] [] [] from hVNB_2.out.drew) hH ?_
              intro VC_0 hc hHC_0
              have hVC_0 := Lib.hid hc
              clear hc hH hVNB_2
              refine wpAnyH_take (i := 0) (oi := ⟨_, _, _, _, _, _⟩) (v := ?_) rfl (by kernel_rfl) (by kernel_rfl) (by kernel_rfl) (fun _ _ _ h => h) (Or.inl ⟨by rfl, ?_⟩) hHC_0 ?_
              rotate_left
              · intro wS hSw; (try dsimp only at hSw); go_simp; try with_reducible rfl
              try simp only [Act.put, List.setIfInBounds_toArray, List.set_cons_zero, List.set_cons_succ]
              refine wpAnyH_take (i := 1) (oi := ⟨_, _, _, _, _, _⟩) (v := ?_) rfl (by kernel_rfl) (by kernel_rfl) (by kernel_rfl) (fun _ _ _ h => h) (Or.inl ⟨by rfl, ?_⟩) hHC_0 ?_
              rotate_left
              · intro wS hSw; (try dsimp only at hSw); go_simp; try with_reducible rfl
              try simp only [Act.put, List.setIfInBounds_toArray, List.set_cons_zero, List.set_cons_succ]
              refine wpAnyH_take (i := 2) (oi := ⟨_, _, _, _, _, _⟩) (v := ?_) rfl (by kernel_rfl) (by kernel_rfl) (by kernel_rfl) (fun _ _ _ h => h) (Or.inl ⟨by rfl, ?_⟩) hHC_0 ?_
              rotate_left
              · intro wS hSw; (try dsimp only at hSw); go_simp; try with_reducible rfl
              try simp only [Act.put, List.setIfInBounds_toArray, List.set_cons_zero, List.set_cons_succ]
              refine wpAnyH_take (i := 3) (oi := ⟨_, _, _, _, _, _⟩) (v := ?_) rfl (by kernel_rfl) (by kernel_rfl) (by kernel_rfl) (fun _ _ _ h => h) (Or.inl ⟨by rfl, ?_⟩) hHC_0 ?_
              rotate_left
              · intro wS hSw; (try dsimp only at hSw); go_simp; try with_reducible rfl
              try simp only [Act.put, List.setIfInBounds_toArray, List.set_cons_zero, List.set_cons_succ]
              refine wpAnyH_take (i := 4) (oi := ⟨_, _, _, _, _, _⟩) (v := ?_) rfl (by kernel_rfl) (by kernel_rfl) (by kernel_rfl) (fun _ _ _ h => h) (Or.inl ⟨by rfl, ?_⟩) hHC_0 ?_
              rotate_left
              · intro wS hSw; (try dsimp only at hSw); go_simp; try with_reducible rfl
              try simp only [Act.put, List.setIfInBounds_toArray, List.set_cons_zero, List.set_cons_succ]
              refine wpAnyH_take (i := 5) (oi := ⟨_, _, _, _, _, _⟩) (v := ?_) rfl (by kernel_rfl) (by kernel_rfl) (by kernel_rfl) (fun _ _ _ h => h) (Or.inl ⟨by rfl, ?_⟩) hHC_0 ?_
              rotate_left
              · intro wS hSw; (try dsimp only at hSw); go_simp; try with_reducible rfl
              try simp only [Act.put, List.setIfInBounds_toArray, List.set_cons_zero, List.set_cons_succ]
              refine wpAnyH_take (i := 6) (oi := ⟨_, _, _, _, _, _⟩) (v := ?_) rfl (by kernel_rfl) (by kernel_rfl) (by kernel_rfl) (fun _ _ _ h => h) (Or.inl ⟨by rfl, ?_⟩) hHC_0 ?_
              rotate_left
              · intro wS hSw; (try dsimp only at hSw); go_simp; try with_reducible rfl
              try simp only [Act.put, List.setIfInBounds_toArray, List.set_cons_zero, List.set_cons_succ]
              refine wpAnyH_take (i := 7) (oi := ⟨_, _, _, _, _, _⟩) (v := ?_) rfl (by kernel_rfl) (by kernel_rfl) (by kernel_rfl) (fun _ _ _ h => h) (Or.inl ⟨by rfl, ?_⟩) hHC_0 ?_
              rotate_left
              · intro wS hSw; (try dsimp only at hSw); go_simp; try with_reducible rfl
              try simp only [Act.put, List.setIfInBounds_toArray, List.set_cons_zero, List.set_cons_succ]
              refine wpAnyH_take (i := 8) (oi := ⟨_, _, _, _, _, _⟩) (v := ?_) rfl (by kernel_rfl) (by kernel_rfl) (by kernel_rfl) (fun _ _ _ h => h) (Or.inl ⟨by rfl, ?_⟩) hHC_0 ?_
              rotate_left
              · intro wS hSw; (try dsimp only at hSw); go_simp; try with_reducible rfl
              try simp only [Act.put, List.setIfInBounds_toArray, List.set_cons_zero, List.set_cons_succ]
              refine wpAnyH_take (i := 9) (oi := ⟨_, _, _, _, _, _⟩) (v := ?_) rfl (by kernel_rfl) (by kernel_rfl) (by kernel_rfl) (fun _ _ _ h => h) (Or.inl ⟨by rfl, ?_⟩) hHC_0 ?_
              rotate_left
              · intro wS hSw; (try dsimp only at hSw); go_simp; try with_reducible rfl
              try simp only [Act.put, List.setIfInBounds_toArray, List.set_cons_zero, List.set_cons_succ]
              refine wpAnyH_take (i := 10) (oi := ⟨_, _, _, _, _, _⟩) (v := ?_) rfl (by kernel_rfl) (by kernel_rfl) (by kernel_rfl) (fun _ _ _ h => h) (Or.inl ⟨by rfl, ?_⟩) hHC_0 ?_
              rotate_left
              · intro wS hSw; (try dsimp only at hSw); go_simp; try with_reducible rfl
              try simp only [Act.put, List.setIfInBounds_toArray, List.set_cons_zero, List.set_cons_succ]
              refine wpAnyH_take (i := 11) (oi := ⟨_, _, _, _, _, _⟩) (v := ?_) rfl (by kernel_rfl) (by kernel_rfl) (by kernel_rfl) (fun _ _ _ h => h) (Or.inl ⟨by rfl, ?_⟩) hHC_0 ?_
              rotate_left
              · intro wS hSw; (try dsimp only at hSw); go_simp; try with_reducible rfl
              try simp only [Act.put, List.setIfInBounds_toArray, List.set_cons_zero, List.set_cons_succ]
              refine wpAnyH_take (i := 12) (oi := ⟨_, _, _, _, _, _⟩) (v := V) rfl (by kernel_rfl) (by kernel_rfl) (by kernel_rfl) (fun _ _ _ h => h) (yieldsIf_ld (by rfl) _ _ rfl g0 (o0 + k2 * 20) rfl (cS s) _ (fun _ h => h.2.2.2.2.2.2.1) Tryz.underlying53 rfl info_RSheet V HV.out) hHC_0 ?_
              try simp only [Act.put, List.setIfInBounds_toArray, List.set_cons_zero, List.set_cons_succ]
              refine wpAnyH_ready (rs := [13]) (by kernel_rfl) (by simp) ?_
              refine AllReadyH.cons (o := ⟨_, _, _, _, _, _⟩) rfl (fun Kq hKq => ?_) AllReadyH.nil
              go_simp
              go_at_call 36
              refine (HVB.out _ hVC_0.out.be).mono ?_
              rintro e wT ⟨rfl, hb⟩
              (try go_wp2_with fail)
              refine stepY hKq (show Sy w _ [(bp, #[.slice (some ⟨g0, o0, none⟩) S.length sc, .slice (some ⟨g1, o1, none⟩) L.length wc], 25)] [] [] from (hVC_0.out.call hb)) (fun _ hX => ⟨hX.cell 0 0 rfl rfl, hX.cell 0 1 rfl rfl, (HY.out _ hX.be).1, (HY.out _ hX.be).2.1, (HY.out _ hX.be).2.2.1, (HY.out _ hX.be).2.2.2, (HR.out _ hX.be), trivial⟩) ?_
              intro VC_1 hc hHC_1
              have hVC_1 := Lib.hid hc
              clear hc hKq Kq hVC_0 hb hHC_0
              try simp only [Act.put, List.setIfInBounds_toArray, List.set_cons_zero, List.set_cons_succ]
              refine wpAnyH_take (i := 14) (oi := ⟨_, _, _, _, _, _⟩) (v := ?_) rfl (by kernel_rfl) (by kernel_rfl) (by kernel_rfl) (fun _ _ _ h => h) (Or.inl ⟨by rfl, ?_⟩) hHC_1 ?_
              rotate_left
              · intro wS hSw; (try dsimp only at hSw); go_simp; try with_reducible rfl
              try simp only [Act.put, List.setIfInBounds_toArray, List.set_cons_zero, List.set_cons_succ]
              refine wpAnyH_take (i := 15) (oi := ⟨_, _, _, _, _, _⟩) (v := ?_) rfl (by kernel_rfl) (by kernel_rfl) (by kernel_rfl) (fun _ _ _ h => h) (Or.inl ⟨by rfl, ?_⟩) hHC_1 ?_
              rotate_left
              · intro wS hSw; (try dsimp only at hSw); go_simp; try with_reducible rfl
              try simp only [Act.put, List.setIfInBounds_toArray, List.set_cons_zero, List.set_cons_succ]
              refine wpAnyH_take (i := 16) (oi := ⟨_, _, _, _, _, _⟩) (v := ?_) rfl (by kernel_rfl) (by kernel_rfl) (by kernel_rfl) (fun _ _ _ h => h) (Or.inl ⟨by rfl, ?_⟩) hHC_1 ?_
              rotate_left
              · intro wS hSw; (try dsimp only at hSw); go_simp; try with_reducible rfl
              try simp only [Act.put, List.setIfInBounds_toArray, List.set_cons_zero, List.set_cons_succ]
              refine wpAnyH_take (i := 17) (oi := ⟨_, _, _, _, _, _⟩) (v := undef) rfl (by kernel_rfl) (by kernel_rfl) (by kernel_rfl) (fun _ _ _ h => h) (Or.inr ⟨by rfl, rfl⟩) hHC_1 ?_
              try simp only [Act.put, List.setIfInBounds_toArray, List.set_cons_zero, List.set_cons_succ]
              refine wpAnyH_take (i := 18) (oi := ⟨_, _, _, _, _, _⟩) (v := undef) rfl (by kernel_rfl) (by kernel_rfl) (by kernel_rfl) (fun _ _ _ h => h) (Or.inr ⟨by rfl, rfl⟩) hHC_1 ?_
              try simp only [Act.put, List.setIfInBounds_toArray, List.set_cons_zero, List.set_cons_succ]
              refine wpAnyH_take (i := 19) (oi := ⟨_, _, _, _, _, _⟩) (v := undef) rfl (by kernel_rfl) (by kernel_rfl) (by kernel_rfl) (fun _ _ _ h => h) (Or.inr ⟨by rfl, rfl⟩) hHC_1 ?_
              try simp only [Act.put, List.setIfInBounds_toArray, List.set_cons_zero, List.set_cons_succ]
              refine wpAnyH_take (i := 20) (oi := ⟨_, _, _, _, _, _⟩) (v := undef) rfl (by kernel_rfl) (by kernel_rfl) (by kernel_rfl) (fun _ _ _ h => h) (Or.inr ⟨by rfl, rfl⟩) hHC_1 ?_
              try simp only [Act.put, List.setIfInBounds_toArray, List.set_cons_zero, List.set_cons_succ]
              refine wpAnyH_take (i := 21) (oi := ⟨_, _, _, _, _, _⟩) (v := undef) rfl (by kernel_rfl) (by kernel_rfl) (by kernel_rfl) (fun _ _ _ h => h) (Or.inr ⟨by rfl, rfl⟩) hHC_1 ?_
              try simp only [Act.put, List.setIfInBounds_toArray, List.set_cons_zero, List.set_cons_succ]
              refine wpAnyH_take (i := 22) (oi := ⟨_, _, _, _, _, _⟩) (v := undef) rfl (by kernel_rfl) (by kernel_rfl) (by kernel_rfl) (fun _ _ _ h => h) (Or.inr ⟨by rfl, rfl⟩) hHC_1 ?_
              try simp only [Act.put, List.setIfInBounds_toArray, List.set_cons_zero, List.set_cons_succ]
              refine wpAnyH_take (i := 23) (oi := ⟨_, _, _, _, _, _⟩) (v := undef) rfl (by kernel_rfl) (by kernel_rfl) (by kernel_rfl) (fun _ _ _ h => h) (Or.inr ⟨by rfl, rfl⟩) hHC_1 ?_
              try simp only [Act.put, List.setIfInBounds_toArray, List.set_cons_zero, List.set_cons_succ]
              refine wpAnyH_take (i := 24) (oi := ⟨_, _, _, _, _, _⟩) (v := undef) rfl (by kernel_rfl) (by kernel_rfl) (by kernel_rfl) (fun _ _ _ h => h) (Or.inr ⟨by rfl, rfl⟩) hHC_1 ?_
              try simp only [Act.put, List.setIfInBounds_toArray, List.set_cons_zero, List.set_cons_succ]
              refine wpAnyH_take (i := 25) (oi := ⟨_, _, _, _, _, _⟩) (v := undef) rfl (by kernel_rfl) (by kernel_rfl) (by kernel_rfl) (fun _ _ _ h => h) (Or.inr ⟨by rfl, rfl⟩) hHC_1 ?_
              try simp only [Act.put, List.setIfInBounds_toArray, List.set_cons_zero, List.set_cons_succ]
              refine wpAnyH_take (i := 26) (oi := ⟨_, _, _, _, _, _⟩) (v := undef) rfl (by kernel_rfl) (by kernel_rfl) (by kernel_rfl) (fun _ _ _ h => h) (Or.inr ⟨by rfl, rfl⟩) hHC_1 ?_
              try simp only [Act.put, List.setIfInBounds_toArray, List.set_cons_zero, List.set_cons_succ]
              refine wpAnyH_take (i := 27) (oi := ⟨_, _, _, _, _, _⟩) (v := ?_) rfl (by kernel_rfl) (by kernel_rfl) (by kernel_rfl) (fun _ _ _ h => h) (Or.inl ⟨by rfl, ?_⟩) hHC_1 ?_
              rotate_left
              · intro wS hSw; (try dsimp only at hSw); go_simp; try with_reducible rfl
              try simp only [Act.put, List.setIfInBounds_toArray, List.set_cons_zero, List.set_cons_succ]
              refine wpAnyH_done (by kernel_rfl) ?_ _
              go_wp2
              go_ret
              exact ⟨ret_bool HB.out.symm, hVC_1.out.be⟩
            rw [hwb] at HVB HOK
            clear hwb
            cases hr : (r2 != (m : Int))
            · have HB := Lib.hid (HNX.out (by rw [HOK.out, Bool.true_and]; simpa using hr))
              clear HNO HNX HOK
              refine wp_region_held_drew (S := (fun w' => w'.cell? ⟨bp, 0, none⟩ = some (.slice (some ⟨g0, o0, none⟩) S.length sc) ∧ w'.cell? ⟨bp, 1, none⟩ = some (.slice (some ⟨g1, o1, none⟩) L.length wc) ∧ w'.cell? ⟨g1, o1 + m * 4, none⟩ = some (.string x.name) ∧ w'.cell? ⟨g1, o1 + m * 4 + 1, none⟩ = some (.string x.sheet) ∧ w'.cell? ⟨g1, o1 + m * 4 + 2, none⟩ = some (.int .i64 x.len) ∧ w'.cell? ⟨g1, o1 + m * 4 + 3, none⟩ = some (.slice x.oa x.on x.oc) ∧ w'.rangeAt g0 (o0 + k2 * 20) (cS s) ∧ True)) (by kernel_rfl) ⟨hVNB_2.out.drew.cell 0 0 rfl rfl, hVNB_2.out.drew.cell 0 1 rfl rfl, (HY.out _ hVNB_2.out.drew.be).1, (HY.out _ hVNB_2.out.drew.be).2.1, (HY.out _ hVNB_2.out.drew.be).2.2.1, (HY.out _ hVNB_2.out.drew.be).2.2.2, (HR.out _ hVNB_2.out.drew.be), trivial⟩ (fun hH => ?_)
              refine wpAnyH_geny (show Sy w _ [(bp, #[.slice (some ⟨g0, o0, none⟩) S.length sc, .slice (some ⟨g1, o1, none⟩) L.length wc], 25)] [] [] from hVNB_2.out.drew) hH ?_
              intro VD_0 hc hHD_0
              have hVD_0 := Lib.hid hc
              clear hc hH hVNB_2
              refine wpAnyH_take (i := 0) (oi := ⟨_, _, _, _, _, _⟩) (v := ?_) rfl (by kernel_rfl) (by kernel_rfl) (by kernel_rfl) (fun _ _ _ h => h) (Or.inl ⟨by rfl, ?_⟩) hHD_0 ?_
              rotate_left
              · intro wS hSw; (try dsimp only at hSw); go_simp; try with_reducible rfl
              try simp only [Act.put, List.setIfInBounds_toArray, List.set_cons_zero, List.set_cons_succ]
              refine wpAnyH_take (i := 1) (oi := ⟨_, _, _, _, _, _⟩) (v := ?_) rfl (by kernel_rfl) (by kernel_rfl) (by kernel_rfl) (fun _ _ _ h => h) (Or.inl ⟨by rfl, ?_⟩) hHD_0 ?_
              rotate_left
              · intro wS hSw; (try dsimp only at hSw); go_simp; try with_reducible rfl
              try simp only [Act.put, List.setIfInBounds_toArray, List.set_cons_zero, List.set_cons_succ]
              refine wpAnyH_take (i := 2) (oi := ⟨_, _, _, _, _, _⟩) (v := ?_) rfl (by kernel_rfl) (by kernel_rfl) (by kernel_rfl) (fun _ _ _ h => h) (Or.inl ⟨by rfl, ?_⟩) hHD_0 ?_
              rotate_left
              · intro wS hSw; (try dsimp only at hSw); go_simp; try with_reducible rfl
              try simp only [Act.put, List.setIfInBounds_toArray, List.set_cons_zero, List.set_cons_succ]
              refine wpAnyH_take (i := 3) (oi := ⟨_, _, _, _, _, _⟩) (v := ?_) rfl (by kernel_rfl) (by kernel_rfl) (by kernel_rfl) (fun _ _ _ h => h) (Or.inl ⟨by rfl, ?_⟩) hHD_0 ?_
              rotate_left
              · intro wS hSw; (try dsimp only at hSw); go_simp; try with_reducible rfl
              try simp only [Act.put, List.setIfInBounds_toArray, List.set_cons_zero, List.set_cons_succ]
              refine wpAnyH_take (i := 4) (oi := ⟨_, _, _, _, _, _⟩) (v := ?_) rfl (by kernel_rfl) (by kernel_rfl) (by kernel_rfl) (fun _ _ _ h => h) (Or.inl ⟨by rfl, ?_⟩) hHD_0 ?_
              rotate_left
              · intro wS hSw; (try dsimp only at hSw); go_simp; try with_reducible rfl
              try simp only [Act.put, List.setIfInBounds_toArray, List.set_cons_zero, List.set_cons_succ]
              refine wpAnyH_take (i := 5) (oi := ⟨_, _, _, _, _, _⟩) (v := ?_) rfl (by kernel_rfl) (by kernel_rfl) (by kernel_rfl) (fun _ _ _ h => h) (Or.inl ⟨by rfl, ?_⟩) hHD_0 ?_
              rotate_left
              · intro wS hSw; (try dsimp only at hSw); go_simp; try with_reducible rfl
              try simp only [Act.put, List.setIfInBounds_toArray, List.set_cons_zero, List.set_cons_succ]
              refine wpAnyH_take (i := 6) (oi := ⟨_, _, _, _, _, _⟩) (v := ?_) rfl (by kernel_rfl) (by kernel_rfl) (by kernel_rfl) (fun _ _ _ h => h) (Or.inl ⟨by rfl, ?_⟩) hHD_0 ?_
              rotate_left
              · intro wS hSw; (try dsimp only at hSw); go_simp; try with_reducible rfl
              try simp only [Act.put, List.setIfInBounds_toArray, List.set_cons_zero, List.set_cons_succ]
              refine wpAnyH_take (i := 7) (oi := ⟨_, _, _, _, _, _⟩) (v := ?_) rfl (by kernel_rfl) (by kernel_rfl) (by kernel_rfl) (fun _ _ _ h => h) (Or.inl ⟨by rfl, ?_⟩) hHD_0 ?_
              rotate_left
              · intro wS hSw; (try dsimp only at hSw); go_simp; try with_reducible rfl
              try simp only [Act.put, List.setIfInBounds_toArray, List.set_cons_zero, List.set_cons_succ]
              refine wpAnyH_take (i := 8) (oi := ⟨_, _, _, _, _, _⟩) (v := ?_) rfl (by kernel_rfl) (by kernel_rfl) (by kernel_rfl) (fun _ _ _ h => h) (Or.inl ⟨by rfl, ?_⟩) hHD_0 ?_
              rotate_left
              · intro wS hSw; (try dsimp only at hSw); go_simp; try with_reducible rfl
              try simp only [Act.put, List.setIfInBounds_toArray, List.set_cons_zero, List.set_cons_succ]
              refine wpAnyH_take (i := 9) (oi := ⟨_, _, _, _, _, _⟩) (v := ?_) rfl (by kernel_rfl) (by kernel_rfl) (by kernel_rfl) (fun _ _ _ h => h) (Or.inl ⟨by rfl, ?_⟩) hHD_0 ?_
              rotate_left
              · intro wS hSw; (try dsimp only at hSw); go_simp; try with_reducible rfl
              try simp only [Act.put, List.setIfInBounds_toArray, List.set_cons_zero, List.set_cons_succ]
              refine wpAnyH_take (i := 10) (oi := ⟨_, _, _, _, _, _⟩) (v := ?_) rfl (by kernel_rfl) (by kernel_rfl) (by kernel_rfl) (fun _ _ _ h => h) (Or.inl ⟨by rfl, ?_⟩) hHD_0 ?_
              rotate_left
              · intro wS hSw; (try dsimp only at hSw); go_simp; try with_reducible rfl
              try simp only [Act.put, List.setIfInBounds_toArray, List.set_cons_zero, List.set_cons_succ]
              refine wpAnyH_take (i := 11) (oi := ⟨_, _, _, _, _, _⟩) (v := ?_) rfl (by kernel_rfl) (by kernel_rfl) (by kernel_rfl) (fun _ _ _ h => h) (Or.inl ⟨by rfl, ?_⟩) hHD_0 ?_
              rotate_left
              · intro wS hSw; (try dsimp only at hSw); go_simp; try with_reducible rfl
              try simp only [Act.put, List.setIfInBounds_toArray, List.set_cons_zero, List.set_cons_succ]
              refine wpAnyH_take (i := 12) (oi := ⟨_, _, _, _, _, _⟩) (v := V) rfl (by kernel_rfl) (by kernel_rfl) (by kernel_rfl) (fun _ _ _ h => h) (yieldsIf_ld (by rfl) _ _ rfl g0 (o0 + k2 * 20) rfl (cS s) _ (fun _ h => h.2.2.2.2.2.2.1) Tryz.underlying53 rfl info_RSheet V HV.out) hHD_0 ?_
              try simp only [Act.put, List.setIfInBounds_toArray, List.set_cons_zero, List.set_cons_succ]
              refine wpAnyH_ready (rs := [13]) (by kernel_rfl) (by simp) ?_
              refine AllReadyH.cons (o := ⟨_, _, _, _, _, _⟩) rfl (fun Kq hKq => ?_) AllReadyH.nil
              go_simp
              go_at_call 36
              refine (HVB.out _ hVD_0.out.be).mono ?_
              rintro e wT ⟨rfl, hb⟩
              (try go_wp2_with fail)
              refine stepY hKq (show Sy w _ [(bp, #[.slice (some ⟨g0, o0, none⟩) S.length sc, .slice (some ⟨g1, o1, none⟩) L.length wc], 25)] [] [] from (hVD_0.out.call hb)) (fun _ hX => ⟨hX.cell 0 0 rfl rfl, hX.cell 0 1 rfl rfl, (HY.out _ hX.be).1, (HY.out _ hX.be).2.1, (HY.out _ hX.be).2.2.1, (HY.out _ hX.be).2.2.2, (HR.out _ hX.be), trivial⟩) ?_
              intro VD_1 hc hHD_1
              have hVD_1 := Lib.hid hc
              clear hc hKq Kq hVD_0 hb hHD_0
              try simp only [Act.put, List.setIfInBounds_toArray, List.set_cons_zero, List.set_cons_succ]
              refine wpAnyH_take (i := 14) (oi := ⟨_, _, _, _, _, _⟩) (v := ?_) rfl (by kernel_rfl) (by kernel_rfl) (by kernel_rfl) (fun _ _ _ h => h) (Or.inl ⟨by rfl, ?_⟩) hHD_1 ?_
              rotate_left
              · intro wS hSw; (try dsimp only at hSw); go_simp; try with_reducible rfl
              try simp only [Act.put, List.setIfInBounds_toArray, List.set_cons_zero, List.set_cons_succ]
              refine wpAnyH_take (i := 15) (oi := ⟨_, _, _, _, _, _⟩) (v := ?_) rfl (by kernel_rfl) (by kernel_rfl) (by kernel_rfl) (fun _ _ _ h => h) (Or.inl ⟨by rfl, ?_⟩) hHD_1 ?_
              rotate_left
              · intro wS hSw; (try dsimp only at hSw); go_simp; try with_reducible rfl
              try simp only [Act.put, List.setIfInBounds_toArray, List.set_cons_zero, List.set_cons_succ]
              refine wpAnyH_take (i := 16) (oi := ⟨_, _, _, _, _, _⟩) (v := ?_) rfl (by kernel_rfl) (by kernel_rfl) (by kernel_rfl) (fun _ _ _ h => h) (Or.inl ⟨by rfl, ?_⟩) hHD_1 ?_
              rotate_left
              · intro wS hSw; (try dsimp only at hSw); go_simp; try with_reducible rfl
              try simp only [Act.put, List.setIfInBounds_toArray, List.set_cons_zero, List.set_cons_succ]
              refine wpAnyH_take (i := 17) (oi := ⟨_, _, _, _, _, _⟩) (v := ?_) rfl (by kernel_rfl) (by kernel_rfl) (by kernel_rfl) (fun _ _ _ h => h) (Or.inl ⟨by rfl, ?_⟩) hHD_1 ?_
              rotate_left
              · intro wS hSw; (try dsimp only at hSw); go_simp; try with_reducible rfl
              try simp only [Act.put, List.setIfInBounds_toArray, List.set_cons_zero, List.set_cons_succ]
              refine wpAnyH_take (i := 18) (oi := ⟨_, _, _, _, _, _⟩) (v := ?_) rfl (by kernel_rfl) (by kernel_rfl) (by kernel_rfl) (fun _ _ _ h => h) (Or.inl ⟨by rfl, ?_⟩) hHD_1 ?_
              rotate_left
              · intro wS hSw; (try dsimp only at hSw); go_simp; try with_reducible rfl
              try simp only [Act.put, List.setIfInBounds_toArray, List.set_cons_zero, List.set_cons_succ]
              refine wpAnyH_take (i := 19) (oi := ⟨_, _, _, _, _, _⟩) (v := ?_) rfl (by kernel_rfl) (by kernel_rfl) (by kernel_rfl) (fun _ _ _ h => h) (Or.inl ⟨by rfl, ?_⟩) hHD_1 ?_
              rotate_left
              · intro wS hSw; (try dsimp only at hSw); go_simp; try with_reducible rfl
              try simp only [Act.put, List.setIfInBounds_toArray, List.set_cons_zero, List.set_cons_succ]
              refine wpAnyH_take (i := 20) (oi := ⟨_, _, _, _, _, _⟩) (v := ?_) rfl (by kernel_rfl) (by kernel_rfl) (by kernel_rfl) (fun _ _ _ h => h) (Or.inl ⟨by rfl, ?_⟩) hHD_1 ?_
              rotate_left
              · intro wS hSw; (try dsimp only at hSw); go_simp; try with_reducible rfl
              try simp only [Act.put, List.setIfInBounds_toArray, List.set_cons_zero, List.set_cons_succ]
              refine wpAnyH_take (i := 21) (oi := ⟨_, _, _, _, _, _⟩) (v := ?_) rfl (by kernel_rfl) (by kernel_rfl) (by kernel_rfl) (fun _ _ _ h => h) (Or.inl ⟨by rfl, ?_⟩) hHD_1 ?_
              rotate_left
              · intro wS hSw; (try dsimp only at hSw); go_simp; try with_reducible rfl
              try simp only [Act.put, List.setIfInBounds_toArray, List.set_cons_zero, List.set_cons_succ]
              refine wpAnyH_take (i := 22) (oi := ⟨_, _, _, _, _, _⟩) (v := ?_) rfl (by kernel_rfl) (by kernel_rfl) (by kernel_rfl) (fun _ _ _ h => h) (Or.inl ⟨by rfl, ?_⟩) hHD_1 ?_
              rotate_left
              · intro wS hSw; (try dsimp only at hSw); go_simp; try with_reducible rfl
              try simp only [Act.put, List.setIfInBounds_toArray, List.set_cons_zero, List.set_cons_succ]
              refine wpAnyH_take (i := 23) (oi := ⟨_, _, _, _, _, _⟩) (v := ?_) rfl (by kernel_rfl) (by kernel_rfl) (by kernel_rfl) (fun _ _ _ h => h) (Or.inl ⟨by rfl, ?_⟩) hHD_1 ?_
              rotate_left
              · intro wS hSw; (try dsimp only at hSw); go_simp; try with_reducible rfl
              try simp only [Act.put, List.setIfInBounds_toArray, List.set_cons_zero, List.set_cons_succ]
              refine wpAnyH_take (i := 25) (oi := ⟨_, _, _, _, _, _⟩) (v := ?_) rfl (by kernel_rfl) (by kernel_rfl) (by kernel_rfl) (fun _ _ _ h => h) (Or.inl ⟨by rfl, ?_⟩) hHD_1 ?_
              rotate_left
              · intro wS hSw; (try dsimp only at hSw); go_simp; try with_reducible rfl
              try simp only [Act.put, List.setIfInBounds_toArray, List.set_cons_zero, List.set_cons_succ]
              refine wpAnyH_ready (rs := [24]) (by kernel_rfl) (by simp) ?_
              refine AllReadyH.cons (o := ⟨_, _, _, _, _, _⟩) rfl (fun Kq hKq => ?_) AllReadyH.nil
              go_simp
              go_at_call 14
              refine (HFW.out _ hVD_1.out.be).mono ?_
              rintro e wT ⟨rfl, hb⟩
              (try go_wp2_with fail)
              refine stepY hKq (show Sy w _ [(bp, #[.slice (some ⟨g0, o0, none⟩) S.length sc, .slice (some ⟨g1, o1, none⟩) L.length wc], 25)] [] [] from (hVD_1.out.call hb)) (fun _ hX => ⟨hX.cell 0 0 rfl rfl, hX.cell 0 1 rfl rfl, (HY.out _ hX.be).1, (HY.out _ hX.be).2.1, (HY.out _ hX.be).2.2.1, (HY.out _ hX.be).2.2.2, (HR.out _ hX.be), trivial⟩) ?_
              intro VD_2 hc hHD_2
              have hVD_2 := Lib.hid hc
              clear hc hKq Kq hVD_1 hb hHD_1
              try simp only [Act.put, List.setIfInBounds_toArray, List.set_cons_zero, List.set_cons_succ]
              refine wpAnyH_take (i := 26) (oi := ⟨_, _, _, _, _, _⟩) (v := ?_) rfl (by kernel_rfl) (by kernel_rfl) (by kernel_rfl) (fun _ _ _ h => h) (Or.inl ⟨by rfl, ?_⟩) hHD_2 ?_
              rotate_left
              · intro wS hSw; (try dsimp only at hSw); go_simp; try with_reducible rfl
              try simp only [Act.put, List.setIfInBounds_toArray, List.set_cons_zero, List.set_cons_succ]
              refine wpAnyH_take (i := 27) (oi := ⟨_, _, _, _, _, _⟩) (v := ?_) rfl (by kernel_rfl) (by kernel_rfl) (by kernel_rfl) (fun _ _ _ h => h) (Or.inl ⟨by rfl, ?_⟩) hHD_2 ?_
              rotate_left
              · intro wS hSw; (try dsimp only at hSw); go_simp; try with_reducible rfl
              try simp only [Act.put, List.setIfInBounds_toArray, List.set_cons_zero, List.set_cons_succ]
              refine wpAnyH_done (by kernel_rfl) ?_ _
              go_wp2
              go_roundw
              case rel => exact ⟨m + 1, by omega, by go_num, HB, hVD_2⟩
              case measure => simp [intOf]; omega
            · have HB := Lib.hid (HNO.out (by rw [HOK.out, Bool.true_and]; simpa using hr))
              clear HNO HNX HOK
              refine wp_region_held_drew (S := (fun w' => w'.cell? ⟨bp, 0, none⟩ = some (.slice (some ⟨g0, o0, none⟩) S.length sc) ∧ w'.cell? ⟨bp, 1, none⟩ = some (.slice (some ⟨g1, o1, none⟩) L.length wc) ∧ w'.cell? ⟨g1, o1 + m * 4, none⟩ = some (.string x.name) ∧ w'.cell? ⟨g1, o1 + m * 4 + 1, none⟩ = some (.string x.sheet) ∧ w'.cell? ⟨g1, o1 + m * 4 + 2, none⟩ = some (.int .i64 x.len) ∧ w'.cell? ⟨g1, o1 + m * 4 + 3, none⟩ = some (.slice x.oa x.on x.oc) ∧ w'.rangeAt g0 (o0 + k2 * 20) (cS s) ∧ True)) (by kernel_rfl) ⟨hVNB_2.out.drew.cell 0 0 rfl rfl, hVNB_2.out.drew.cell 0 1 rfl rfl, (HY.out _ hVNB_2.out.drew.be).1, (HY.out _ hVNB_2.out.drew.be).2.1, (HY.out _ hVNB_2.out.drew.be).2.2.1, (HY.out _ hVNB_2.out.drew.be).2.2.2, (HR.out _ hVNB_2.out.drew.be), trivial⟩ (fun hH => ?_)
              refine wpAnyH_geny (show Sy w _ [(bp, #[.slice (some ⟨g0, o0, none⟩) S.length sc, .slice (some ⟨g1, o1, none⟩) L.length wc], 25)] [] [] from hVNB_2.out.drew) hH ?_
              intro VE_0 hc hHE_0
              have hVE_0 := Lib.hid hc
              clear hc hH hVNB_2
              refine wpAnyH_take (i := 0) (oi := ⟨_, _, _, _, _, _⟩) (v := ?_) rfl (by kernel_rfl) (by kernel_rfl) (by kernel_rfl) (fun _ _ _ h => h) (Or.inl ⟨by rfl, ?_⟩) hHE_0 ?_
              rotate_left
              · intro wS hSw; (try dsimp only at hSw); go_simp; try with_reducible rfl
              try simp only [Act.put, List.setIfInBounds_toArray, List.set_cons_zero, List.set_cons_succ]
              refine wpAnyH_take (i := 1) (oi := ⟨_, _, _, _, _, _⟩) (v := ?_) rfl (by kernel_rfl) (by kernel_rfl) (by kernel_rfl) (fun _ _ _ h => h) (Or.inl ⟨by rfl, ?_⟩) hHE_0 ?_
              rotate_left
              · intro wS hSw; (try dsimp only at hSw); go_simp; try with_reducible rfl
              try simp only [Act.put, List.setIfInBounds_toArray, List.set_cons_zero, List.set_cons_succ]
              refine wpAnyH_take (i := 2) (oi := ⟨_, _, _, _, _, _⟩) (v := ?_) rfl (by kernel_rfl) (by kernel_rfl) (by kernel_rfl) (fun _ _ _ h => h) (Or.inl ⟨by rfl, ?_⟩) hHE_0 ?_
              rotate_left
              · intro wS hSw; (try dsimp only at hSw); go_simp; try with_reducible rfl
              try simp only [Act.put, List.setIfInBounds_toArray, List.set_cons_zero, List.set_cons_succ]
              refine wpAnyH_take (i := 3) (oi := ⟨_, _, _, _, _, _⟩) (v := ?_) rfl (by kernel_rfl) (by kernel_rfl) (by kernel_rfl) (fun _ _ _ h => h) (Or.inl ⟨by rfl, ?_⟩) hHE_0 ?_
              rotate_left
              · intro wS hSw; (try dsimp only at hSw); go_simp; try with_reducible rfl
              try simp only [Act.put, List.setIfInBounds_toArray, List.set_cons_zero, List.set_cons_succ]
              refine wpAnyH_take (i := 4) (oi := ⟨_, _, _, _, _, _⟩) (v := ?_) rfl (by kernel_rfl) (by kernel_rfl) (by kernel_rfl) (fun _ _ _ h => h) (Or.inl ⟨by rfl, ?_⟩) hHE_0 ?_
              rotate_left
              · intro wS hSw; (try dsimp only at hSw); go_simp; try with_reducible rfl
              try simp only [Act.put, List.setIfInBounds_toArray, List.set_cons_zero, List.set_cons_succ]
              refine wpAnyH_take (i := 5) (oi := ⟨_, _, _, _, _, _⟩) (v := ?_) rfl (by kernel_rfl) (by kernel_rfl) (by kernel_rfl) (fun _ _ _ h => h) (Or.inl ⟨by rfl, ?_⟩) hHE_0 ?_
              rotate_left
              · intro wS hSw; (try dsimp only at hSw); go_simp; try with_reducible rfl
              try simp only [Act.put, List.setIfInBounds_toArray, List.set_cons_zero, List.set_cons_succ]
              refine wpAnyH_take (i := 6) (oi := ⟨_, _, _, _, _, _⟩) (v := ?_) rfl (by kernel_rfl) (by kernel_rfl) (by kernel_rfl) (fun _ _ _ h => h) (Or.inl ⟨by rfl, ?_⟩) hHE_0 ?_
              rotate_left
              · intro wS hSw; (try dsimp only at hSw); go_simp; try with_reducible rfl
              try simp only [Act.put, List.setIfInBounds_toArray, List.set_cons_zero, List.set_cons_succ]
              refine wpAnyH_take (i := 7) (oi := ⟨_, _, _, _, _, _⟩) (v := ?_) rfl (by kernel_rfl) (by kernel_rfl) (by kernel_rfl) (fun _ _ _ h => h) (Or.inl ⟨by rfl, ?_⟩) hHE_0 ?_
              rotate_left
              · intro wS hSw; (try dsimp only at hSw); go_simp; try with_reducible rfl
              try simp only [Act.put, List.setIfInBounds_toArray, List.set_cons_zero, List.set_cons_succ]
              refine wpAnyH_take (i := 8) (oi := ⟨_, _, _, _, _, _⟩) (v := ?_) rfl (by kernel_rfl) (by kernel_rfl) (by kernel_rfl) (fun _ _ _ h => h) (Or.inl ⟨by rfl, ?_⟩) hHE_0 ?_
              rotate_left
              · intro wS hSw; (try dsimp only at hSw); go_simp; try with_reducible rfl
              try simp only [Act.put, List.setIfInBounds_toArray, List.set_cons_zero, List.set_cons_succ]
              refine wpAnyH_take (i := 9) (oi := ⟨_, _, _, _, _, _⟩) (v := ?_) rfl (by kernel_rfl) (by kernel_rfl) (by kernel_rfl) (fun _ _ _ h => h) (Or.inl ⟨by rfl, ?_⟩) hHE_0 ?_
              rotate_left
              · intro wS hSw; (try dsimp only at hSw); go_simp; try with_reducible rfl
              try simp only [Act.put, List.setIfInBounds_toArray, List.set_cons_zero, List.set_cons_succ]
              refine wpAnyH_take (i := 10) (oi := ⟨_, _, _, _, _, _⟩) (v := ?_) rfl (by kernel_rfl) (by kernel_rfl) (by kernel_rfl) (fun _ _ _ h => h) (Or.inl ⟨by rfl, ?_⟩) hHE_0 ?_
              rotate_left
              · intro wS hSw; (try dsimp only at hSw); go_simp; try with_reducible rfl
              try simp only [Act.put, List.setIfInBounds_toArray, List.set_cons_zero, List.set_cons_succ]
              refine wpAnyH_take (i := 11) (oi := ⟨_, _, _, _, _, _⟩) (v := ?_) rfl (by kernel_rfl) (by kernel_rfl) (by kernel_rfl) (fun _ _ _ h => h) (Or.inl ⟨by rfl, ?_⟩) hHE_0 ?_
              rotate_left
              · intro wS hSw; (try dsimp only at hSw); go_simp; try with_reducible rfl
              try simp only [Act.put, List.setIfInBounds_toArray, List.set_cons_zero, List.set_cons_succ]
              refine wpAnyH_take (i := 12) (oi := ⟨_, _, _, _, _, _⟩) (v := V) rfl (by kernel_rfl) (by kernel_rfl) (by kernel_rfl) (fun _ _ _ h => h) (yieldsIf_ld (by rfl) _ _ rfl g0 (o0 + k2 * 20) rfl (cS s) _ (fun _ h => h.2.2.2.2.2.2.1) Tryz.underlying53 rfl info_RSheet V HV.out) hHE_0 ?_
              try simp only [Act.put, List.setIfInBounds_toArray, List.set_cons_zero, List.set_cons_succ]
              refine wpAnyH_ready (rs := [13]) (by kernel_rfl) (by simp) ?_
              refine AllReadyH.cons (o := ⟨_, _, _, _, _, _⟩) rfl (fun Kq hKq => ?_) AllReadyH.nil
              go_simp
              go_at_call 36
              refine (HVB.out _ hVE_0.out.be).mono ?_
              rintro e wT ⟨rfl, hb⟩
              (try go_wp2_with fail)
              refine stepY hKq (show Sy w _ [(bp, #[.slice (some ⟨g0, o0, none⟩) S.length sc, .slice (some ⟨g1, o1, none⟩) L.length wc], 25)] [] [] from (hVE_0.out.call hb)) (fun _ hX => ⟨hX.cell 0 0 rfl rfl, hX.cell 0 1 rfl rfl, (HY.out _ hX.be).1, (HY.out _ hX.be).2.1, (HY.out _ hX.be).2.2.1, (HY.out _ hX.be).2.2.2, (HR.out _ hX.be), trivial⟩) ?_
              intro VE_1 hc hHE_1
              have hVE_1 := Lib.hid hc
              clear hc hKq Kq hVE_0 hb hHE_0
              try simp only [Act.put, List.setIfInBounds_toArray, List.set_cons_zero, List.set_cons_succ]
              refine wpAnyH_take (i := 14) (oi := ⟨_, _, _, _, _, _⟩) (v := ?_) rfl (by kernel_rfl) (by kernel_rfl) (by kernel_rfl) (fun _ _ _ h => h) (Or.inl ⟨by rfl, ?_⟩) hHE_1 ?_
              rotate_left
              · intro wS hSw; (try dsimp only at hSw); go_simp; try with_reducible rfl
              try simp only [Act.put, List.setIfInBounds_toArray, List.set_cons_zero, List.set_cons_succ]
              refine wpAnyH_take (i := 15) (oi := ⟨_, _, _, _, _, _⟩) (v := ?_) rfl (by kernel_rfl) (by kernel_rfl) (by kernel_rfl) (fun _ _ _ h => h) (Or.inl ⟨by rfl, ?_⟩) hHE_1 ?_
              rotate_left
              · intro wS hSw; (try dsimp only at hSw); go_simp; try with_reducible rfl
              try simp only [Act.put, List.setIfInBounds_toArray, List.set_cons_zero, List.set_cons_succ]
              refine wpAnyH_take (i := 16) (oi := ⟨_, _, _, _, _, _⟩) (v := ?_) rfl (by kernel_rfl) (by kernel_rfl) (by kernel_rfl) (fun _ _ _ h => h) (Or.inl ⟨by rfl, ?_⟩) hHE_1 ?_
              rotate_left
              · intro wS hSw; (try dsimp only at hSw); go_simp; try with_reducible rfl
              try simp only [Act.put, List.setIfInBounds_toArray, List.set_cons_zero, List.set_cons_succ]
              refine wpAnyH_take (i := 17) (oi := ⟨_, _, _, _, _, _⟩) (v := ?_) rfl (by kernel_rfl) (by kernel_rfl) (by kernel_rfl) (fun _ _ _ h => h) (Or.inl ⟨by rfl, ?_⟩) hHE_1 ?_
              rotate_left
              · intro wS hSw; (try dsimp only at hSw); go_simp; try with_reducible rfl
              try simp only [Act.put, List.setIfInBounds_toArray, List.set_cons_zero, List.set_cons_succ]
              refine wpAnyH_take (i := 18) (oi := ⟨_, _, _, _, _, _⟩) (v := ?_) rfl (by kernel_rfl) (by kernel_rfl) (by kernel_rfl) (fun _ _ _ h => h) (Or.inl ⟨by rfl, ?_⟩) hHE_1 ?_
              rotate_left
              · intro wS hSw; (try dsimp only at hSw); go_simp; try with_reducible rfl
              try simp only [Act.put, List.setIfInBounds_toArray, List.set_cons_zero, List.set_cons_succ]
              refine wpAnyH_take (i := 19) (oi := ⟨_, _, _, _, _, _⟩) (v := ?_) rfl (by kernel_rfl) (by kernel_rfl) (by kernel_rfl) (fun _ _ _ h => h) (Or.inl ⟨by rfl, ?_⟩) hHE_1 ?_
              rotate_left
              · intro wS hSw; (try dsimp only at hSw); go_simp; try with_reducible rfl
              try simp only [Act.put, List.setIfInBounds_toArray, List.set_cons_zero, List.set_cons_succ]
              refine wpAnyH_take (i := 20) (oi := ⟨_, _, _, _, _, _⟩) (v := ?_) rfl (by kernel_rfl) (by kernel_rfl) (by kernel_rfl) (fun _ _ _ h => h) (Or.inl ⟨by rfl, ?_⟩) hHE_1 ?_
              rotate_left
              · intro wS hSw; (try dsimp only at hSw); go_simp; try with_reducible rfl
              try simp only [Act.put, List.setIfInBounds_toArray, List.set_cons_zero, List.set_cons_succ]
              refine wpAnyH_take (i := 21) (oi := ⟨_, _, _, _, _, _⟩) (v := ?_) rfl (by kernel_rfl) (by kernel_rfl) (by kernel_rfl) (fun _ _ _ h => h) (Or.inl ⟨by rfl, ?_⟩) hHE_1 ?_
              rotate_left
              · intro wS hSw; (try dsimp only at hSw); go_simp; try with_reducible rfl
              try simp only [Act.put, List.setIfInBounds_toArray, List.set_cons_zero, List.set_cons_succ]
              refine wpAnyH_take (i := 22) (oi := ⟨_, _, _, _, _, _⟩) (v := ?_) rfl (by kernel_rfl) (by kernel_rfl) (by kernel_rfl) (fun _ _ _ h => h) (Or.inl ⟨by rfl, ?_⟩) hHE_1 ?_
              rotate_left
              · intro wS hSw; (try dsimp only at hSw); go_simp; try with_reducible rfl
              try simp only [Act.put, List.setIfInBounds_toArray, List.set_cons_zero, List.set_cons_succ]
              refine wpAnyH_take (i := 23) (oi := ⟨_, _, _, _, _, _⟩) (v := ?_) rfl (by kernel_rfl) (by kernel_rfl) (by kernel_rfl) (fun _ _ _ h => h) (Or.inl ⟨by rfl, ?_⟩) hHE_1 ?_
              rotate_left
              · intro wS hSw; (try dsimp only at hSw); go_simp; try with_reducible rfl
              try simp only [Act.put, List.setIfInBounds_toArray, List.set_cons_zero, List.set_cons_succ]
              refine wpAnyH_take (i := 25) (oi := ⟨_, _, _, _, _, _⟩) (v := ?_) rfl (by kernel_rfl) (by kernel_rfl) (by kernel_rfl) (fun _ _ _ h => h) (Or.inl ⟨by rfl, ?_⟩) hHE_1 ?_
              rotate_left
              · intro wS hSw; (try dsimp only at hSw); go_simp; try with_reducible rfl
              try simp only [Act.put, List.setIfInBounds_toArray, List.set_cons_zero, List.set_cons_succ]
              refine wpAnyH_ready (rs := [24]) (by kernel_rfl) (by simp) ?_
              refine AllReadyH.cons (o := ⟨_, _, _, _, _, _⟩) rfl (fun Kq hKq => ?_) AllReadyH.nil
              go_simp
              go_at_call 14
              refine (HFW.out _ hVE_1.out.be).mono ?_
              rintro e wT ⟨rfl, hb⟩
              (try go_wp2_with fail)
              refine stepY hKq (show Sy w _ [(bp, #[.slice (some ⟨g0, o0, none⟩) S.length sc, .slice (some ⟨g1, o1, none⟩) L.length wc], 25)] [] [] from (hVE_1.out.call hb)) (fun _ hX => ⟨hX.cell 0 0 rfl rfl, hX.cell 0 1 rfl rfl, (HY.out _ hX.be).1, (HY.out _ hX.be).2.1, (HY.out _ hX.be).2.2.1, (HY.out _ hX.be).2.2.2, (HR.out _ hX.be), trivial⟩) ?_
              intro VE_2 hc hHE_2
              have hVE_2 := Lib.hid hc
              clear hc hKq Kq hVE_1 hb hHE_1
              try simp only [Act.put, List.setIfInBounds_toArray, List.set_cons_zero, List.set_cons_succ]
              refine wpAnyH_take (i := 26) (oi := ⟨_, _, _, _, _, _⟩) (v := ?_) rfl (by kernel_rfl) (by kernel_rfl) (by kernel_rfl) (fun _ _ _ h => h) (Or.inl ⟨by rfl, ?_⟩) hHE_2 ?_
              rotate_left
              · intro wS hSw; (try dsimp only at hSw); go_simp; try with_reducible rfl
              try simp only [Act.put, List.setIfInBounds_toArray, List.set_cons_zero, List.set_cons_succ]
              refine wpAnyH_take (i := 27) (oi := ⟨_, _, _, _, _, _⟩) (v := ?_) rfl (by kernel_rfl) (by kernel_rfl) (by kernel_rfl) (fun _ _ _ h => h) (Or.inl ⟨by rfl, ?_⟩) hHE_2 ?_
              rotate_left
              · intro wS hSw; (try dsimp only at hSw); go_simp; try with_reducible rfl
              try simp only [Act.put, List.setIfInBounds_toArray, List.set_cons_zero, List.set_cons_succ]
              refine wpAnyH_done (by kernel_rfl) ?_ _
              go_wp2
              go_ret
              exact ⟨ret_bool HB.out.symm, hVE_2.out.be⟩
        · have hkk : ¬ (m : Int) < (L.length : Int) := by omega
          have HWY := Lib.hid (show ∀ i, i < L.length → okWall S L i = true from fun i hi => HI.out i (by omega))
          by_cases h1 : (S.length : Int) ≤ 20
          · by_cases h2 : (L.length : Int) ≤ 50
            · have HB := Lib.hid (HBY.out (by omega) (by omega) HSY.out HWY.out)
              go_wp2
              go_ret
              exact ⟨ret_bool HB.out.symm, hC.out.be⟩
            · have HB := Lib.hid (HBL.out (.inr (by omega)))
              have d2 : decide ((L.length : Int) ≤ 50) = false := decide_eq_false h2
              go_wp2
              go_ret
              exact ⟨ret_bool HB.out.symm, hC.out.be⟩
          · have HB := Lib.hid (HBL.out (.inl (by omega)))
            have d1 : decide ((S.length : Int) ≤ 20) = false := decide_eq_false h1
            go_wp2
            go_ret
            exact ⟨ret_bool HB.out.symm, hC.out.be⟩
end
end Go.Proofs.YtchignmnnbepnaaGreat

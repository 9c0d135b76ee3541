/- plans: their data, which are right -/
/- plan.Check -/
import Derived.Test.YtchignmnnbepnaaGreatJ14
namespace Go.Proofs.YtchignmnnbepnaaGreat
open Go.RowKit
structure Shts (W : World) (a : Option Addr) (n c : Nat) (l : List Sht) : Prop where
  row : Sx 20 W a n c (LS l)
  hts : ∀ s ∈ l, Sx 1 W s.ha s.hn s.hc (L1 s.hs)
  nam : ∀ s ∈ l, s.name.size ≤ maxLen
  cop : ∀ s ∈ l, 0 ≤ s.cope
structure Wals (W : World) (a : Option Addr) (n c : Nat) (l : List Wal) : Prop where
  row : Sx 4 W a n c (LWa l)
  opn : ∀ x ∈ l, Sx 5 W x.oa x.on x.oc (LO x.ops)
  nam : ∀ x ∈ l, x.name.size ≤ maxLen ∧ x.sheet.size ≤ maxLen
  knd : ∀ x ∈ l, ∀ o ∈ x.ops, 0 ≤ o.kind ∧ o.kind ≤ 255
theorem Shts.below {W V : World} {a : Option Addr} {n c : Nat} {l : List Sht} (h : Shts W a n c l) (hb : Below W.heap.size W V) : Shts V a n c l := ⟨h.row.below hb, fun s hs => (h.hts s hs).below hb, h.nam, h.cop⟩
theorem Wals.below {W V : World} {a : Option Addr} {n c : Nat} {l : List Wal} (h : Wals W a n c l) (hb : Below W.heap.size W V) : Wals V a n c l := ⟨h.row.below hb, fun s hs => (h.opn s hs).below hb, h.nam, h.knd⟩
def okSheet (S : List Sht) (i : Nat) : Bool := match S[i]? with
  | some s => !(S.take i).any (isS s.name) && sheetB s
  | none => true
def okWall (S : List Sht) (L : List Wal) (i : Nat) : Bool := match L[i]? with
  | some x => (match S.find? (isS x.sheet) with
    | some s => !decide (idxB (isW x.name) L < (i : Int)) && wallB x s
    | none => false)
  | none => true
def planB (S : List Sht) (L : List Wal) : Bool := decide (S.length ≤ 20) && decide (L.length ≤ 50) && (List.range S.length).all (okSheet S) && (List.range L.length).all (okWall S L)
theorem okSheet_at {S : List Sht} {i : Nat} (h : i < S.length) : okSheet S i = (!(S.take i).any (isS S[i].name) && sheetB S[i]) := by unfold okSheet; rw [List.getElem?_eq_getElem h]
theorem okWall_at {S : List Sht} {L : List Wal} {i : Nat} (h : i < L.length) : okWall S L i = (match S.find? (isS L[i].sheet) with
    | some s => !decide (idxB (isW L[i].name) L < (i : Int)) && wallB L[i] s
    | none => false) := by unfold okWall; rw [List.getElem?_eq_getElem h]
theorem planB_len {S : List Sht} {L : List Wal} (h : ¬ S.length ≤ 20 ∨ ¬ L.length ≤ 50) : planB S L = false := by
  unfold planB
  rcases h with h | h
  · rw [decide_eq_false h]; rfl
  · rw [decide_eq_false h]; simp
theorem planB_s {S : List Sht} {L : List Wal} {i : Nat} (hi : i < S.length) (h : okSheet S i = false) : planB S L = false := by
  have : (List.range S.length).all (okSheet S) = false := by
    cases e : (List.range S.length).all (okSheet S)
    · rfl
    · rw [List.all_eq_true.1 e i (List.mem_range.2 hi)] at h; cases h
  unfold planB
  rw [this]; simp
theorem planB_w {S : List Sht} {L : List Wal} {i : Nat} (hi : i < L.length) (h : okWall S L i = false) : planB S L = false := by
  have : (List.range L.length).all (okWall S L) = false := by
    cases e : (List.range L.length).all (okWall S L)
    · rfl
    · rw [List.all_eq_true.1 e i (List.mem_range.2 hi)] at h; cases h
  unfold planB
  rw [this]; simp
theorem planB_yes {S : List Sht} {L : List Wal} (h1 : S.length ≤ 20) (h2 : L.length ≤ 50) (h3 : ∀ i, i < S.length → okSheet S i = true) (h4 : ∀ i, i < L.length → okWall S L i = true) : planB S L = true := by
  unfold planB
  rw [decide_eq_true h1, decide_eq_true h2, List.all_eq_true.2 fun i hi => h3 i (List.mem_range.1 hi), List.all_eq_true.2 fun i hi => h4 i (List.mem_range.1 hi)]; rfl
theorem planB_iff {S : List Sht} {L : List Wal} : planB S L = true ↔ S.length ≤ 20 ∧ L.length ≤ 50 ∧ (∀ i, i < S.length → okSheet S i = true) ∧ ∀ i, i < L.length → okWall S L i = true := by
  constructor
  · intro h
    unfold planB at h
    simp only [Bool.and_eq_true, decide_eq_true_eq, List.all_eq_true, List.mem_range] at h
    exact ⟨h.1.1.1, h.1.1.2, h.1.2, h.2⟩
  · rintro ⟨a, b, c, d⟩
    exact planB_yes a b c d
theorem theS_2 (nm : ByteArray) (l : List Sht) : (theS nm l).2 = l.any (isS nm) := by
  unfold theS
  cases h : l.find? (isS nm) with
  | none =>
    rw [List.find?_eq_none] at h
    exact (List.any_eq_false.2 h).symm
  | some s => exact (List.any_eq_true.2 ⟨s, List.mem_of_find?_eq_some h, List.find?_some h⟩).symm
theorem theS_len (nm : ByteArray) (l : List Sht) : (theS nm l).1.length = 20 := by
  unfold theS
  cases l.find? (isS nm) <;> rfl
theorem theS_one (nm : ByteArray) (l : List Sht) : (theS nm l).1.toArray.all (·.oneCell') = true := by
  unfold theS
  cases l.find? (isS nm)
  · exact zC_one
  · exact cS_one _
theorem theS_some {nm : ByteArray} {l : List Sht} {s : Sht} (h : l.find? (isS nm) = some s) : theS nm l = (cS s, true) := by unfold theS; rw [h]
theorem theS_none {nm : ByteArray} {l : List Sht} (h : l.find? (isS nm) = none) : theS nm l = (zC, false) := by unfold theS; rw [h]
end Go.Proofs.YtchignmnnbepnaaGreat
namespace Go.Proofs.YtchignmnnbepnaaGreat
open Go.RowKit
section
variable (w : World)
set_option maxHeartbeats 32000000 in
set_option maxRecDepth 100000 in
theorem pcheck_any (sa wa : Option Addr) (sn sc wn wc : Nat) (S : List Sht) (L : List Wal) (hS : Shts w sa sn sc S) (hL : Wals w wa wn wc L) :
    Calls Tryz.prog 27 #[.agg #[.slice sa sn sc, .slice wa wn wc]] w (Gives (.int .i64 (errB (planB S L))) w) := by
  obtain rfl := hS.row.nS
  obtain rfl := hL.row.nWa
  have hcs := hS.row.cap
  have hcw := hL.row.cap
  unfold maxLen at hcs hcw
  have HS := Lib.hid hS
  have HL := Lib.hid hL
  clear hS hL
  by_cases hlen : S.length ≤ 20 ∧ L.length ≤ 50
  rotate_left
  · have HB := Lib.hid (errB_no (planB_len (S := S) (L := L) (by omega)))
    have hC := Lib.hid ((Sy.enter w).al w.heap.size #[.slice sa S.length sc, .slice wa L.length wc] 38 rfl)
    by_cases h1 : (S.length : Int) > 20
    · clear hlen
      go_enter Tryz.func27, Tryz.ntmps27
      go_wp2
      go_ret
      exact ⟨ret_int HB.out.symm, hC.out.be⟩
    · have h2 : (L.length : Int) > 50 := by omega
      have d1 : decide ((S.length : Int) > 20) = false := decide_eq_false h1
      clear hlen
      go_enter Tryz.func27, Tryz.ntmps27
      go_wp2
      go_ret
      exact ⟨ret_int HB.out.symm, hC.out.be⟩
  obtain ⟨hl1, hl2⟩ := hlen
  have hC0 := Lib.hid ((Sy.enter w).al w.heap.size #[.slice sa S.length sc, .slice wa L.length wc] 38 rfl)
  have d1 : ¬ (S.length : Int) > 20 := by omega
  have d2 : ¬ (L.length : Int) > 50 := by omega
  have HBS := Lib.hid (fun i hi h => errB_no (planB_s (S := S) (L := L) (i := i) hi h))
  have HBW := Lib.hid (fun i hi h => errB_no (planB_w (S := S) (L := L) (i := i) hi h))
  have HBY := Lib.hid (fun h3 h4 => errB_yes (planB_yes (S := S) (L := L) hl1 hl2 h3 h4))
  generalize errB (planB S L) = R at *
  obtain ⟨bp, hbp⟩ : ∃ bp, w.heap.size = bp := ⟨_, rfl⟩
  have hC1 : Hid (Sy w (w.alloc (.cells #[.slice sa S.length sc, .slice wa L.length wc] 38)) [(bp, #[.slice sa S.length sc, .slice wa L.length wc], 38)] [] []) := Lib.hid (by rw [← hbp]; exact hC0.out)
  clear hC0
  go_enter Tryz.func27, Tryz.ntmps27
  go_upto_region 3 with fail
  clear hbp
  refine wp_geny hC1.out ?_
  intro W1 hc
  have hC := Lib.hid hc
  clear hc hC1
  have x0 : W1.cell? ⟨bp, 0, none⟩ = some (.slice sa S.length sc) := hC.out.cell 0 0 rfl rfl
  go_wp2
  go_loopw [24] (fun iv wr => ∃ k : Nat, k ≤ S.length ∧ iv = .int .i64 k ∧ Hid (∀ i, i < k → okSheet S i = true) ∧ Hid (Sy w wr [(bp, #[.slice sa S.length sc, .slice wa L.length wc], 38)] [] [])) (fun iv _ => S.length - (intOf iv).toNat)
  case atStart => exact ⟨0, Nat.zero_le _, rfl, Lib.hid (fun i h => absurd h (Nat.not_lt_zero i)), hC⟩
  case round =>
    clear hC x0
    obtain ⟨k, hk, rfl, HI, hC⟩ := hrel
    by_cases hlt : k < S.length
    · obtain ⟨g0, o0, rfl⟩ := HS.out.row.addr (by omega)
      have HOK := Lib.hid (okSheet_at hlt)
      have HR := Lib.hid (fun W (hW : Below w.heap.size w W) => (HS.out.row.below hW).range (f := cS) (fun _ => rfl) hlt)
      have HCK := Lib.hid (fun W (hW : Below w.heap.size w W) => checkSheet_any W S[k] ((HS.out.hts _ (List.getElem_mem hlt)).below hW) (HS.out.nam _ (List.getElem_mem hlt)))
      have HTK := Lib.hid (fun W (hW : Below w.heap.size w W) => (show Sx 20 W (some ⟨g0, o0, none⟩) k sc (LS (S.take k)) by
        have h := (HS.out.row.below hW).take (show k ≤ S.length by omega)
        rwa [LS_take] at h))
      have HNO := Lib.hid (HBS.out k hlt)
      have HNX := Lib.hid (show okSheet S k = true → ∀ i, i < k + 1 → okSheet S i = true from fun h i hi => by
        rcases Nat.lt_or_ge i k with h1 | h1
        · exact HI.out i h1
        · have : i = k := by omega
          subst this; exact h)
      have hrow := HR.out wr hC.out.be
      have i0 : (0 : Int) ≤ (k : Int) := by omega
      have i1 : (k : Int) < (S.length : Int) := by omega
      have i2 : k ≤ sc := by omega
      clear HI
      generalize okSheet S k = ok at *
      generalize S[k] = s at *
      have HSH := Lib.hid (fun W hW => psheet_any W (some ⟨g0, o0, none⟩) k sc (S.take k) (.slice none 0 0) s.name (HTK.out W hW))
      unfold RetTheS at HSH
      rw [theS_2] at HSH
      obtain ⟨X, hX⟩ : ∃ X, (theS s.name (S.take k)).1 = X := ⟨_, rfl⟩
      have HXL := Lib.hid (show X.toArray.size = 20 by rw [← hX]; exact theS_len _ _)
      have HX1 := Lib.hid (show X.toArray.all (·.oneCell') = true by rw [← hX]; exact theS_one _ _)
      rw [hX] at HSH
      clear hX HTK
      obtain ⟨XV, hXV⟩ : ∃ XV, Value.agg X.toArray = XV := ⟨_, rfl⟩
      have HXV := Lib.hid hXV
      rw [hXV] at HSH
      clear hXV
      generalize (S.take k).any (isS s.name) = tw at *
      obtain ⟨V, hV⟩ : ∃ V, Value.agg (cS s).toArray = V := ⟨_, rfl⟩
      have HV := Lib.hid hV
      rw [show aS s = V from hV] at HCK
      clear hV
      have HRH := Lib.hid hrow
      clear hrow HR
      go_upto_region 6 with (first | (refine wpList_ld (o := ⟨some 28, _, _, _, _, _⟩) rfl _ _ rfl _ _ rfl (cS s) _ HRH.out Tryz.underlying92 rfl info_Sheet V HV.out ?_) | (refine wpList_al (o := ⟨some 4, _, _, _, _, _⟩) rfl hC.out _ rfl zS zero_Sheet ?_; intro b4 V2 h2; have hC2 := Lib.hid h2; clear h2) | (refine wpList_st (o := ⟨none, _, _, _, _, _⟩) rfl hC2.out 1 rfl _ _ _ rfl rfl (cS s).toArray HV.out.symm info_Sheet rfl (cS_one s) ?_; intro V3 h3; have hC3 := Lib.hid h3; clear h3 hC2) | fail)
      refine wp_geny hC3.out ?_
      intro W6 hc
      have hD := Lib.hid hc
      clear hc hC3 hC HRH
      refine wp_region_held_drew (S := (fun w' => w'.cell? ⟨bp, 0, none⟩ = some (.slice (some ⟨g0, o0, none⟩) S.length sc) ∧ w'.cell? ⟨bp, 1, none⟩ = some (.slice wa L.length wc) ∧ w'.cell? ⟨b4, 0, none⟩ = some (.string s.name) ∧ True)) (by kernel_rfl) ⟨hD.out.drew.cell 0 0 rfl rfl, hD.out.drew.cell 0 1 rfl rfl, hD.out.drew.cell 1 0 rfl rfl, trivial⟩ (fun hH => ?_)
      refine wpAnyH_geny (show Sy w _ [(bp, #[.slice (some ⟨g0, o0, none⟩) S.length sc, .slice wa L.length wc], 38), (b4, (cS s).toArray, 92)] [] [] from hD.out.drew) hH ?_
      intro VC_0 hc hHC_0
      have hVC_0 := Lib.hid hc
      clear hc hH hD
      refine wpAnyH_take (i := 0) (oi := ⟨_, _, _, _, _, _⟩) (v := ?_) rfl (by kernel_rfl) (by kernel_rfl) (by kernel_rfl) (fun _ _ _ h => h) (Or.inl ⟨by rfl, ?_⟩) hHC_0 ?_
      rotate_left
      · intro wS hSw; (try dsimp only at hSw); go_simp; try with_reducible rfl
      try simp only [Act.put, List.setIfInBounds_toArray, List.set_cons_zero, List.set_cons_succ]
      refine wpAnyH_take (i := 1) (oi := ⟨_, _, _, _, _, _⟩) (v := ?_) rfl (by kernel_rfl) (by kernel_rfl) (by kernel_rfl) (fun _ _ _ h => h) (Or.inl ⟨by rfl, ?_⟩) hHC_0 ?_
      rotate_left
      · intro wS hSw; (try dsimp only at hSw); go_simp; try with_reducible rfl
      try simp only [Act.put, List.setIfInBounds_toArray, List.set_cons_zero, List.set_cons_succ]
      refine wpAnyH_take (i := 2) (oi := ⟨_, _, _, _, _, _⟩) (v := ?_) rfl (by kernel_rfl) (by kernel_rfl) (by kernel_rfl) (fun _ _ _ h => h) (Or.inl ⟨by rfl, ?_⟩) hHC_0 ?_
      rotate_left
      · intro wS hSw; (try dsimp only at hSw); go_simp; try with_reducible rfl
      try simp only [Act.put, List.setIfInBounds_toArray, List.set_cons_zero, List.set_cons_succ]
      refine wpAnyH_take (i := 3) (oi := ⟨_, _, _, _, _, _⟩) (v := ?_) rfl (by kernel_rfl) (by kernel_rfl) (by kernel_rfl) (fun _ _ _ h => h) (Or.inl ⟨by rfl, ?_⟩) hHC_0 ?_
      rotate_left
      · intro wS hSw; (try dsimp only at hSw); go_simp; try with_reducible rfl
      try simp only [Act.put, List.setIfInBounds_toArray, List.set_cons_zero, List.set_cons_succ]
      refine wpAnyH_take (i := 4) (oi := ⟨_, _, _, _, _, _⟩) (v := ?_) rfl (by kernel_rfl) (by kernel_rfl) (by kernel_rfl) (fun _ _ _ h => h) (Or.inl ⟨by rfl, ?_⟩) hHC_0 ?_
      rotate_left
      · intro wS hSw; (try dsimp only at hSw); go_simp; try with_reducible rfl
      try simp only [Act.put, List.setIfInBounds_toArray, List.set_cons_zero, List.set_cons_succ]
      refine wpAnyH_take (i := 5) (oi := ⟨_, _, _, _, _, _⟩) (v := ?_) rfl (by kernel_rfl) (by kernel_rfl) (by kernel_rfl) (fun _ _ _ h => h) (Or.inl ⟨by rfl, ?_⟩) hHC_0 ?_
      rotate_left
      · intro wS hSw; (try dsimp only at hSw); go_simp; try with_reducible rfl
      try simp only [Act.put, List.setIfInBounds_toArray, List.set_cons_zero, List.set_cons_succ]
      refine wpAnyH_take (i := 6) (oi := ⟨_, _, _, _, _, _⟩) (v := ?_) rfl (by kernel_rfl) (by kernel_rfl) (by kernel_rfl) (fun _ _ _ h => h) (Or.inl ⟨by rfl, ?_⟩) hHC_0 ?_
      rotate_left
      · intro wS hSw; (try dsimp only at hSw); go_simp; try with_reducible rfl
      try simp only [Act.put, List.setIfInBounds_toArray, List.set_cons_zero, List.set_cons_succ]
      refine wpAnyH_ready (rs := [7, 11]) (by kernel_rfl) (by simp) ?_
      refine AllReadyH.cons (o := ⟨_, _, _, _, _, _⟩) rfl (fun Kq hKq => ?_) ?_
      · go_simp
        go_at_call 63
        refine (HSH.out _ hVC_0.out.be).mono ?_
        rintro e wT ⟨rfl, hb⟩
        (try go_wp2_with fail)
        refine stepY hKq (show Sy w _ [(bp, #[.slice (some ⟨g0, o0, none⟩) S.length sc, .slice wa L.length wc], 38), (b4, (cS s).toArray, 92)] [] [] from (hVC_0.out.call hb)) (fun _ hX => ⟨hX.cell 0 0 rfl rfl, hX.cell 0 1 rfl rfl, hX.cell 1 0 rfl rfl, trivial⟩) ?_
        intro VC_1 hc hHC_1
        have hVC_1 := Lib.hid hc
        clear hc hKq Kq hVC_0 hb hHC_0
        try simp only [Act.put, List.setIfInBounds_toArray, List.set_cons_zero, List.set_cons_succ]
        refine wpAnyH_take (i := 8) (oi := ⟨_, _, _, _, _, _⟩) (v := ?_) rfl (by kernel_rfl) (by kernel_rfl) (by kernel_rfl) (fun _ _ _ h => h) (Or.inl ⟨by rfl, ?_⟩) hHC_1 ?_
        rotate_left
        · intro wS hSw; (try dsimp only at hSw); go_simp; try with_reducible rfl
        try simp only [Act.put, List.setIfInBounds_toArray, List.set_cons_zero, List.set_cons_succ]
        refine wpAnyH_take (i := 9) (oi := ⟨_, _, _, _, _, _⟩) (v := ?_) rfl (by kernel_rfl) (by kernel_rfl) (by kernel_rfl) (fun _ _ _ h => h) (Or.inl ⟨by rfl, ?_⟩) hHC_1 ?_
        rotate_left
        · intro wS hSw; (try dsimp only at hSw); go_simp; try with_reducible rfl
        try simp only [Act.put, List.setIfInBounds_toArray, List.set_cons_zero, List.set_cons_succ]
        refine wpAnyH_take (i := 10) (oi := ⟨_, _, _, _, _, _⟩) (v := ?_) rfl (by kernel_rfl) (by kernel_rfl) (by kernel_rfl) (fun _ _ _ h => h) (Or.inl ⟨by rfl, ?_⟩) hHC_1 ?_
        rotate_left
        · intro wS hSw; (try dsimp only at hSw); go_simp; try with_reducible rfl
        try simp only [Act.put, List.setIfInBounds_toArray, List.set_cons_zero, List.set_cons_succ]
        refine wpAnyH_ready (rs := [11]) (by kernel_rfl) (by simp) ?_
        refine AllReadyH.cons (o := ⟨_, _, _, _, _, _⟩) rfl (fun Kq hKq => ?_) AllReadyH.nil
        rw [if_pos (by rfl)]
        refine op_al hVC_1.out _ rfl (zS) zero_Sheet (fun bZC_2 _ hc => ?_)
        refine stepY hKq (show Sy w _ [(bp, #[.slice (some ⟨g0, o0, none⟩) S.length sc, .slice wa L.length wc], 38), (b4, (cS s).toArray, 92), (bZC_2, (zS).cells, 92)] [] [] from hc) (fun _ hX => ⟨hX.cell 0 0 rfl rfl, hX.cell 0 1 rfl rfl, hX.cell 1 0 rfl rfl, trivial⟩) ?_
        intro VC_2 hc2 hHC_2
        have hVC_2 := Lib.hid hc2
        clear hc2 hKq Kq hVC_1 hc hHC_1
        try simp only [Act.put, List.setIfInBounds_toArray, List.set_cons_zero, List.set_cons_succ]
        refine wpAnyH_ready (rs := [12]) (by kernel_rfl) (by simp) ?_
        refine AllReadyH.cons (o := ⟨_, _, _, _, _, _⟩) rfl (fun Kq hKq => ?_) AllReadyH.nil
        rw [if_pos (by rfl)]
        refine op_st hVC_2.out 2 rfl _ _ _ rfl rfl (X.toArray) (HXV.out.symm) (show (Tryz.prog.info? 92).map (·.size) = some X.toArray.size by rw [HXL.out]; exact info_Sheet) (by rw [HXL.out]; rfl) (HX1.out) (fun _ hc => ?_)
        refine stepY hKq (show Sy w _ [(bp, #[.slice (some ⟨g0, o0, none⟩) S.length sc, .slice wa L.length wc], 38), (b4, (cS s).toArray, 92), (bZC_2, X.toArray, 92)] [] [] from hc) (fun _ hX => ⟨hX.cell 0 0 rfl rfl, hX.cell 0 1 rfl rfl, hX.cell 1 0 rfl rfl, trivial⟩) ?_
        intro VC_3 hc2 hHC_3
        have hVC_3 := Lib.hid hc2
        clear hc2 hKq Kq hVC_2 hc hHC_2
        try simp only [Act.put]
        refine wpAnyH_ready (rs := [13]) (by kernel_rfl) (by simp) ?_
        refine AllReadyH.cons (o := ⟨_, _, _, _, _, _⟩) rfl (fun Kq hKq => ?_) AllReadyH.nil
        go_simp
        refine stepY hKq (show Sy w _ [(bp, #[.slice (some ⟨g0, o0, none⟩) S.length sc, .slice wa L.length wc], 38), (b4, (cS s).toArray, 92), (bZC_2, X.toArray, 92)] [] [] from hVC_3.out) (fun _ hX => ⟨hX.cell 0 0 rfl rfl, hX.cell 0 1 rfl rfl, hX.cell 1 0 rfl rfl, trivial⟩) ?_
        intro VC_4 hc hHC_4
        have hVC_4 := Lib.hid hc
        clear hc hKq Kq hVC_3 hHC_3
        try simp only [Act.put, List.setIfInBounds_toArray, List.set_cons_zero, List.set_cons_succ]
        refine wpAnyH_done (by kernel_rfl) ?_ _
        clear HSH HXL HX1 HXV
        have hE := Lib.hid (hVC_4.out.thin (bs' := [(bp, #[.slice (some ⟨g0, o0, none⟩) S.length sc, .slice wa L.length wc], 38), (b4, (cS s).toArray, 92)]) (List.Sublist.cons_cons _ (List.Sublist.cons_cons _ (List.nil_sublist _))) (List.Sublist.refl _))
        clear hVC_4
        cases tw
        rotate_left
        · have HB := Lib.hid (HNO.out (by rw [HOK.out]; rfl))
          go_wp2
          go_ret
          exact ⟨ret_int HB.out.symm, hE.out.be⟩
        go_upto_region 7 with fail
        go_wp2_with (refine wpList_ldg (o := ⟨some 42, _, _, _, _, _⟩) rfl _ _ rfl _ _ rfl (cS s) _ (hE.out.range 1 rfl) Tryz.underlying92 rfl info_Sheet V HV.out ?_)
        refine (HCK.out _ hE.out.be).mono ?_
        rintro e w7 ⟨rfl, hb⟩
        have hF := Lib.hid (hE.out.call hb)
        clear hb hE
        cases hsb : sheetB s
        · have HB := Lib.hid (HNO.out (by rw [HOK.out, hsb]; rfl))
          rw [show errB false = 2 from rfl]
          go_wp2
          go_ret
          exact ⟨ret_int HB.out.symm, hF.out.be⟩
        have HB := Lib.hid (HNX.out (by rw [HOK.out, hsb]; rfl))
        rw [show errB true = 0 from rfl]
        go_wp2
        go_roundw
        case rel => exact ⟨k + 1, by omega, by go_num, HB, Lib.hid (hF.out.thin (List.Sublist.cons_cons _ (List.nil_sublist _)) (List.Sublist.refl _))⟩
        case measure => simp [intOf]; omega
      refine AllReadyH.cons (o := ⟨_, _, _, _, _, _⟩) rfl (fun Kq hKq => ?_) ?_
      · rw [if_pos (by rfl)]
        refine op_al hVC_0.out _ rfl (zS) zero_Sheet (fun bZC_1 _ hc => ?_)
        refine stepY hKq (show Sy w _ [(bp, #[.slice (some ⟨g0, o0, none⟩) S.length sc, .slice wa L.length wc], 38), (b4, (cS s).toArray, 92), (bZC_1, (zS).cells, 92)] [] [] from hc) (fun _ hX => ⟨hX.cell 0 0 rfl rfl, hX.cell 0 1 rfl rfl, hX.cell 1 0 rfl rfl, trivial⟩) ?_
        intro VC_1 hc2 hHC_1
        have hVC_1 := Lib.hid hc2
        clear hc2 hKq Kq hVC_0 hc hHC_0
        try simp only [Act.put, List.setIfInBounds_toArray, List.set_cons_zero, List.set_cons_succ]
        refine wpAnyH_ready (rs := [7]) (by kernel_rfl) (by simp) ?_
        refine AllReadyH.cons (o := ⟨_, _, _, _, _, _⟩) rfl (fun Kq hKq => ?_) AllReadyH.nil
        go_simp
        go_at_call 63
        refine (HSH.out _ hVC_1.out.be).mono ?_
        rintro e wT ⟨rfl, hb⟩
        (try go_wp2_with fail)
        refine stepY hKq (show Sy w _ [(bp, #[.slice (some ⟨g0, o0, none⟩) S.length sc, .slice wa L.length wc], 38), (b4, (cS s).toArray, 92), (bZC_1, (zS).cells, 92)] [] [] from (hVC_1.out.call hb)) (fun _ hX => ⟨hX.cell 0 0 rfl rfl, hX.cell 0 1 rfl rfl, hX.cell 1 0 rfl rfl, trivial⟩) ?_
        intro VC_2 hc hHC_2
        have hVC_2 := Lib.hid hc
        clear hc hKq Kq hVC_1 hb hHC_1
        try simp only [Act.put, List.setIfInBounds_toArray, List.set_cons_zero, List.set_cons_succ]
        refine wpAnyH_take (i := 8) (oi := ⟨_, _, _, _, _, _⟩) (v := ?_) rfl (by kernel_rfl) (by kernel_rfl) (by kernel_rfl) (fun _ _ _ h => h) (Or.inl ⟨by rfl, ?_⟩) hHC_2 ?_
        rotate_left
        · intro wS hSw; (try dsimp only at hSw); go_simp; try with_reducible rfl
        try simp only [Act.put, List.setIfInBounds_toArray, List.set_cons_zero, List.set_cons_succ]
        refine wpAnyH_take (i := 9) (oi := ⟨_, _, _, _, _, _⟩) (v := ?_) rfl (by kernel_rfl) (by kernel_rfl) (by kernel_rfl) (fun _ _ _ h => h) (Or.inl ⟨by rfl, ?_⟩) hHC_2 ?_
        rotate_left
        · intro wS hSw; (try dsimp only at hSw); go_simp; try with_reducible rfl
        try simp only [Act.put, List.setIfInBounds_toArray, List.set_cons_zero, List.set_cons_succ]
        refine wpAnyH_take (i := 10) (oi := ⟨_, _, _, _, _, _⟩) (v := ?_) rfl (by kernel_rfl) (by kernel_rfl) (by kernel_rfl) (fun _ _ _ h => h) (Or.inl ⟨by rfl, ?_⟩) hHC_2 ?_
        rotate_left
        · intro wS hSw; (try dsimp only at hSw); go_simp; try with_reducible rfl
        try simp only [Act.put, List.setIfInBounds_toArray, List.set_cons_zero, List.set_cons_succ]
        refine wpAnyH_ready (rs := [12]) (by kernel_rfl) (by simp) ?_
        refine AllReadyH.cons (o := ⟨_, _, _, _, _, _⟩) rfl (fun Kq hKq => ?_) AllReadyH.nil
        rw [if_pos (by rfl)]
        refine op_st hVC_2.out 2 rfl _ _ _ rfl rfl (X.toArray) (HXV.out.symm) (show (Tryz.prog.info? 92).map (·.size) = some X.toArray.size by rw [HXL.out]; exact info_Sheet) (by rw [HXL.out]; rfl) (HX1.out) (fun _ hc => ?_)
        refine stepY hKq (show Sy w _ [(bp, #[.slice (some ⟨g0, o0, none⟩) S.length sc, .slice wa L.length wc], 38), (b4, (cS s).toArray, 92), (bZC_1, X.toArray, 92)] [] [] from hc) (fun _ hX => ⟨hX.cell 0 0 rfl rfl, hX.cell 0 1 rfl rfl, hX.cell 1 0 rfl rfl, trivial⟩) ?_
        intro VC_3 hc2 hHC_3
        have hVC_3 := Lib.hid hc2
        clear hc2 hKq Kq hVC_2 hc hHC_2
        try simp only [Act.put]
        refine wpAnyH_ready (rs := [13]) (by kernel_rfl) (by simp) ?_
        refine AllReadyH.cons (o := ⟨_, _, _, _, _, _⟩) rfl (fun Kq hKq => ?_) AllReadyH.nil
        go_simp
        refine stepY hKq (show Sy w _ [(bp, #[.slice (some ⟨g0, o0, none⟩) S.length sc, .slice wa L.length wc], 38), (b4, (cS s).toArray, 92), (bZC_1, X.toArray, 92)] [] [] from hVC_3.out) (fun _ hX => ⟨hX.cell 0 0 rfl rfl, hX.cell 0 1 rfl rfl, hX.cell 1 0 rfl rfl, trivial⟩) ?_
        intro VC_4 hc hHC_4
        have hVC_4 := Lib.hid hc
        clear hc hKq Kq hVC_3 hHC_3
        try simp only [Act.put, List.setIfInBounds_toArray, List.set_cons_zero, List.set_cons_succ]
        refine wpAnyH_done (by kernel_rfl) ?_ _
        clear HSH HXL HX1 HXV
        have hE := Lib.hid (hVC_4.out.thin (bs' := [(bp, #[.slice (some ⟨g0, o0, none⟩) S.length sc, .slice wa L.length wc], 38), (b4, (cS s).toArray, 92)]) (List.Sublist.cons_cons _ (List.Sublist.cons_cons _ (List.nil_sublist _))) (List.Sublist.refl _))
        clear hVC_4
        cases tw
        rotate_left
        · have HB := Lib.hid (HNO.out (by rw [HOK.out]; rfl))
          go_wp2
          go_ret
          exact ⟨ret_int HB.out.symm, hE.out.be⟩
        go_upto_region 7 with fail
        go_wp2_with (refine wpList_ldg (o := ⟨some 42, _, _, _, _, _⟩) rfl _ _ rfl _ _ rfl (cS s) _ (hE.out.range 1 rfl) Tryz.underlying92 rfl info_Sheet V HV.out ?_)
        refine (HCK.out _ hE.out.be).mono ?_
        rintro e w7 ⟨rfl, hb⟩
        have hF := Lib.hid (hE.out.call hb)
        clear hb hE
        cases hsb : sheetB s
        · have HB := Lib.hid (HNO.out (by rw [HOK.out, hsb]; rfl))
          rw [show errB false = 2 from rfl]
          go_wp2
          go_ret
          exact ⟨ret_int HB.out.symm, hF.out.be⟩
        have HB := Lib.hid (HNX.out (by rw [HOK.out, hsb]; rfl))
        rw [show errB true = 0 from rfl]
        go_wp2
        go_roundw
        case rel => exact ⟨k + 1, by omega, by go_num, HB, Lib.hid (hF.out.thin (List.Sublist.cons_cons _ (List.nil_sublist _)) (List.Sublist.refl _))⟩
        case measure => simp [intOf]; omega
      exact AllReadyH.nil
    · have hkk : ¬ (k : Int) < (S.length : Int) := by omega
      have HSY := Lib.hid (show ∀ i, i < S.length → okSheet S i = true from fun i hi => HI.out i (by omega))
      clear HI HBS
      have x1 : wr.cell? ⟨bp, 1, none⟩ = some (.slice wa L.length wc) := hC.out.cell 0 1 rfl rfl
      go_wp2
      go_loopw [50] (fun iv wr => ∃ k : Nat, k ≤ L.length ∧ iv = .int .i64 k ∧ Hid (∀ i, i < k → okWall S L i = true) ∧ Hid (Sy w wr [(bp, #[.slice sa S.length sc, .slice wa L.length wc], 38)] [] [])) (fun iv _ => L.length - (intOf iv).toNat)
      case atStart => exact ⟨0, Nat.zero_le _, rfl, Lib.hid (fun i h => absurd h (Nat.not_lt_zero i)), hC⟩
      case round =>
        clear hC x1 hkk hlt
        obtain ⟨m, hm, rfl, HI, hC⟩ := hrel
        by_cases hlt : m < L.length
        · obtain ⟨g1, o1, rfl⟩ := HL.out.row.addr (by omega)
          have HOK := Lib.hid (okWall_at (S := S) hlt)
          obtain ⟨y0, y1, y2, y3⟩ := (HL.out.row.below hC.out.be).atWa hlt
          have HNO := Lib.hid (HBW.out m hlt)
          have HNX := Lib.hid (show okWall S L m = true → ∀ i, i < m + 1 → okWall S L i = true from fun h i hi => by
            rcases Nat.lt_or_ge i m with h1 | h1
            · exact HI.out i h1
            · have : i = m := by omega
              subst this; exact h)
          have HVA := Lib.hid (fun W (hW : Below w.heap.size w W) s hH => wvalid_any W L[m] s ((HL.out.opn _ (List.getElem_mem hlt)).below hW) (HL.out.nam _ (List.getElem_mem hlt)).1 (HL.out.knd _ (List.getElem_mem hlt)) hH)
          have HWL := Lib.hid (fun W (hW : Below w.heap.size w W) => pwall_any W (.slice sa S.length sc) (some ⟨g1, o1, none⟩) L.length wc L L[m].name (HL.out.row.below hW))
          have HSH := Lib.hid (fun W (hW : Below w.heap.size w W) => psheet_any W sa S.length sc S (.slice (some ⟨g1, o1, none⟩) L.length wc) L[m].sheet (HS.out.row.below hW))
          unfold RetTheS at HSH
          have i0 : (0 : Int) ≤ (m : Int) := by omega
          have i1 : (m : Int) < (L.length : Int) := by omega
          clear HI
          generalize okWall S L m = ok at *
          generalize L[m] = x at *
          go_upto_region 13 with fail
          have hD6 := Lib.hid (hC.out.al wr.heap.size #[.string x.name, .string x.sheet, .int .i64 x.len, .slice x.oa x.on x.oc] 91 rfl)
          obtain ⟨b8, hb8⟩ : ∃ b8, wr.heap.size = b8 := ⟨_, rfl⟩
          rw [hb8] at hD6 ⊢
          refine wp_geny hD6.out ?_
          intro W7 hc
          have hD := Lib.hid hc
          clear hc hD6 hb8 hC y0 y1 y2 y3
          have x0 : W7.cell? ⟨bp, 0, none⟩ = some (.slice sa S.length sc) := hD.out.cell 0 0 rfl rfl
          have x1 : W7.cell? ⟨bp, 1, none⟩ = some (.slice (some ⟨g1, o1, none⟩) L.length wc) := hD.out.cell 0 1 rfl rfl
          have y1 : W7.cell? ⟨b8, 1, none⟩ = some (.string x.sheet) := hD.out.cell 1 1 rfl rfl
          cases hf : S.find? (isS x.sheet) with
          | none =>
            rw [hf] at HOK
            have HB := Lib.hid (HNO.out HOK.out)
            rw [theS_none hf] at HSH
            clear hf HNX HVA HWL HNO HOK
            go_wp2_with fail
            refine (HSH.out _ hD.out.be).mono ?_
            rintro e w8 ⟨rfl, hb⟩
            have hE0 := Lib.hid (hD.out.call hb)
            clear hb hD x0 x1 y1
            go_upto_region 14 with (first | (refine wpList_al (o := ⟨some 9, _, _, _, _, _⟩) rfl hE0.out _ rfl zS zero_Sheet ?_; intro b9 V2 h2; have hE2 := Lib.hid h2; clear h2) | (refine wpList_st (o := ⟨none, _, _, _, _, _⟩) rfl hE2.out 2 rfl _ _ _ rfl rfl zC.toArray rfl info_Sheet rfl zC_one ?_; intro V3 h3; have hE := Lib.hid h3; clear h3 hE2) | fail)
            go_wp2
            go_ret
            exact ⟨ret_int HB.out.symm, hE.out.be⟩
          | some s =>
            rw [hf] at HOK
            dsimp only at HOK
            have hsm : s ∈ S := List.mem_of_find?_eq_some hf
            have hsb : sheetB s = true := by
              obtain ⟨i, hi, e⟩ := List.getElem_of_mem hsm
              have h := HSY.out i hi
              rw [okSheet_at hi, Bool.and_eq_true, e] at h
              exact h.2
            have HHT := Lib.hid (show 1 ≤ s.height ∧ s.height ≤ 3000 from by
              unfold sheetB at hsb
              simp only [Bool.and_eq_true] at hsb
              exact (nums_get hsb.1.1.1.1.2).2.2.1)
            rw [theS_some hf] at HSH
            clear hf hsm hsb
            obtain ⟨V, hV⟩ : ∃ V, Value.agg (cS s).toArray = V := ⟨_, rfl⟩
            have HV := Lib.hid hV
            have HVB := Lib.hid (fun W h => HVA.out W h s HHT.out)
            rw [show aS s = V from hV] at HVB
            dsimp only at HSH
            rw [hV] at HSH
            clear hV HVA
            go_wp2_with fail
            refine (HSH.out _ hD.out.be).mono ?_
            rintro e w8 ⟨rfl, hb⟩
            have hE0 := Lib.hid (hD.out.call hb)
            clear hb hD x0 x1 y1 HSH
            go_upto_region 14 with (first | (refine wpList_al (o := ⟨some 9, _, _, _, _, _⟩) rfl hE0.out _ rfl zS zero_Sheet ?_; intro b9 V2 h2; have hE2 := Lib.hid h2; clear h2) | (refine wpList_st (o := ⟨none, _, _, _, _, _⟩) rfl hE2.out 2 rfl _ _ _ rfl rfl (cS s).toArray HV.out.symm info_Sheet rfl (cS_one s) ?_; intro V3 h3; have hE := Lib.hid h3; clear h3 hE2 hE0) | fail)
            have x0 : V3.cell? ⟨bp, 0, none⟩ = some (.slice sa S.length sc) := hE.out.cell 0 0 rfl rfl
            have x1 : V3.cell? ⟨bp, 1, none⟩ = some (.slice (some ⟨g1, o1, none⟩) L.length wc) := hE.out.cell 0 1 rfl rfl
            have y0 : V3.cell? ⟨b8, 0, none⟩ = some (.string x.name) := hE.out.cell 1 0 rfl rfl
            generalize idxB (isW x.name) L = r at *
            go_wp2_with fail
            refine (HWL.out _ hE.out.be).mono ?_
            rintro e w9 ⟨rfl, hb⟩
            have hF := Lib.hid (hE.out.call hb)
            clear hb hE x0 x1 y0 HWL
            by_cases hr : r < (m : Int)
            · have HB := Lib.hid (HNO.out (by rw [HOK.out, decide_eq_true hr]; rfl))
              clear HOK
              go_wp2
              go_ret
              exact ⟨ret_int HB.out.symm, hF.out.be⟩
            have HOK2 := Lib.hid (show ok = wallB x s by rw [HOK.out, decide_eq_false hr]; rfl)
            have dr : decide (r < (m : Int)) = false := decide_eq_false hr
            clear HOK hr
            have y0 : w9.cell? ⟨b8, 0, none⟩ = some (.string x.name) := hF.out.cell 1 0 rfl rfl
            have y1 : w9.cell? ⟨b8, 1, none⟩ = some (.string x.sheet) := hF.out.cell 1 1 rfl rfl
            have y2 : w9.cell? ⟨b8, 2, none⟩ = some (.int .i64 x.len) := hF.out.cell 1 2 rfl rfl
            have y3 : w9.cell? ⟨b8, 3, none⟩ = some (.slice x.oa x.on x.oc) := hF.out.cell 1 3 rfl rfl
            go_wp2_with (refine wpList_ldg (o := ⟨some 74, _, _, _, _, _⟩) rfl _ _ rfl _ _ rfl (cS s) _ (hF.out.range 2 rfl) Tryz.underlying92 rfl info_Sheet V HV.out ?_)
            refine (HVB.out _ hF.out.be).mono ?_
            rintro e w10 ⟨rfl, hb⟩
            have hG := Lib.hid (hF.out.call hb)
            clear hb hF y0 y1 y2 y3
            cases hwb : wallB x s
            · have HB := Lib.hid (HNO.out (by rw [HOK2.out, hwb]))
              go_wp2
              go_ret
              exact ⟨ret_int HB.out.symm, hG.out.be⟩
            · have HB := Lib.hid (HNX.out (by rw [HOK2.out, hwb]))
              go_wp2
              go_roundw
              case rel => exact ⟨m + 1, by omega, by go_num, HB, Lib.hid (hG.out.thin (List.Sublist.cons_cons _ (List.nil_sublist _)) (List.Sublist.refl _))⟩
              case measure => simp [intOf]; omega
        · have hkk : ¬ (m : Int) < (L.length : Int) := by omega
          have HB := Lib.hid (HBY.out HSY.out (fun i hi => HI.out i (by omega)))
          go_wp2
          go_ret
          exact ⟨ret_int HB.out.symm, hC.out.be⟩
end
end Go.Proofs.YtchignmnnbepnaaGreat

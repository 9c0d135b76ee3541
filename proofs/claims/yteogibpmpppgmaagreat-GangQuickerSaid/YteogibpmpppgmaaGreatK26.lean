/- the law GangQuicker, walked -/
import Derived.Test.YteogibpmpppgmaaGreatK24
namespace Go.Proofs.YteogibpmpppgmaaGreat
open Go.RowKit
theorem badW_iff {p : List WL} {x : WL} : badW p x = false ↔ (∀ o ∈ p, (o.1.toList == x.1.toList) = false) ∧ namedB x.1 = true ∧ inB x.2.1 1 20000 = true ∧ inB x.2.2 0 1000000 = true := by
  unfold badW
  rw [Bool.or_eq_false_iff, Bool.or_eq_false_iff, Bool.or_eq_false_iff, List.any_eq_false]
  simp only [Bool.not_eq_false', Bool.not_eq_true]
  constructor
  · rintro ⟨⟨⟨a, b⟩, c⟩, d⟩; exact ⟨a, b, c, d⟩
  · rintro ⟨a, b, c, d⟩; exact ⟨⟨⟨a, b⟩, c⟩, d⟩
theorem gangB_iff {l : List WL} : gangB l = true ↔ inB l.length 1 12 = true ∧ ∀ i (hi : i < l.length), badW (l.take i) l[i] = false := by
  constructor
  · intro h
    have h2 : ∀ i (hi : i < l.length), badW (l.take i) l[i] = false := fun i hi => by
      cases hb : badW (l.take i) l[i]
      · rfl
      · rw [gang_no hi hb] at h; cases h
    exact ⟨by rw [← gang_end h2]; exact h, h2⟩
  · rintro ⟨h1, h2⟩
    rw [gang_end h2]; exact h1
theorem gang_set {l : List WL} {k : Nat} {p : Int} (hk : k < l.length) (hp : 1 ≤ p ∧ p ≤ 20000) (h : gangB l = true) : gangB (l.set k (l[k].1, p, l[k].2.2)) = true := by
  obtain ⟨h1, h2⟩ := gangB_iff.1 h
  have hn : ∀ i (hi : i < (l.set k (l[k].1, p, l[k].2.2)).length), (l.set k (l[k].1, p, l[k].2.2))[i].1 = (l[i]'(by rw [List.length_set] at hi; exact hi)).1 := fun i hi => by
    rw [List.getElem_set]
    split
    · next e => subst e; rfl
    · rfl
  refine gangB_iff.2 ⟨by rw [List.length_set]; exact h1, fun i hi => ?_⟩
  have hi' : i < l.length := by rw [List.length_set] at hi; exact hi
  have h3 := badW_iff.1 (h2 i hi')
  refine badW_iff.2 ⟨fun o ho => ?_, by rw [hn i hi]; exact h3.2.1, ?_, ?_⟩
  · obtain ⟨t, ht, rfl⟩ := List.mem_take_iff_getElem.1 ho
    have ht2 : t < l.length := by rw [List.length_set] at ht; omega
    rw [hn i hi, hn t (by omega)]
    exact h3.1 _ (List.mem_take_iff_getElem.2 ⟨t, by omega, rfl⟩)
  · rw [List.getElem_set]
    split
    · exact inB_iff.2 hp
    · exact h3.2.2.1
  · rw [List.getElem_set]
    split
    · next e => subst e; exact h3.2.2.2
    · exact h3.2.2.2
theorem paces_set {l : List WL} {k : Nat} {p : Int} (hk : k < l.length) : pacesOf (l.set k (l[k].1, p, l[k].2.2)) = (pacesOf l).set k p := by
  unfold pacesOf
  rw [List.map_set]
theorem paces_append (l r : List WL) : pacesOf (l ++ r) = pacesOf l ++ pacesOf r := by unfold pacesOf; rw [List.map_append]
theorem faster_le {F : List Int} {L : Int} {l : List WL} {k : Nat} {p : Int} (hk : k < l.length) (hp : 1 ≤ p ∧ p ≤ 20000) (hle : l[k].2.1 ≤ p) (hR : RightF F L) (h : gangB l = true) :
    daysOf F L (pacesOf (l.set k (l[k].1, p, l[k].2.2))) ≤ daysOf F L (pacesOf l) := by
  refine days_faster hR (gangB_paces h) (gangB_paces (gang_set hk hp h)) (by rw [paces_set hk, List.length_set]) fun i hi => ?_
  rw [paces_set hk]
  have hi' : i < l.length := by simpa [pacesOf] using hi
  rw [List.getD_eq_getElem?_getD, List.getD_eq_getElem?_getD, List.getElem?_set]
  split
  · next e =>
    subst e
    rw [if_pos (by simpa [pacesOf] using hi'), List.getElem?_eq_getElem hi]
    simpa [pacesOf] using hle
  · exact Int.le_refl _
theorem more_le {F : List Int} {L : Int} {l : List WL} {x : WL} (hR : RightF F L) (h : gangB l = true) (h2 : gangB (l ++ [x]) = true) : daysOf F L (pacesOf (l ++ [x])) ≤ daysOf F L (pacesOf l) := by
  have h3 := gangB_paces h2
  rw [paces_append] at h3 ⊢
  exact days_more hR (gangB_paces h) h3
theorem LW_set1 : ∀ (l : List WL) (i : Nat) (v : Int) (h : i < l.length), (LW l).set (i * 3 + 1) (.int .i64 v) = LW (l.set i (l[i].1, v, l[i].2.2))
  | x :: l, 0, v, _ => rfl
  | x :: l, i + 1, v, h => by
    have h' : i < l.length := by simpa using h
    have ih := LW_set1 l i v h'
    show (Value.string x.1 :: Value.int .i64 x.2.1 :: Value.int .i64 x.2.2 :: LW l).set ((i + 1) * 3 + 1) _ = Value.string x.1 :: Value.int .i64 x.2.1 :: Value.int .i64 x.2.2 :: LW (l.set i (l[i].1, v, l[i].2.2))
    rw [show (i + 1) * 3 + 1 = i * 3 + 1 + 1 + 1 + 1 by omega, List.set_cons_succ, List.set_cons_succ, List.set_cons_succ, ih]
theorem LW_one (l : List WL) : ∀ u ∈ LW l, u.oneCell' = true := fun u hu => by
  unfold LW at hu
  obtain ⟨x, _, hx⟩ := List.mem_flatMap.1 hu
  unfold cW at hx
  simp only [List.mem_cons, List.not_mem_nil, or_false] at hx
  rcases hx with rfl | rfl | rfl <;> rfl
def moreN : ByteArray := ⟨#[111, 110, 101, 48, 109, 111, 114, 101]⟩
section
variable (w : World)
set_option maxRecDepth 100000 in
set_option maxHeartbeats 16000000 in
theorem gangQuicker_walk (a2 a3 a4 : Option Addr) (n2 c2 n3 c3 n4 c4 : Nat) (L fa mo : Int) (F : List Int) (l : List WL) (st : List I3) (hs2 : Sx 1 w a2 n2 c2 (L1 F)) (hs3 : Sx 3 w a3 n3 c3 (LW l)) (hs4 : Sx 3 w a4 n4 c4 (L3 st)) (hn : ∀ x ∈ l, x.1.size ≤ maxLen) (hfa : 0 ≤ fa ∧ fa < 256) (hmo : 0 ≤ mo ∧ mo < 256) :
    Calls Tryz.prog 5 #[.int .i64 L, .slice a2 n2 c2, .slice a3 n3 c3, .slice a4 n4 c4, .int .u8 fa, .int .u8 mo] w (Gives (.bool true) w) := by
  have cap2 := hs2.cap
  have cap3 := hs3.cap
  have cap4 := hs4.cap
  unfold maxLen at cap2 cap3 cap4
  obtain rfl := hs2.n1
  obtain rfl := hs3.nW
  obtain rfl := hs4.n3
  have HW := Lib.hid wakes_any
  have HS2 := Lib.hid hs2
  have HS3 := Lib.hid hs3
  have HS4 := Lib.hid hs4
  have HN := Lib.hid hn
  clear hs2 hs3 hs4 hn
  have hcase : ((F.length : Int) > 70) ∨ (¬ ((F.length : Int) > 70) ∧ ((l.length : Int) > 11)) ∨ (¬ ((F.length : Int) > 70) ∧ ¬ ((l.length : Int) > 11) ∧ ((st.length : Int) > 20)) ∨ (¬ ((F.length : Int) > 70) ∧ ¬ ((l.length : Int) > 11) ∧ ¬ ((st.length : Int) > 20)) := by omega
  rcases hcase with g0 | ⟨g0, g1⟩ | ⟨g0, g1, g2⟩ | ⟨g0, g1, g2⟩
  · go_enter Tryz.func5, Tryz.ntmps5
    have hC := Lib.hid (Sy.enter w)
    go_wp2_with fail
    refine (HW.out _).mono ?_
    rintro e V ⟨rfl, hb⟩
    have hZ := Lib.hid (hC.out.call hb)
    clear hb
    go_wp2
    go_ret
    exact ⟨rfl, hZ.out.be⟩
  · go_enter Tryz.func5, Tryz.ntmps5
    have hC := Lib.hid (Sy.enter w)
    go_wp2_with fail
    refine (HW.out _).mono ?_
    rintro e V ⟨rfl, hb⟩
    have hZ := Lib.hid (hC.out.call hb)
    clear hb
    go_wp2
    go_ret
    exact ⟨rfl, hZ.out.be⟩
  · go_enter Tryz.func5, Tryz.ntmps5
    have hC := Lib.hid (Sy.enter w)
    go_wp2_with fail
    refine (HW.out _).mono ?_
    rintro e V ⟨rfl, hb⟩
    have hZ := Lib.hid (hC.out.call hb)
    clear hb
    go_wp2
    go_ret
    exact ⟨rfl, hZ.out.be⟩
  · have HRG := Lib.hid (fun W (h : Below w.heap.size w W) => refGang_any W a3 _ c3 l (HS3.out.below h) HN.out)
    have HRF := Lib.hid (fun W (h : Below w.heap.size w W) => refFrames_any W a2 _ c2 L F (HS2.out.below h))
    have hC := Lib.hid (Sy.enter w)
    cases hrb : rightB L F l
    · have hsp := rightB_split L F l
      rw [hrb] at hsp
      clear hrb
      cases hg : gangB l
      · rw [hg] at HRG
        clear hg hsp HRF
        go_enter Tryz.func5, Tryz.ntmps5
        go_wp2_with fail
        refine (HRG.out _ hC.out.be).mono ?_
        rintro e V1 ⟨rfl, hb⟩
        have hD := Lib.hid (hC.out.call hb)
        clear hb
        go_wp2_with fail
        refine (HW.out _).mono ?_
        rintro e V ⟨rfl, hb⟩
        have hZ := Lib.hid (hD.out.call hb)
        clear hb
        go_wp2
        go_ret
        exact ⟨rfl, hZ.out.be⟩
      · have hf : framesB L F = false := by rw [hg] at hsp; exact hsp.symm
        rw [hg] at HRG
        rw [hf] at HRF
        clear hg hsp hf
        go_enter Tryz.func5, Tryz.ntmps5
        go_wp2_with fail
        refine (HRG.out _ hC.out.be).mono ?_
        rintro e V1 ⟨rfl, hb⟩
        have hD := Lib.hid (hC.out.call hb)
        clear hb
        go_wp2_with fail
        refine (HRF.out _ hD.out.be).mono ?_
        rintro e V2 ⟨rfl, hb⟩
        have hE := Lib.hid (hD.out.call hb)
        clear hb
        go_wp2_with fail
        refine (HW.out _).mono ?_
        rintro e V ⟨rfl, hb⟩
        have hZ := Lib.hid (hE.out.call hb)
        clear hb
        go_wp2
        go_ret
        exact ⟨rfl, hZ.out.be⟩
    · obtain ⟨hR, hF6, hg⟩ := rightB_iff.1 hrb
      have hl := gangB_len hg
      have hp : ∀ x ∈ l, 1 ≤ x.2.1 ∧ x.2.1 ≤ 20000 := fun x hx => (gangB_row hg x hx).1
      have hRP := gangB_paces hg
      have hf : framesB L F = true := by have h := rightB_split L F l; rw [hrb, hg] at h; exact h.symm
      have hLL := hR.2.1
      have HCG := Lib.hid (fun W (h : Below w.heap.size w W) => conv_Waller2 a3 _ c3 l W (HS3.out.below h) (by omega))
      have HDO := Lib.hid (fun W b d (m : List WL) (hm : ∀ x ∈ m, x.1.size ≤ maxLen) (hrm : rightB L F m = true) (h0 : Sx 3 W b m.length d (LW m)) (h : Below w.heap.size w W) => days_ok W a2 b _ c2 _ d L F m (HS2.out.below h) h0 hm hrm)
      have HDB := Lib.hid (fun W b d (m : List WL) (hm : ∀ x ∈ m, x.1.size ≤ maxLen) (hrm : rightB L F m = false) (h0 : Sx 3 W b m.length d (LW m)) (h : Below w.heap.size w W) => days_bad W a2 b _ c2 _ d L F m (HS2.out.below h) h0 hm hrm)
      have HCK := Lib.hid (fun W b d (m : List WL) (hm : ∀ x ∈ m, x.1.size ≤ maxLen) (h0 : Sx 3 W b m.length d (LW m)) => check_any W b _ d m h0 hm)
      have hds := daysOf_spec hR hRP
      have hpv := days_proved hR hRP
      rw [← proves_eq hR hRP] at hpv
      have HPD := Lib.hid (fun W b b' d d' (s : List I3) (h0 : Sx 3 W b l.length d (LW l)) (h1 : Sx 3 W b' s.length d' (L3 s)) (h : Below w.heap.size w W) => proveDays_any W a2 b b' _ c2 _ d _ d' L (daysOf F L (pacesOf l)) F l s (HS2.out.below h) h0 h1 HN.out)
      have HRD := Lib.hid (fun W (h : Below w.heap.size w W) => refDivision_any W a2 a3 a4 _ c2 _ c3 _ c4 L ((daysOf F L (pacesOf l) : Int) - 1) F l st (HS2.out.below h) (HS3.out.below h) (HS4.out.below h) hR hl.2 hp (by omega) (by omega))
      rw [div_not_less hR hRP (by omega)] at HRD
      rw [hg] at HRG
      rw [hf] at HRF
      have HFA := Lib.hid (fun (k : Nat) (p : Int) (hk : k < l.length) (hp : 1 ≤ p ∧ p ≤ 20000) (hle : l[k].2.1 ≤ p) => faster_le (l := l) (k := k) (p := p) hk hp hle hR hg)
      have HMO := Lib.hid (fun x h2 => more_le (x := x) hR hg h2)
      have HGS := Lib.hid (fun (k : Nat) (p : Int) (hk : k < l.length) (hp : 1 ≤ p ∧ p ≤ 20000) => (show rightB L F (l.set k (l[k].1, p, l[k].2.2)) = true from by rw [rightB_split, gang_set (l := l) (k := k) (p := p) hk hp hg, hf]; rfl))
      have HRZ := Lib.hid (fun m : List WL => show rightB L F m = gangB m from by rw [rightB_split, hf, Bool.and_true])
      have hrb2 := hrb
      have HRB := Lib.hid hrb
      have hlk : Int.tmod fa (l.length : Int) = ((fa.toNat % l.length : Nat) : Int) := by
        rw [Int.tmod_eq_emod_of_nonneg hfa.1]
        first | rw [Int.natCast_emod, Int.toNat_of_nonneg hfa.1] | rw [Int.natCast_mod, Int.toNat_of_nonneg hfa.1]
      have hkl : fa.toNat % l.length < l.length := Nat.mod_lt _ (by omega)
      generalize fa.toNat % l.length = k at *
      have hpk := hp _ (List.getElem_mem hkl)
      clear hrb hrb2 hf hg hp hRP hR
      go_enter Tryz.func5, Tryz.ntmps5
      go_wp2_with fail
      refine (HRG.out _ hC.out.be).mono ?_
      rintro e V1 ⟨rfl, hb⟩
      have hD := Lib.hid (hC.out.call hb)
      clear hb hC HRG
      go_wp2_with fail
      refine (HRF.out _ hD.out.be).mono ?_
      rintro e V2 ⟨rfl, hb⟩
      have hE := Lib.hid (hD.out.call hb)
      clear hb hD HRF
      go_wp2_with fail
      refine (HCG.out _ hE.out.be).mono ?_
      rintro e V3 ⟨a6, c6, rfl, hr, hb⟩
      have hF := Lib.hid (hE.out.adopt hb hr)
      clear hb hr hE HCG
      go_wp2_with fail
      refine (HDO.out _ _ _ l HN.out HRB.out (hF.out.osx 0 rfl) hF.out.be).mono ?_
      rintro e V4 ⟨a7, c7, rfl, hr, hb⟩
      have hG := Lib.hid (hF.out.adopt hb hr)
      clear hb hr hF
      have HPD2 := Lib.hid (HPD.out V4 a6 a7 c6 c7 _ (hG.out.osx 0 rfl) (hG.out.osx 1 rfl) hG.out.be)
      rw [HRB.out, hpv, Bool.and_true] at HPD2
      clear hpv HPD
      generalize stintsOf (endsOf F L) (pacesOf l) (daysOf F L (pacesOf l)) = sts at *
      generalize hD : daysOf F L (pacesOf l) = D at *
      clear hD
      obtain ⟨hd1, hd2, -⟩ := hds
      obtain ⟨Z, hZ⟩ : ∃ Z : Int, (D : Int) = Z := ⟨_, rfl⟩
      rw [hZ] at HRD HPD2 ⊢
      have hdn : ¬ Z < 1 := by omega
      have HDN := Lib.hid (decide_eq_false hdn)
      have w1 : IntKind.i64.wrap (Z - 1) = Z - 1 := IntWalk.i64_in _ (by omega)
      have hZ2 : Z ≤ 100000 := by omega
      have HZD := Lib.hid hZ
      clear hZ
      go_upto_region 5 with fail
      go_cut [88] from 26 (fun tv wx => tv = .bool false ∧ Hid (Sy w wx [] [⟨.slice a6 l.length c6, 44, 3, l.length, LW l⟩] []))
      case first =>
        go_wp2_with fail
        refine HPD2.out.mono ?_
        rintro e V5 ⟨rfl, hb⟩
        have hH0 := Lib.hid (hG.out.call hb)
        clear hb hG HPD2
        have hH : Hid (Sy w V5 [] [⟨.slice a6 l.length c6, 44, 3, l.length, LW l⟩] []) := Lib.hid (hH0.out.thin (List.nil_sublist _) (List.Sublist.cons_cons _ (List.nil_sublist _)))
        clear hH0
        by_cases hD1 : Z > 1
        · go_wp2_with fail
          refine (HRD.out _ hH.out.be).mono ?_
          rintro e V6 ⟨rfl, hb⟩
          have hJ := Lib.hid (hH.out.call hb)
          clear hb hH
          go_wp2
          go_meet
          exact ⟨by first | rfl | rw [HDN.out], hJ⟩
        · have hDn : decide (1 < Z) = false := decide_eq_false hD1
          go_wp2
          go_meet
          exact ⟨by first | rfl | rw [HDN.out], hH⟩
      case rest =>
        clear hG HPD2
        obtain ⟨rfl, hH⟩ := hcut
        go_upto_region 8 with (refine wpList_append_sy (o := ⟨some 90, _, _, _, _, _⟩) rfl (hH.out.onil 44 3) 1 0 rfl rfl _ _ _ rfl und_Waller2 info_Waller2 rfl (by omega) rfl rfl (LW_one _) (by omega) (by omega) ?_; intro a8 c8 V7 hV; have hK0 := Lib.hid hV; clear hV)
        refine wp_geny hK0.out ?_
        intro W8 hc
        have hK1 : Hid (Sy w W8 [] [⟨.slice a6 l.length c6, 44, 3, l.length, LW l⟩, ⟨.slice a8 (0 + l.length) c8, 44, 3, 0 + l.length, [] ++ LW l⟩] []) := Lib.hid hc
        clear hc hK0 hH
        rw [Nat.zero_add, List.nil_append] at hK1
        try rw [Nat.zero_add]
        obtain ⟨g8, rfl, hc8⟩ := hK1.out.oaddr 1 rfl (by omega)
        have hkk : (k : Int) < (l.length : Int) := by omega
        have k0 : (0 : Int) ≤ (k : Int) := by omega
        have hl0 : ¬ (l.length : Int) = 0 := by omega
        have wf : IntKind.i64.wrap fa = fa := IntWalk.i64_in _ (by omega)
        have wm : IntKind.i64.wrap mo = mo := IntWalk.i64_in _ (by omega)
        obtain ⟨x0, x1, x2⟩ := (hK1.out.osx 1 rfl).atW hkl
        rw [Nat.zero_add] at x1
        have x3 : W8.frozen? ⟨g8, k * 3 + 1, none⟩ = false := hK1.out.rfree 1 rfl _
        have HLS := Lib.hid (fun v => LW_set1 l k v hkl)
        have HFK := Lib.hid (fun p hp hle => HFA.out k p hkl hp hle)
        have HGK := Lib.hid (fun p hp => HGS.out k p hkl hp)
        have HNK := Lib.hid (show ∀ p, ∀ x ∈ l.set k (l[k].1, p, l[k].2.2), x.1.size ≤ maxLen from fun p x hx => by
          rcases List.mem_or_eq_of_mem_set hx with h | h
          · exact HN.out x h
          · rw [h]; show l[k].1.size ≤ maxLen; exact HN.out _ (List.getElem_mem hkl))
        have HLK := Lib.hid (show ∀ p, (l.set k (l[k].1, p, l[k].2.2)).length = l.length from fun p => List.length_set)
        obtain ⟨pc, hpc⟩ : ∃ pc, l[k].2.1 = pc := ⟨_, rfl⟩
        rw [hpc] at x1 hpk HFK
        clear hpc x0 x2
        obtain ⟨hpk0, hpk1⟩ := hpk
        have wa : IntKind.i64.wrap (pc + mo) = pc + mo := IntWalk.i64_in _ (by omega)
        obtain ⟨p2, hp2⟩ : ∃ p2, min 20000 (pc + mo) = p2 := ⟨_, rfl⟩
        have hpb : 1 ≤ p2 ∧ p2 ≤ 20000 := by omega
        have HDF := Lib.hid (HFK.out p2 hpb (by omega))
        have HRY := Lib.hid (HGK.out p2 hpb)
        have HNY := Lib.hid (HNK.out p2)
        have HLY := Lib.hid (HLK.out p2)
        have HLS2 := Lib.hid (HLS.out p2)
        clear HFA HGS HFK HGK HNK HLK HLS
        generalize l.set k (l[k].1, p2, l[k].2.2) = ly at *
        have hM0 := Lib.hid (hK1.out.ostore 1 rfl (k * 3 + 1) (.int .i64 p2))
        clear hK1
        go_upto_region 10 with fail
        refine wp_geny hM0.out ?_
        intro W9 hc
        have hM : Hid (Sy w W9 [] [⟨.slice a6 l.length c6, 44, 3, l.length, LW l⟩, ⟨.slice (some ⟨g8, 0, none⟩) l.length c8, 44, 3, l.length, LW ly⟩] []) := Lib.hid (by rw [← HLS2.out]; exact hc)
        clear hc hM0 x1 x3 HLS2
        have HDY := Lib.hid (HDO.out W9 (some ⟨g8, 0, none⟩) c8 ly HNY.out HRY.out (by rw [HLY.out]; exact hM.out.osx 1 rfl) hM.out.be)
        rw [HLY.out] at HDY
        unfold RetDays at HDY
        generalize stintsOf (endsOf F L) (pacesOf ly) (daysOf F L (pacesOf ly)) = sty at *
        generalize daysOf F L (pacesOf ly) = D2 at *
        obtain ⟨Z2, hZ2v⟩ : ∃ Z2 : Int, (D2 : Int) = Z2 := ⟨_, rfl⟩
        have hD2 : Z2 ≤ Z := by have := HDF.out; have := HZD.out; omega
        rw [hZ2v] at HDY
        clear hZ2v
        clear HDF HRY HNY HLY
        go_wp2_with fail
        refine HDY.out.mono ?_
        rintro e V9 ⟨a9, c9, rfl, hr, hb⟩
        have hN0 := hM.out.adopt hb hr
        have hN : Hid (Sy w V9 [] [⟨.slice a6 l.length c6, 44, 3, l.length, LW l⟩] []) := Lib.hid (hN0.thin (List.nil_sublist _) (List.Sublist.cons_cons _ (List.nil_sublist _)))
        clear hb hr hN0 hM HDY
        have wz : IntKind.i64.wrap (1 + mo) = 1 + mo := IntWalk.i64_in _ (by omega)
        go_upto_region 12 with (first
          | (refine wpList_append_sy (o := ⟨some 118, _, _, _, _, _⟩) rfl (hN.out.onil 44 3) 1 0 rfl rfl _ _ _ rfl und_Waller2 info_Waller2 rfl (by omega) rfl rfl (LW_one _) (by omega) (by omega) ?_; intro aA cA VA hV; rw [Nat.zero_add, List.nil_append] at hV; have hP0 := Lib.hid (hV.onew VA.heap.size #[.string ⟨#[111, 110, 101, 48, 109, 111, 114, 101]⟩, .int .i64 (1 + mo), .int .i64 0] 44 3 1 rfl (by omega) rfl); clear hV)
          | (refine wpList_append_sy (o := ⟨some 124, _, _, _, _, _⟩) rfl hP0.out 1 2 rfl rfl _ _ _ rfl und_Waller2 info_Waller2 rfl (by omega) rfl rfl (by intro u hu; simp at hu; rcases hu with rfl | rfl | rfl <;> rfl) (by omega) (by omega) ?_; intro aB cB VB hV; have hP1 := Lib.hid hV; clear hV))
        refine wp_geny hP1.out ?_
        intro Wz hc
        have hQ0 : Hid (Sy w Wz [] [⟨.slice aB (l.length + 1) cB, 44, 3, l.length + 1, LW l ++ LW [(moreN, 1 + mo, 0)]⟩] []) := Lib.hid (hc.thin (List.Sublist.refl _) (List.Sublist.cons _ (List.Sublist.cons_cons _ (List.nil_sublist _))))
        have HZN := Lib.hid (show l.length + 1 = (l ++ [(moreN, 1 + mo, (0 : Int))]).length from by rw [List.length_append]; simp)
        rw [← LW_append, HZN.out] at hQ0
        rw [HZN.out]
        have HNZ := Lib.hid (show ∀ x ∈ l ++ [(moreN, 1 + mo, (0 : Int))], x.1.size ≤ maxLen from fun x hx => by
          rcases List.mem_append.1 hx with h | h
          · exact HN.out x h
          · rw [List.mem_singleton.1 h]; show 8 ≤ maxLen; decide)
        have HMZ := Lib.hid (HMO.out (moreN, 1 + mo, (0 : Int)))
        clear hc hP0 hP1 hN HZN HMO
        generalize l ++ [(moreN, 1 + mo, (0 : Int))] = lz at *
        have HRM := Lib.hid (HRZ.out lz)
        have HCZ := Lib.hid (fun W b d h0 => HCK.out W b d lz HNZ.out h0)
        cases hz : gangB lz
        · rw [hz] at HRM
          have HDZ := Lib.hid (fun W b d h0 h => HDB.out W b d lz HNZ.out HRM.out h0 h)
          have HGE := Lib.hid (show gangErr lz = 2 from by unfold gangErr; rw [hz]; rfl)
          rw [HGE.out] at HCZ
          clear hz HGE
          go_wp2_with fail
          refine (HDZ.out _ _ _ (hQ0.out.osx 0 rfl) hQ0.out.be).mono ?_
          rintro e Va ⟨rfl, hb⟩
          have hR1 := Lib.hid (hQ0.out.call hb)
          clear hb
          go_wp2_with fail
          refine (HCZ.out _ _ _ (hR1.out.osx 0 rfl)).mono ?_
          rintro e Vb ⟨rfl, hb⟩
          have hR2 := Lib.hid (hR1.out.call hb)
          clear hb
          go_wp2_with fail
          refine (HW.out _).mono ?_
          rintro e V ⟨rfl, hb⟩
          have hZ := Lib.hid (hR2.out.call hb)
          clear hb
          go_wp2
          go_ret
          exact ⟨rfl, hZ.out.be⟩
        · rw [hz] at HRM
          have HDZ := Lib.hid (fun W b d h0 h => HDO.out W b d lz HNZ.out HRM.out h0 h)
          unfold RetDays at HDZ
          have HGE := Lib.hid (show gangErr lz = 0 from by unfold gangErr; rw [hz]; rfl)
          rw [HGE.out] at HCZ
          have HM2 := HMZ.out hz
          clear hz HGE
          generalize stintsOf (endsOf F L) (pacesOf lz) (daysOf F L (pacesOf lz)) = stz at *
          generalize daysOf F L (pacesOf lz) = D3 at *
          obtain ⟨Z3, hZ3v⟩ : ∃ Z3 : Int, (D3 : Int) = Z3 := ⟨_, rfl⟩
          have hD3 : Z3 ≤ Z := by have := HZD.out; omega
          rw [hZ3v] at HDZ
          clear hZ3v
          go_wp2_with fail
          refine (HDZ.out _ _ _ (hQ0.out.osx 0 rfl) hQ0.out.be).mono ?_
          rintro e Va ⟨ab, cb, rfl, hr, hb⟩
          have hR1 := Lib.hid (hQ0.out.adopt hb hr)
          clear hb hr
          go_wp2_with fail
          refine (HCZ.out _ _ _ (hR1.out.osx 0 rfl)).mono ?_
          rintro e Vb ⟨rfl, hb⟩
          have hR2 := Lib.hid (hR1.out.call hb)
          clear hb
          go_wp2_with fail
          refine (HW.out _).mono ?_
          rintro e V ⟨rfl, hb⟩
          have hZ := Lib.hid (hR2.out.call hb)
          clear hb
          go_wp2
          go_ret
          exact ⟨rfl, hZ.out.be⟩
end
end Go.Proofs.YteogibpmpppgmaaGreat

/- the library's symmetric merging, whole -/
import Derived.Test.YteogibpmpppgmaaM3
import Derived.Deep.Cut
namespace Go.Proofs.Yteogibpmpppgmaa
open Go.RowKit
section
variable (l : List I2) (w : World) (bs : List (Nat × Array Value × TypeId)) (os : List Rw) (rs : List (World → Prop)) (i g c' : Nat)
set_option maxHeartbeats 16000000 in
set_option maxRecDepth 100000 in
theorem symMerge_any (gF : Nat) (cb : Array Value) (cf : Nat → Nat → Int) (eg : EG gF) (hcf : ∀ x y, cf x y < 0 ↔ keyOf l x < keyOf l y) (hcmp : CmpOk l w bs os rs i g c' gF cb cf) (hl : l.length ≤ 1000) : ∀ (N : Nat) (W : World) (p : List Nat) (a m b : Nat), b - a ≤ N → SR l w bs os rs i g c' W p → a < m → m < b → b ≤ l.length →
    SrtOn (before l) (fnOf p) a m → SrtOn (before l) (fnOf p) m b → CrossOn (before l) (keyOf l) (fnOf p) a m b →
    Calls Try.prog 88 #[.slice (some ⟨g, 0, none⟩) l.length c', .int .i64 a, .int .i64 m, .int .i64 b, .func (.func gF) #[] cb] W (RetMG l w bs os rs i g c' p a b) := by
  intro N
  induction N with
  | zero => intro W p a m b h0 _ h1 h2; omega
  | succ N ih =>
  intro W p a m b hN h ham hmb hb h1 h2 hC
  by_cases hl1 : m = a + 1
  · exact mergeL_any l w bs os rs i g c' gF cb cf eg hcf hcmp W p a m b h hl hl1 hmb hb h2 hC
  by_cases hr1 : b = m + 1
  · exact mergeR_any l w bs os rs i g c' gF cb cf eg hcf hcmp W p a m b h hl (by omega) hr1 hb h1 hC
  have H := Lib.hid h
  have HC := Lib.hid hcmp
  have HF := Lib.hid hcf
  have IH := Lib.hid ih
  obtain ⟨mid, hmid⟩ : ∃ mid, mid = (a + b) / 2 := ⟨_, rfl⟩
  obtain ⟨lo, hlo⟩ : ∃ lo, lo = if mid < m then mid + m - b else a := ⟨_, rfl⟩
  obtain ⟨r0, hr0⟩ : ∃ r0, r0 = if mid < m then mid else m := ⟨_, rfl⟩
  have HSC := Lib.hid (fun (s : Nat) (s1 : lo ≤ s) (s2 : s ≤ r0) p1 p2 => sym_cut (fun x y z => bef_trans (l := l) x y z) hC h1 h2 ham hmb hmid hlo hr0 (s := s) s1 s2 p1 p2)
  have HPA := Lib.hid (fun s e (hc : Cut (before l) (fnOf p) a s m e b) => cut_parts hc h1 h2)
  have HPC := Lib.hid (fun s e (hc : Cut (before l) (fnOf p) a s m e b) => cut_cross hc hC)
  clear h hcmp hcf ih h1 h2 hC
  obtain ⟨nn, hnn⟩ : ∃ nn, nn = mid + m := ⟨_, rfl⟩
  have hlor : ∀ z, lo ≤ z → z < r0 → m ≤ nn - 1 - z ∧ nn - 1 - z < b ∧ z < m ∧ a ≤ z ∧ z ≤ nn - 1 := fun z z1 z2 => by
    split at hlo <;> split at hr0 <;> omega
  have hlr : lo ≤ r0 := by split at hlo <;> split at hr0 <;> omega
  have hrn : r0 ≤ m ∧ r0 < nn := by split at hr0 <;> omega
  have hlb : mid < m → lo + b = nn := fun h => by rw [if_pos h] at hlo; omega
  have hla : ¬ mid < m → lo = a := fun h => by rw [if_neg h] at hlo; omega
  have hra : mid < m → r0 = mid := fun h => by rw [if_pos h] at hr0; omega
  have hrb : ¬ mid < m → r0 = m := fun h => by rw [if_neg h] at hr0; omega
  have hb1 : a ≤ mid ∧ mid < b := by omega
  have hnb : 1 ≤ nn ∧ nn ≤ 3000 := by omega
  have hb2 : a < mid ∧ mid + 1 < b := by omega
  have HH := Lib.hid (show (((a : Int) + (b : Int)) / 2) = (mid : Int) from by omega)
  have ws : IntKind.i64.wrap ((mid : Int) + (m : Int)) = (nn : Int) := by rw [IntWalk.i64_in _ (by omega)]; omega
  have e1 : IntKind.i64.wrap ((m : Int) - (a : Int)) = (m : Int) - (a : Int) := IntWalk.i64_in _ (by omega)
  have e2 : ((m : Int) - (a : Int) == 1) = false := beq_eq_false_iff_ne.2 (by omega)
  have e3 : IntKind.i64.wrap ((b : Int) - (m : Int)) = (b : Int) - (m : Int) := IntWalk.i64_in _ (by omega)
  have e4 : ((b : Int) - (m : Int) == 1) = false := beq_eq_false_iff_ne.2 (by omega)
  have e5 : ¬ (m : Int) - (a : Int) = 1 := by omega
  have e6 : ¬ (b : Int) - (m : Int) = 1 := by omega
  have HNN := Lib.hid hnn
  have HMID := Lib.hid hmid
  clear hlo hr0 hnn hmid hl1 hr1
  go_enter Try.func88, Try.ntmps88
  go_upto_region 25 with fail
  rw [HH.out]
  clear HH e1 e2 e3 e4 e5 e6
  go_upto_if 140 with fail
  go_cut [20, 21] from 25 (fun sv rv wx => sv = .int .i64 lo ∧ rv = .int .i64 r0 ∧ Hid (SR l w bs os rs i g c' wx p))
  case first =>
    as_aux_lemma =>
      by_cases hmm : mid < m
      · have wl : IntKind.i64.wrap ((nn : Int) - (b : Int)) = (lo : Int) := by have := hlb hmm; rw [IntWalk.i64_in _ (by omega)]; omega
        have hz : (m : Int) > (mid : Int) := by omega
        have HRA := Lib.hid (hra hmm)
        clear hlb hla hra hrb hlor
        go_wp2
        go_meet
        exact ⟨by first | rfl | (rw [← wl]), by rw [HRA.out], H⟩
      · have hz : ¬ (m : Int) > (mid : Int) := by omega
        have HRA := Lib.hid (hrb hmm)
        have HLA := Lib.hid (hla hmm)
        clear hlb hla hra hrb hlor
        go_wp2
        go_meet
        exact ⟨by rw [HLA.out], by rw [HRA.out], H⟩
  case rest =>
    clear H ws hlb hla hra hrb
    obtain ⟨rfl, rfl, H⟩ := hcut
    have wp1 : IntKind.i64.wrap ((nn : Int) - 1) = ((nn - 1 : Nat) : Int) := by rw [IntWalk.i64_in _ (by omega)]; omega
    have HLOR := Lib.hid hlor
    clear hlor
    obtain ⟨pp, hpp⟩ : ∃ pp, pp = nn - 1 := ⟨_, rfl⟩
    have HPP := Lib.hid hpp
    have hpp1 : pp + 1 = nn := by omega
    rw [← hpp] at wp1
    clear hpp
    have hpn : (pp : Int) + 1 = (nn : Int) := by omega
    go_wp2
    go_loopw [20, 21] (fun sv rv wr => ∃ x y : Nat, lo ≤ x ∧ x ≤ y ∧ y ≤ r0 ∧ sv = .int .i64 x ∧ rv = .int .i64 y ∧ Hid (SR l w bs os rs i g c' wr p) ∧ Hid (x = lo ∨ ¬ keyOf l (fnOf p (mid + m - 1 - (x - 1))) < keyOf l (fnOf p (x - 1))) ∧ Hid (y = r0 ∨ keyOf l (fnOf p (mid + m - 1 - y)) < keyOf l (fnOf p y))) (fun sv rv _ => (intOf rv).toNat - (intOf sv).toNat)
    case atStart => exact ⟨lo, r0, Nat.le_refl _, hlr, Nat.le_refl _, rfl, rfl, H, Lib.hid (.inl rfl), Lib.hid (.inl rfl)⟩
    case round =>
      clear H
      obtain ⟨x, y, hx, hxy, hy, rfl, rfl, H, P1, P2⟩ := hrel
      by_cases hlt : x < y
      · as_aux_lemma =>
          have hxx : (x : Int) < (y : Int) := by omega
          have HH := Lib.hid (show (((x : Int) + (y : Int)) / 2) = (((x + y) / 2 : Nat) : Int) from by omega)
          have hb1 : x ≤ (x + y) / 2 := by omega
          have hb2 : (x + y) / 2 < y := by omega
          clear hpn
          go_upto_region 35 with fail
          rw [HH.out]
          clear HH
          generalize (x + y) / 2 = z at *
          obtain ⟨k1, k2, k3, k4, k5⟩ := HLOR.out z (by omega) (by omega)
          have HPZ := Lib.hid (show mid + m - 1 - z = pp - z from by rw [← HNN.out, HPP.out])
          rw [← HPP.out] at k1 k2 k5
          have wz : IntKind.i64.wrap ((pp : Int) - (z : Int)) = ((pp - z : Nat) : Int) := by rw [IntWalk.i64_in _ (by omega)]; omega
          obtain ⟨u, hu⟩ : ∃ u, u = pp - z := ⟨_, rfl⟩
          rw [← hu] at wz k1 k2 HPZ
          clear hu
          have z0 : (0 : Int) ≤ (z : Int) := by omega
          have z1 : (z : Int) < (l.length : Int) := by omega
          have a0 : (0 : Int) ≤ (u : Int) := by omega
          have a1 : (u : Int) < (l.length : Int) := by omega
          have c0 := H.out.at (k := z) (by omega)
          have c1 := H.out.at (k := u) (by omega)
          have f0 := H.out.fn_lt (k := z) (by omega)
          have f1 := H.out.fn_lt (k := u) (by omega)
          have hk := HF.out (fnOf p u) (fnOf p z)
          have HCC := Lib.hid (fun n => HC.out (wr.drewN n) p (H.out.drew n) (fnOf p u) (fnOf p z) f1 f0)
          have HZ := Lib.hid (show (cf (fnOf p u) (fnOf p z) < 0 → keyOf l (fnOf p (mid + m - 1 - z)) < keyOf l (fnOf p z)) ∧ (¬ cf (fnOf p u) (fnOf p z) < 0 → ¬ keyOf l (fnOf p (mid + m - 1 - (z + 1 - 1))) < keyOf l (fnOf p (z + 1 - 1))) from
            ⟨fun h => by rw [HPZ.out]; exact hk.1 h, fun h1 h2 => by rw [Nat.add_sub_cancel, HPZ.out] at h2; exact h1 (hk.2 h2)⟩)
          clear f0 f1 hk HPZ
          generalize cf (fnOf p u) (fnOf p z) = cv at *
          generalize fnOf p z = vz at c0 HCC
          generalize fnOf p u = va at c1 HCC
          by_cases hcv : cv < 0
          · have HG := Lib.hid (HZ.out.1 hcv)
            clear HZ
            go_quiet (first | (go_at_fn gF; exact Calls.quiet_of (HCC.out _)))
            have HN := Lib.hid (H.out.drew nq)
            go_wp2
            go_roundw
            case rel => exact ⟨x, z, hx, hb1, by omega, rfl, by go_num, HN, P1, Lib.hid (.inr HG.out)⟩
            case measure => simp [intOf]; omega
          · have HG := Lib.hid (HZ.out.2 hcv)
            have hcd := decide_eq_false hcv
            clear HZ
            go_quiet (first | (go_at_fn gF; exact Calls.quiet_of (HCC.out _)))
            have HN := Lib.hid (H.out.drew nq)
            go_wp2
            go_roundw
            case rel => exact ⟨z + 1, y, by omega, by omega, hy, by go_num, rfl, HN, Lib.hid (.inr HG.out), P2⟩
            case measure => simp [intOf]; omega
      · obtain rfl : y = x := by omega
        have hxx : ¬ (y : Int) < (y : Int) := by omega
        obtain ⟨hcut, hsm, hse⟩ := HSC.out y hx hy (by rcases P1.out with h | h; exact .inl h; exact .inr (by omega)) P2.out
        rw [← HNN.out] at hcut hse
        have hpa := HPA.out _ _ hcut
        have hpc := HPC.out _ _ hcut
        have hc1 := hcut.as
        have hc2 := hcut.sm
        have hc3 := hcut.me
        have hc4 := hcut.eb
        rw [hse] at hpa hpc
        have hse2 : y + (nn - y) = mid + m := by have := HNN.out; omega
        have HPA2 := Lib.hid hpa
        have HPC2 := Lib.hid hpc
        have we : IntKind.i64.wrap ((nn : Int) - (y : Int)) = ((nn - y : Nat) : Int) := by rw [IntWalk.i64_in _ (by omega)]; omega
        clear hcut hpa hpc P1 P2 HPA HPC HSC HLOR hse wp1
        generalize nn - y = e at *
        generalize hg1 : rotF (fnOf p) y m e = f1 at *
        have HG1 := Lib.hid hg1
        clear hg1
        go_upto_region 39 with fail
        go_cut [185] from 25 (fun tv wx => ∃ bt : Bool, tv = .bool bt ∧ Hid (bt = true ↔ y < m ∧ m < e) ∧ Hid (SR l w bs os rs i g c' wx p))
        case first =>
          as_aux_lemma =>
            by_cases t1 : y < m
            · have t3 : (y : Int) < (m : Int) := by omega
              by_cases t2 : m < e
              · have t4 : (m : Int) < (e : Int) := by omega
                go_wp2
                go_meet
                exact ⟨true, rfl, Lib.hid (by simp [t1, t2]), H⟩
              · have t4 : ¬ (m : Int) < (e : Int) := by omega
                go_wp2
                go_meet
                exact ⟨false, rfl, Lib.hid (by simp [t2]), H⟩
            · have t3 : ¬ (y : Int) < (m : Int) := by omega
              go_wp2
              go_meet
              exact ⟨false, rfl, Lib.hid (by simp [t1]), H⟩
        case rest =>
        clear H
        obtain ⟨bt, rfl, HBT, H⟩ := hcut
        go_upto_if 185 with fail
        go_cut [24] from 25 (fun ev wx => ev = .int .i64 e ∧ ∃ q1, Hid (SR l w bs os rs i g c' wx q1) ∧ Hid (q1.Perm p) ∧ Hid (fnOf q1 = f1))
        case first =>
          as_aux_lemma =>
            cases bt
            · have HEQ := Lib.hid (show fnOf p = f1 from by
                have hb := HBT.out
                simp at hb
                rw [← HG1.out]
                by_cases t1 : y < m
                · rw [show e = m by have := hb t1; omega, rot_none2]
                · rw [show y = m by omega, rot_none1])
              go_wp2
              go_meet
              exact ⟨rfl, p, H, Lib.hid (List.Perm.refl _), HEQ⟩
            · obtain ⟨t1, t2⟩ := HBT.out.1 rfl
              have HRT := Lib.hid (rotate_any l w bs os rs i g c' wc p (.func (.func gF) #[] cb) y m e H.out hl t1 t2 (by omega))
              rw [HG1.out] at HRT
              go_wp2_with fail
              refine HRT.out.mono ?_
              rintro ee V ⟨rfl, q2, h5, h6, h7⟩
              have H5 := Lib.hid h5
              have H6 := Lib.hid h6
              have H7 := Lib.hid h7
              clear h5 h6 h7
              go_wp2
              go_meet
              exact ⟨rfl, q2, H5, H6, H7⟩
        case rest =>
        clear H HBT bt
        obtain ⟨rfl, q1, H1, HP1, HF1⟩ := hcut
        go_upto_region 41 with fail
        go_cut [199] from 25 (fun tv wx => ∃ bt : Bool, tv = .bool bt ∧ Hid (bt = true ↔ a < y ∧ y < mid) ∧ Hid (SR l w bs os rs i g c' wx q1))
        case first =>
          as_aux_lemma =>
            by_cases t1 : a < y
            · have t3 : (a : Int) < (y : Int) := by omega
              by_cases t2 : y < mid
              · have t4 : (y : Int) < (mid : Int) := by omega
                go_wp2
                go_meet
                exact ⟨true, rfl, Lib.hid (by simp [t1, t2]), H1⟩
              · have t4 : ¬ (y : Int) < (mid : Int) := by omega
                go_wp2
                go_meet
                exact ⟨false, rfl, Lib.hid (by simp [t2]), H1⟩
            · have t3 : ¬ (a : Int) < (y : Int) := by omega
              go_wp2
              go_meet
              exact ⟨false, rfl, Lib.hid (by simp [t1]), H1⟩
        case rest =>
        clear H1
        obtain ⟨bt, rfl, HBT, H1⟩ := hcut
        go_upto_if 199 with fail
        go_cut [24] from 25 (fun ev wx => ev = .int .i64 e ∧ ∃ q2, Hid (SR l w bs os rs i g c' wx q2) ∧ Hid (q2.Perm p) ∧ Hid (MoveOn f1 (fnOf q2) a mid) ∧ Hid (SrtOn (before l) (fnOf q2) a mid))
        case first =>
          as_aux_lemma =>
            cases bt
            · have HEQ := Lib.hid (show SrtOn (before l) (fnOf q1) a mid from by
                have hb := HBT.out
                simp at hb
                rw [HF1.out]
                exact srt_skip HPA2.out.1 HPA2.out.2.1 (fun h => by have := hb h.1; omega) (by omega) (by omega))
              go_wp2
              go_meet
              exact ⟨rfl, q1, H1, HP1, Lib.hid (by rw [HF1.out]; exact MoveOn.refl _ _ _), HEQ⟩
            · obtain ⟨t1, t2⟩ := HBT.out.1 rfl
              have HRT := Lib.hid (IH.out wc q1 a y mid (by omega) H1.out t1 t2 (by omega) (by rw [HF1.out]; exact HPA2.out.1) (by rw [HF1.out]; exact HPA2.out.2.1) (by rw [HF1.out]; exact HPC2.out.1))
              go_wp2_with fail
              refine HRT.out.mono ?_
              rintro ee V ⟨rfl, q2, h5, h6, h7, h8⟩
              have H5 := Lib.hid h5
              have H6 := Lib.hid (h6.trans HP1.out)
              have H7 := Lib.hid (show MoveOn f1 (fnOf q2) a mid from by rw [← HF1.out]; exact h7)
              have H8 := Lib.hid h8
              clear h5 h6 h7 h8
              go_wp2
              go_meet
              exact ⟨rfl, q2, H5, H6, H7, H8⟩
        case rest =>
        clear H1 HBT bt HF1 HP1
        obtain ⟨rfl, q2, H2, HP2, HM2, HS2⟩ := hcut
        have HSA := Lib.hid (show SrtOn (before l) (fnOf q2) mid e from srt_same HPA2.out.2.2.1 fun x h1 h2 => HM2.out.1 x (.inr h1))
        have HSB := Lib.hid (show SrtOn (before l) (fnOf q2) e b from srt_same HPA2.out.2.2.2.1 fun x h1 h2 => HM2.out.1 x (.inr (by omega)))
        have HSX := Lib.hid (show CrossOn (before l) (keyOf l) (fnOf q2) mid e b from fun x z h1 h2 h3 h4 => by
          rw [HM2.out.1 x (.inr h1), HM2.out.1 z (.inr (by omega))]
          exact HPC2.out.2 x z h1 h2 h3 h4)
        have HEND := Lib.hid (show ∀ q3 : List Nat, MoveOn (fnOf q2) (fnOf q3) mid b → SrtOn (before l) (fnOf q3) mid b → MoveOn (fnOf p) (fnOf q3) a b ∧ SrtOn (before l) (fnOf q3) a b from fun q3 hm hs => by
          refine ⟨?_, srt_join (srt_same HS2.out fun x h1 h2 => hm.1 x (.inl h2)) hs (half_move HPA2.out.2.2.2.2 HM2.out hm)⟩
          have hr := MoveOn.rot (fnOf p) (a := y) (m := m) (b := e) hc2 hc3
          rw [HG1.out] at hr
          exact ((hr.wide hc1 hc4).trans (HM2.out.wide (Nat.le_refl _) (by omega))).trans (hm.wide hb1.1 (Nat.le_refl _)))
        clear HM2 HS2 HPC2
        as_aux_lemma =>
          by_cases t1 : mid < e
          · have t3 : (mid : Int) < (e : Int) := by omega
            by_cases t2 : e < b
            · have t4 : (e : Int) < (b : Int) := by omega
              have HRT := Lib.hid (IH.out wc q2 mid e b (by omega) H2.out t1 t2 hb HSA.out HSB.out HSX.out)
              go_wp2_with fail
              refine HRT.out.mono ?_
              rintro ee V ⟨rfl, q3, h5, h6, h7, h8⟩
              have H5 := Lib.hid h5
              have H6 := Lib.hid (h6.trans HP2.out)
              have H7 := Lib.hid (HEND.out q3 h7 h8)
              clear h5 h6 h7 h8
              go_wp2
              go_end0
              exact ⟨rfl, q3, H5.out, H6.out, H7.out⟩
            · have t4 : ¬ (e : Int) < (b : Int) := by omega
              have H7 := Lib.hid (HEND.out q2 (MoveOn.refl _ _ _) (srt_skip HSA.out HSB.out (fun h => t2 h.2) (by omega) (by omega)))
              go_wp2
              go_end0
              exact ⟨rfl, q2, H2.out, HP2.out, H7.out⟩
          · have t3 : ¬ (mid : Int) < (e : Int) := by omega
            have H7 := Lib.hid (HEND.out q2 (MoveOn.refl _ _ _) (srt_skip HSA.out HSB.out (fun h => t1 h.1) (by omega) (by omega)))
            go_wp2
            go_end0
            exact ⟨rfl, q2, H2.out, HP2.out, H7.out⟩
end
end Go.Proofs.Yteogibpmpppgmaa

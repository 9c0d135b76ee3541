/- the library's insertion sort of a block of indices -/
import Derived.Test.YteogibpmpppgmaaM5
namespace Go.Proofs.Yteogibpmpppgmaa
open Go.RowKit
section
variable (l : List I2) (w : World) (bs : List (Nat × Array Value × TypeId)) (os : List Rw) (rs : List (World → Prop)) (i g c' : Nat)
theorem cross_one {l : List I2} {f : Nat → Nat} {a x : Nat} (h1 : ∀ k, a ≤ k → k < x → f k < x) (h2 : f x = x) : CrossOn (before l) (keyOf l) f a x (x + 1) := fun k j hk hkx hj hjx => by
  obtain rfl : j = x := by omega
  have h3 := h1 k hk hkx
  rw [h2]
  unfold keyOf before
  omega
set_option maxHeartbeats 8000000 in
set_option maxRecDepth 100000 in
theorem insertion_any (gF : Nat) (cb : Array Value) (cf : Nat → Nat → Int) (eg : EG gF) (hcf : ∀ x y, cf x y < 0 ↔ keyOf l x < keyOf l y) (hcmp : CmpOk l w bs os rs i g c' gF cb cf) (hl : l.length ≤ 1000) (W : World) (p : List Nat) (a b : Nat) (h : SR l w bs os rs i g c' W p) (hab : a ≤ b) (hb : b ≤ l.length) (hid : ∀ k, a ≤ k → k < b → fnOf p k = k) :
    Calls Try.prog 77 #[.slice (some ⟨g, 0, none⟩) l.length c', .int .i64 a, .int .i64 b, .func (.func gF) #[] cb] W (RetMG l w bs os rs i g c' p a b) := by
  have H := Lib.hid h
  have HC := Lib.hid hcmp
  have HF := Lib.hid hcf
  have HI := Lib.hid hid
  clear h hcmp hcf hid
  go_enter Try.func77, Try.ntmps77
  go_wp2
  go_loopw [8] (fun iv wr => ∃ (x : Nat) (q : List Nat), a + 1 ≤ x ∧ (x ≤ b ∨ x = a + 1) ∧ iv = .int .i64 x ∧ Hid (SR l w bs os rs i g c' wr q) ∧ Hid (q.Perm p) ∧ Hid (MoveOn (fnOf p) (fnOf q) a x) ∧ Hid (SrtOn (before l) (fnOf q) a x) ∧ Hid (x = a + 1 → q = p)) (fun iv _ => b - (intOf iv).toNat)
  case atStart => exact ⟨a + 1, p, Nat.le_refl _, .inr rfl, by go_num, H, Lib.hid (List.Perm.refl _), Lib.hid (MoveOn.refl _ _ _), Lib.hid (fun x y h1 h2 h3 => by omega), Lib.hid (fun _ => rfl)⟩
  case round =>
    clear H
    obtain ⟨x, q, hax, hxb, rfl, H, HP, HM, HS, HQ⟩ := hrel
    by_cases hlt : x < b
    · have hxx : (x : Int) < (b : Int) := by omega
      have HFX := Lib.hid (show fnOf q x = x from by rw [HM.out.1 x (.inr (Nat.le_refl _))]; exact HI.out x (by omega) hlt)
      have HFL := Lib.hid (show ∀ k, a ≤ k → k < x → fnOf q k < x from fun k h1 h2 => by
        obtain ⟨j, j1, j2, e⟩ := HM.out.2 k h1 h2
        rw [e, HI.out j j1 (by omega)]
        exact j2)
      have HONE := Lib.hid (fun (y : Nat) (h1 : a ≤ y) (h3 : y ≤ x) p1 p2 => one_right (fun x y z => bef_trans (l := l) x y z) (cross_one (l := l) HFL.out HFX.out) HS.out rfl (i := y) h1 h3 p1 p2)
      generalize hf : fnOf q = f at *
      have HFQ := Lib.hid hf
      clear hf HS HFL HFX HQ
      go_wp2
      go_loopw [9] (fun jv wr => ∃ (y : Nat) (q2 : List Nat), a ≤ y ∧ y ≤ x ∧ jv = .int .i64 y ∧ Hid (SR l w bs os rs i g c' wr q2) ∧ Hid (q2.Perm p) ∧ Hid (∀ k, fnOf q2 k = rotF f y x (x + 1) k) ∧ Hid (y = x ∨ keyOf l (f x) < keyOf l (f y))) (fun jv _ => (intOf jv).toNat)
      case atStart => exact ⟨x, q, by omega, Nat.le_refl _, rfl, H, HP, Lib.hid (fun k => by rw [rot_none1, HFQ.out]), Lib.hid (.inl rfl)⟩
      case round =>
        clear H HP
        obtain ⟨y, q2, hay, hyx, rfl, H, HP, HQ2, P2⟩ := hrel
        by_cases hya : a < y
        · have hy1 : (y : Int) > (a : Int) := by omega
          have hyd : decide (a < y) = true := decide_eq_true hya
          have HEY := Lib.hid (show fnOf q2 y = f x from by rw [HQ2.out]; unfold rotF; rw [if_neg (by omega), if_pos (by omega)]; congr 1; omega)
          have HEZ := Lib.hid (show fnOf q2 (y - 1) = f (y - 1) from by rw [HQ2.out]; unfold rotF; rw [if_pos (by omega)])
          have c0 := H.out.at (k := y) (by omega)
          have c1 := H.out.at (k := y - 1) (by omega)
          have f0 := H.out.fn_lt (k := y) (by omega)
          have f1 := H.out.fn_lt (k := y - 1) (by omega)
          have hk := HF.out (fnOf q2 y) (fnOf q2 (y - 1))
          rw [HEY.out, HEZ.out] at hk
          have HK := Lib.hid hk
          obtain ⟨wo, hwo⟩ : ∃ wo : World, wo = wr := ⟨_, rfl⟩
          have HCC := Lib.hid (fun n => HC.out (wr.drewN n) q2 (H.out.drew n) (fnOf q2 y) (fnOf q2 (y - 1)) f0 f1)
          rw [HEY.out, HEZ.out] at HCC
          rw [HEY.out] at c0
          rw [HEZ.out] at c1
          have hX := Lib.hid (H.out.exch (x := y) (y := y - 1) (by omega) (by omega))
          have hlen := H.out.len
          have HX := Lib.hid (exch_fn (p := q2) (x := y) (y := y - 1) (by omega) (by omega))
          have HPX := Lib.hid ((exch_perm (p := q2) (x := y) (y := y - 1) (by omega) (by omega)).trans HP.out)
          have HN := Lib.hid (show ∀ k, fnOf (exch q2 y (y - 1)) k = rotF f (y - 1) x (x + 1) k from fun k => by
            rw [HX.out, HQ2.out, HQ2.out, HQ2.out]
            unfold rotF
            repeat' split
            all_goals first
              | rfl
              | (exfalso; omega)
              | (congr 1; omega))
          have HSR := Lib.hid (fun n => show SR l w bs os rs i g c' (((wr.drewN n).setCell ⟨g, y, none⟩ (.int .i64 (f (y - 1) : Nat))).setCell ⟨g, y - 1, none⟩ (.int .i64 (f x : Nat))).drew (exch q2 y (y - 1)) from by
            have h9 := ((H.out.drew n).exch (x := y) (y := y - 1) (by omega) (by omega)).drew1
            rw [HEY.out, HEZ.out] at h9
            exact h9)
          have HZ0 := Lib.hid (fun n => show ((wr.drewN n).setCell ⟨g, y, none⟩ (.int .i64 (f (y - 1) : Nat))).cell? ⟨g, y - 1, none⟩ = some (.int .i64 (f (y - 1) : Nat)) from by
            have h9 := ((H.out.drew n).store (k := y) (H.out.fn_lt (k := y - 1) (by omega))).at (k := y - 1) (by omega)
            rw [fn_set (by omega), if_neg (by omega), HEZ.out] at h9
            exact h9)
          have x1 := H.out.free y
          have y1' := H.out.free (y - 1)
          have HZ1 := Lib.hid (fun n => ((H.out.drew n).store (k := y) (H.out.fn_lt (k := y - 1) (by omega))).free (y - 1))
          rw [HEZ.out] at HZ1
          have ws : IntKind.i64.wrap ((y : Int) - 1) = ((y - 1 : Nat) : Int) := by rw [IntWalk.i64_in _ (by omega)]; omega
          have t00 : y - 1 < l.length := by omega
          have t01 : a ≤ y - 1 := by omega
          have t02 : y - 1 ≤ x := by omega
          have t03 : y - 1 < y := by omega
          have HKY := Lib.hid (show cf (f x) (f (y - 1)) < 0 → keyOf l (f x) < keyOf l (f (y - 1)) from HK.out.1)
          have HKN := Lib.hid (show ¬ cf (f x) (f (y - 1)) < 0 → ¬ keyOf l (f x) < keyOf l (f (y - 1)) from fun h1 h2 => h1 (HK.out.2 h2))
          clear HX HEY HEZ f0 f1 hk HK hwo hX hlen
          generalize exch q2 y (y - 1) = q3 at *
          generalize cf (f x) (f (y - 1)) = cv at *
          have HY1 := Lib.hid (rfl : y - 1 = y - 1)
          generalize hy1v : y - 1 = z at *
          have HZV := Lib.hid hy1v
          clear hy1v HY1
          have s0 : (0 : Int) ≤ (y : Int) := by omega
          have s1 : (y : Int) < (l.length : Int) := by omega
          have t0 : (0 : Int) ≤ (z : Int) := by omega
          have t1 : (z : Int) < (l.length : Int) := by omega
          obtain ⟨vx, hvx⟩ : ∃ v, f x = v := ⟨_, rfl⟩
          obtain ⟨vz, hvz⟩ : ∃ v, f z = v := ⟨_, rfl⟩
          rw [hvx] at c0 HCC HSR
          rw [hvz] at c1 HCC HSR HZ0 HZ1
          clear hvx hvz
          by_cases hcv : cv < 0
          · have HG := Lib.hid (HKY.out hcv)
            clear HKY HKN
            go_upto_region 4 with fail
            go_big_quiet (first | (go_at_fn gF; exact Calls.quiet_of (HCC.out _)))
            have hX := Lib.hid (HSR.out nq)
            have zz0 := HZ0.out nq
            have zz1 := HZ1.out nq
            clear HSR HZ0 HZ1 HCC H
            have mixed : Try.prog.follows .mixedOrders = true := by kernel_rfl
            have c0' : (wr.drewN nq).cell? ⟨g, y, none⟩ = some (.int .i64 (vx : Nat)) := c0
            have c1' : (wr.drewN nq).cell? ⟨g, z, none⟩ = some (.int .i64 (vz : Nat)) := c1
            have x1' : (wr.drewN nq).frozen? ⟨g, y, none⟩ = false := x1
            have y1'' : (wr.drewN nq).frozen? ⟨g, z, none⟩ = false := y1'
            clear c0 c1 x1 y1'
            generalize wr.drewN nq = w1 at *
            go_wp2_with fail
            go_big_region_o
            clear c0' c1' x1' y1'' zz0 zz1
            generalize ((w1.setCell ⟨g, y, none⟩ (.int .i64 (vz : Nat))).setCell ⟨g, z, none⟩ (.int .i64 (vx : Nat))).drew = w2 at hX ⊢
            go_wp2
            go_roundw
            case rel => exact ⟨z, q3, t01, t02, by go_num, hX, HPX, HN, Lib.hid (.inr HG.out)⟩
            case measure => simp [intOf]; omega
          · have HG := Lib.hid (HKN.out hcv)
            have hcd := decide_eq_false hcv
            clear HKY HKN HSR HZ0 HZ1
            go_upto_region 4 with fail
            go_big_quiet (first | (go_at_fn gF; exact Calls.quiet_of (HCC.out _)))
            have HN2 := Lib.hid (H.out.drew nq)
            go_wp2
            go_roundw
            case rel =>
              have HO := Lib.hid (HONE.out y hay hyx (.inr (by rw [HZV.out]; have := HG.out; omega)) P2.out)
              have hfn : fnOf q2 = rotF f y x (x + 1) := funext HQ2.out
              refine ⟨x + 1, q2, by omega, .inl (by omega), by go_num, HN2, HP, Lib.hid ?_, Lib.hid (by rw [hfn]; exact HO.out), Lib.hid (fun h => by omega)⟩
              rw [hfn]
              exact (HM.out.wide (Nat.le_refl _) (by omega)).trans ((MoveOn.rot f hyx (by omega)).wide hay (Nat.le_refl _))
            case measure => simp [intOf]; omega
        · have hy1 : ¬ (y : Int) > (a : Int) := by omega
          have hyd : decide (a < y) = false := decide_eq_false hya
          go_upto_region 4 with fail
          go_big_quiet (fail)
          have HN2 := Lib.hid (H.out.drew nq)
          go_wp2
          go_roundw
          case rel =>
            have HO := Lib.hid (HONE.out y hay hyx (.inl (by omega)) P2.out)
            have hfn : fnOf q2 = rotF f y x (x + 1) := funext HQ2.out
            refine ⟨x + 1, q2, by omega, .inl (by omega), by go_num, HN2, HP, Lib.hid ?_, Lib.hid (by rw [hfn]; exact HO.out), Lib.hid (fun h => by omega)⟩
            rw [hfn]
            exact (HM.out.wide (Nat.le_refl _) (by omega)).trans ((MoveOn.rot f hyx (by omega)).wide hay (Nat.le_refl _))
          case measure => simp [intOf]; omega
    · have hxx : ¬ (x : Int) < (b : Int) := by omega
      go_wp2
      go_end0
      refine ⟨rfl, q, H.out, HP.out, ?_⟩
      by_cases hxa : x = b
      · subst hxa
        exact ⟨HM.out, HS.out⟩
      · have hqe := HQ.out (by omega)
        subst hqe
        exact ⟨MoveOn.refl _ _ _, fun x y h1 h2 h3 => by omega⟩
end
end Go.Proofs.Yteogibpmpppgmaa

/- the library's symmetric merging -/
import Derived.Test.YteogibpmpppgmaaM2
namespace Go.Proofs.Yteogibpmpppgmaa
open Go.RowKit
def keyOf (l : List I2) (k : Nat) : Int := (at0 l k).1
theorem bef_trans {l : List I2} (x y z : Nat) (h1 : before l x y) (h2 : before l y z) : before l x z := by unfold before at *; omega
/-- a call of the comparing closure -/
def CmpOk (l : List I2) (w : World) (bs : List (Nat × Array Value × TypeId)) (os : List Rw) (rs : List (World → Prop)) (i g c' : Nat) (gF : Nat) (cb : Array Value) (cf : Nat → Nat → Int) : Prop :=
  ∀ W q, SR l w bs os rs i g c' W q → ∀ x y : Nat, x < l.length → y < l.length → Calls Try.prog gF (#[.int .i64 x, .int .i64 y] ++ cb) W fun e w' => e = .returned (.int .i64 (cf x y)) ∧ ∃ n, w' = W.drewN n
def RetMG (l : List I2) (w : World) (bs : List (Nat × Array Value × TypeId)) (os : List Rw) (rs : List (World → Prop)) (i g c' : Nat) (p : List Nat) (a b : Nat) (e : Ending) (W' : World) : Prop :=
  e = .returned (.tuple #[]) ∧ ∃ q, SR l w bs os rs i g c' W' q ∧ q.Perm p ∧ MoveOn (fnOf p) (fnOf q) a b ∧ SrtOn (before l) (fnOf q) a b
section
variable (l : List I2) (w : World) (bs : List (Nat × Array Value × TypeId)) (os : List Rw) (rs : List (World → Prop)) (i g c' : Nat)
set_option maxHeartbeats 8000000 in
set_option maxRecDepth 100000 in
/-- one element on the left -/
theorem mergeL_any (gF : Nat) (cb : Array Value) (cf : Nat → Nat → Int) (eg : EG gF) (hcf : ∀ x y, cf x y < 0 ↔ keyOf l x < keyOf l y) (hcmp : CmpOk l w bs os rs i g c' gF cb cf) (W : World) (p : List Nat) (a m b : Nat) (h : SR l w bs os rs i g c' W p) (hl : l.length ≤ 1000) (ham : m = a + 1) (hmb : m < b) (hb : b ≤ l.length)
    (h2 : SrtOn (before l) (fnOf p) m b) (hC : CrossOn (before l) (keyOf l) (fnOf p) a m b) :
    Calls Try.prog 88 #[.slice (some ⟨g, 0, none⟩) l.length c', .int .i64 a, .int .i64 m, .int .i64 b, .func (.func gF) #[] cb] W (RetMG l w bs os rs i g c' p a b) := by
  have H := Lib.hid h
  have HC := Lib.hid hcmp
  have HF := Lib.hid hcf
  have HONE := Lib.hid (fun (x : Nat) (h1 : m ≤ x) (h3 : x ≤ b) p1 p2 => one_left (fun x y z => bef_trans (l := l) x y z) hC h2 ham (i := x) h1 h3 p1 p2)
  have hm1 : a < m := by omega
  have hm2 : m ≤ a + 1 := by omega
  clear h hcmp hcf hC h2 ham
  have e1 : IntKind.i64.wrap ((m : Int) - (a : Int)) = 1 := by rw [IntWalk.i64_in _ (by omega)]; omega
  have e1' : (m : Int) - (a : Int) = 1 := by omega
  go_enter Try.func88, Try.ntmps88
  go_wp2
  go_loopw [10, 11] (fun iv jv wr => ∃ x y : Nat, m ≤ x ∧ x ≤ y ∧ y ≤ b ∧ iv = .int .i64 x ∧ jv = .int .i64 y ∧ Hid (SR l w bs os rs i g c' wr p) ∧ Hid (x = m ∨ keyOf l (fnOf p (x - 1)) < keyOf l (fnOf p a)) ∧ Hid (y = b ∨ ¬ keyOf l (fnOf p y) < keyOf l (fnOf p a))) (fun iv jv _ => (intOf jv).toNat - (intOf iv).toNat)
  case atStart => exact ⟨m, b, Nat.le_refl _, by omega, Nat.le_refl _, rfl, rfl, H, Lib.hid (.inl rfl), Lib.hid (.inl rfl)⟩
  case round =>
    clear H
    obtain ⟨x, y, hx, hxy, hy, rfl, rfl, H, P1, P2⟩ := hrel
    by_cases hlt : x < y
    · have hxx : (x : Int) < (y : Int) := by omega
      have HH := Lib.hid (show (((x : Int) + (y : Int)) / 2) = (((x + y) / 2 : Nat) : Int) from by omega)
      have hb0 : (x + y) / 2 < l.length := by omega
      have hb1 : x ≤ (x + y) / 2 := by omega
      have hb2 : (x + y) / 2 < y := by omega
      go_upto_region 5 with fail
      rw [HH.out]
      clear HH
      generalize (x + y) / 2 = z at *
      have z0 : (0 : Int) ≤ (z : Int) := by omega
      have z1 : (z : Int) < (l.length : Int) := by omega
      have a0 : (0 : Int) ≤ (a : Int) := by omega
      have a1 : (a : Int) < (l.length : Int) := by omega
      have c0 := H.out.at (k := z) hb0
      have c1 := H.out.at (k := a) (by omega)
      have f0 := H.out.fn_lt (k := z) hb0
      have f1 := H.out.fn_lt (k := a) (by omega)
      have hk := HF.out (fnOf p z) (fnOf p a)
      have HCC := Lib.hid (fun n => HC.out (wr.drewN n) p (H.out.drew n) (fnOf p z) (fnOf p a) f0 f1)
      have HZ := Lib.hid (show (cf (fnOf p z) (fnOf p a) < 0 → keyOf l (fnOf p (z + 1 - 1)) < keyOf l (fnOf p a)) ∧ (¬ cf (fnOf p z) (fnOf p a) < 0 → ¬ keyOf l (fnOf p z) < keyOf l (fnOf p a)) from ⟨fun h => by rw [Nat.add_sub_cancel]; exact hk.1 h, fun h1 h2 => h1 (hk.2 h2)⟩)
      clear f0 f1 hk
      generalize cf (fnOf p z) (fnOf p a) = cv at *
      generalize fnOf p z = vz at c0 HCC
      generalize fnOf p a = va at c1 HCC
      by_cases hcv : cv < 0
      · have HG := Lib.hid (HZ.out.1 hcv)
        clear HZ
        go_quiet (first | (go_at_fn gF; exact Calls.quiet_of (HCC.out _)))
        have HN := Lib.hid (H.out.drew nq)
        go_wp2
        go_roundw
        case rel => exact ⟨z + 1, y, by omega, by omega, hy, by go_num, rfl, HN, Lib.hid (.inr HG.out), P2⟩
        case measure => simp [intOf]; omega
      · have HG := Lib.hid (HZ.out.2 hcv)
        have hcd := decide_eq_false hcv
        clear HZ
        go_quiet (first | (go_at_fn gF; exact Calls.quiet_of (HCC.out _)))
        have HN := Lib.hid (H.out.drew nq)
        go_wp2
        go_roundw
        case rel => exact ⟨x, z, hx, hb1, by omega, rfl, by go_num, HN, P1, Lib.hid (.inr HG.out)⟩
        case measure => simp [intOf]; omega
    · obtain rfl : y = x := by omega
      have hxx : ¬ (y : Int) < (y : Int) := by omega
      have HO := Lib.hid (HONE.out y hx hy P1.out (by rcases P2.out with h | h; exact .inl h; exact .inr (by omega)))
      have wi : IntKind.i64.wrap ((y : Int) - 1) = ((y - 1 : Nat) : Int) := by rw [IntWalk.i64_in _ (by omega)]; omega
      clear P1 P2 HONE
      obtain ⟨y1, hy1⟩ : ∃ y1, y - 1 = y1 := ⟨_, rfl⟩
      rw [hy1] at wi
      have hya : a ≤ y1 := by omega
      have hyb : y1 + 1 = y := by omega
      have HY := Lib.hid hyb
      have hyb2 : y1 < l.length := by omega
      clear hyb hy1
      go_wp2
      go_loopw [13] (fun kv wr => ∃ (k : Nat) (q : List Nat), a ≤ k ∧ k ≤ y1 ∧ kv = .int .i64 k ∧ Hid (SR l w bs os rs i g c' wr q) ∧ Hid (q.Perm p) ∧ Hid (∀ x, fnOf q x = rotF (fnOf p) a m (k + 1) x)) (fun kv _ => y1 - (intOf kv).toNat)
      case atStart => exact ⟨a, p, Nat.le_refl _, hya, rfl, H, Lib.hid (List.Perm.refl _), Lib.hid (fun x => by rw [show a + 1 = m by omega, rot_none2])⟩
      case round =>
        clear H
        obtain ⟨k, q, hak, hky, rfl, H, HP, HQ⟩ := hrel
        by_cases hkl : k < y1
        · have hkk : (k : Int) < (y1 : Int) := by omega
          have x0 := H.out.at (k := k) (by omega)
          have y0 := H.out.at (k := k + 1) (by omega)
          have hX := Lib.hid (H.out.exch (x := k) (y := k + 1) (by omega) (by omega)).drew1
          have hlen := H.out.len
          have HX := Lib.hid (exch_fn (p := q) (x := k) (y := k + 1) (by omega) (by omega))
          have HPX := Lib.hid ((exch_perm (p := q) (x := k) (y := k + 1) (by omega) (by omega)).trans HP.out)
          have zz0 := (H.out.store (k := k) (H.out.fn_lt (k := k + 1) (by omega))).at (k := k + 1) (by omega)
          rw [fn_set (by omega), if_neg (by omega)] at zz0
          have zz1 := (H.out.store (k := k) (H.out.fn_lt (k := k + 1) (by omega))).free (k + 1)
          have x1 := H.out.free k
          have y1' := H.out.free (k + 1)
          generalize exch q k (k + 1) = q2 at *
          have HN := Lib.hid (show ∀ x, fnOf q2 x = rotF (fnOf p) a m (k + 1 + 1) x from fun x => by
            rw [HX.out, HQ.out, HQ.out, HQ.out]
            unfold rotF
            repeat' split
            all_goals first
              | rfl
              | (exfalso; omega)
              | (congr 1; omega))
          clear HX HQ HP hlen
          generalize fnOf q k = vs at *
          generalize fnOf q (k + 1) = vt at *
          have ws : IntKind.i64.wrap ((k : Int) + 1) = ((k + 1 : Nat) : Int) := by rw [IntWalk.i64_in _ (by omega)]; omega
          have htk : k + 1 < l.length := by omega
          have HTK := Lib.hid (show k + 1 = k + 1 from rfl)
          generalize hk1 : k + 1 = tk at *
          have s0 : (0 : Int) ≤ (k : Int) := by omega
          have s1 : (k : Int) < (l.length : Int) := by omega
          have t0 : (0 : Int) ≤ (tk : Int) := by omega
          have t1 : (tk : Int) < (l.length : Int) := by omega
          have mixed : Try.prog.follows .mixedOrders = true := by kernel_rfl
          have HK1 := Lib.hid hk1
          clear H hk1
          go_wp2_with fail
          go_big_region_o
          clear x0 x1 y0 y1' zz0 zz1
          generalize ((wr.setCell ⟨g, k, none⟩ (.int .i64 vt)).setCell ⟨g, tk, none⟩ (.int .i64 vs)).drew = w2 at hX ⊢
          clear ws t0 t1
          go_wp2
          go_roundw
          case rel => exact ⟨k + 1, q2, by omega, by omega, by go_num, hX, HPX, Lib.hid (by rw [HK1.out]; exact HN.out)⟩
          case measure => simp [intOf]; omega
        · have hkk : ¬ (k : Int) < (y1 : Int) := by omega
          obtain rfl : k = y1 := by omega
          go_wp2
          go_end0
          have hfn : fnOf q = rotF (fnOf p) a m y := by rw [← HY.out]; exact funext HQ.out
          exact ⟨rfl, q, H.out, HP.out, by rw [hfn]; exact (MoveOn.rot _ (by omega) (by omega)).wide (Nat.le_refl _) hy, by rw [hfn]; exact HO.out⟩
end
section
variable (l : List I2) (w : World) (bs : List (Nat × Array Value × TypeId)) (os : List Rw) (rs : List (World → Prop)) (i g c' : Nat)
set_option maxHeartbeats 8000000 in
set_option maxRecDepth 100000 in
/-- one element on the right -/
theorem mergeR_any (gF : Nat) (cb : Array Value) (cf : Nat → Nat → Int) (eg : EG gF) (hcf : ∀ x y, cf x y < 0 ↔ keyOf l x < keyOf l y) (hcmp : CmpOk l w bs os rs i g c' gF cb cf) (W : World) (p : List Nat) (a m b : Nat) (h : SR l w bs os rs i g c' W p) (hl : l.length ≤ 1000) (ham : a + 1 < m) (hmb : b = m + 1) (hb : b ≤ l.length)
    (h2 : SrtOn (before l) (fnOf p) a m) (hC : CrossOn (before l) (keyOf l) (fnOf p) a m b) :
    Calls Try.prog 88 #[.slice (some ⟨g, 0, none⟩) l.length c', .int .i64 a, .int .i64 m, .int .i64 b, .func (.func gF) #[] cb] W (RetMG l w bs os rs i g c' p a b) := by
  have H := Lib.hid h
  have HC := Lib.hid hcmp
  have HF := Lib.hid hcf
  have HONE := Lib.hid (fun (x : Nat) (h1 : a ≤ x) (h3 : x ≤ m) p1 p2 => one_right (fun x y z => bef_trans (l := l) x y z) hC h2 hmb (i := x) h1 h3 p1 p2)
  have hm1 : m < b := by omega
  have hm2 : b ≤ m + 1 := by omega
  clear h hcmp hcf hC h2 hmb
  have e1 : IntKind.i64.wrap ((b : Int) - (m : Int)) = 1 := by rw [IntWalk.i64_in _ (by omega)]; omega
  have e1' : (b : Int) - (m : Int) = 1 := by omega
  have e2 : IntKind.i64.wrap ((m : Int) - (a : Int)) = (m : Int) - (a : Int) := IntWalk.i64_in _ (by omega)
  have e3 : ¬ (m : Int) - (a : Int) = 1 := by omega
  have e4 : ((m : Int) - (a : Int) == 1) = false := beq_eq_false_iff_ne.2 e3
  go_enter Try.func88, Try.ntmps88
  go_wp2
  go_loopw [14, 15] (fun iv jv wr => ∃ x y : Nat, a ≤ x ∧ x ≤ y ∧ y ≤ m ∧ iv = .int .i64 x ∧ jv = .int .i64 y ∧ Hid (SR l w bs os rs i g c' wr p) ∧ Hid (x = a ∨ ¬ keyOf l (fnOf p m) < keyOf l (fnOf p (x - 1))) ∧ Hid (y = m ∨ keyOf l (fnOf p m) < keyOf l (fnOf p y))) (fun iv jv _ => (intOf jv).toNat - (intOf iv).toNat)
  case atStart => exact ⟨a, m, Nat.le_refl _, by omega, Nat.le_refl _, rfl, rfl, H, Lib.hid (.inl rfl), Lib.hid (.inl rfl)⟩
  case round =>
    clear H
    obtain ⟨x, y, hx, hxy, hy, rfl, rfl, H, P1, P2⟩ := hrel
    by_cases hlt : x < y
    · have hxx : (x : Int) < (y : Int) := by omega
      have HH := Lib.hid (show (((x : Int) + (y : Int)) / 2) = (((x + y) / 2 : Nat) : Int) from by omega)
      have hb0 : (x + y) / 2 < l.length := by omega
      have hb1 : x ≤ (x + y) / 2 := by omega
      have hb2 : (x + y) / 2 < y := by omega
      go_upto_region 17 with fail
      rw [HH.out]
      clear HH
      generalize (x + y) / 2 = z at *
      have z0 : (0 : Int) ≤ (z : Int) := by omega
      have z1 : (z : Int) < (l.length : Int) := by omega
      have a0 : (0 : Int) ≤ (m : Int) := by omega
      have a1 : (m : Int) < (l.length : Int) := by omega
      have c0 := H.out.at (k := z) hb0
      have c1 := H.out.at (k := m) (by omega)
      have f0 := H.out.fn_lt (k := z) hb0
      have f1 := H.out.fn_lt (k := m) (by omega)
      have hk := HF.out (fnOf p m) (fnOf p z)
      have HCC := Lib.hid (fun n => HC.out (wr.drewN n) p (H.out.drew n) (fnOf p m) (fnOf p z) f1 f0)
      have HZ := Lib.hid (show (cf (fnOf p m) (fnOf p z) < 0 → keyOf l (fnOf p m) < keyOf l (fnOf p z)) ∧ (¬ cf (fnOf p m) (fnOf p z) < 0 → ¬ keyOf l (fnOf p m) < keyOf l (fnOf p (z + 1 - 1))) from ⟨fun h => hk.1 h, fun h1 h2 => by rw [Nat.add_sub_cancel] at h2; exact h1 (hk.2 h2)⟩)
      clear f0 f1 hk
      generalize cf (fnOf p m) (fnOf p z) = cv at *
      generalize fnOf p z = vz at c0 HCC
      generalize fnOf p m = va at c1 HCC
      by_cases hcv : cv < 0
      · have HG := Lib.hid (HZ.out.1 hcv)
        clear HZ
        go_quiet (first | (go_at_fn gF; exact Calls.quiet_of (HCC.out _)))
        have HN := Lib.hid (H.out.drew nq)
        go_wp2
        go_roundw
        case rel => exact ⟨x, z, hx, hb1, by omega, rfl, by go_num, HN, P1, Lib.hid (.inr HG.out)⟩
        case measure => simp [intOf]; omega
      · have HG := Lib.hid (HZ.out.2 hcv)
        have hcd := decide_eq_false hcv
        clear HZ
        go_quiet (first | (go_at_fn gF; exact Calls.quiet_of (HCC.out _)))
        have HN := Lib.hid (H.out.drew nq)
        go_wp2
        go_roundw
        case rel => exact ⟨z + 1, y, by omega, by omega, hy, by go_num, rfl, HN, Lib.hid (.inr HG.out), P2⟩
        case measure => simp [intOf]; omega
    · obtain rfl : y = x := by omega
      have hxx : ¬ (y : Int) < (y : Int) := by omega
      have HO := Lib.hid (HONE.out y hx hy (by rcases P1.out with h | h; exact .inl h; exact .inr (by omega)) P2.out)
      clear P1 P2 HONE
      go_wp2
      go_loopw [17] (fun kv wr => ∃ (k : Nat) (q : List Nat), y ≤ k ∧ k ≤ m ∧ kv = .int .i64 k ∧ Hid (SR l w bs os rs i g c' wr q) ∧ Hid (q.Perm p) ∧ Hid (∀ x, fnOf q x = rotF (fnOf p) k m b x)) (fun kv _ => (intOf kv).toNat)
      case atStart => exact ⟨m, p, hy, Nat.le_refl _, rfl, H, Lib.hid (List.Perm.refl _), Lib.hid (fun x => by rw [rot_none1])⟩
      case round =>
        clear H
        obtain ⟨k, q, hyk, hkm, rfl, H, HP, HQ⟩ := hrel
        by_cases hkl : y < k
        · have hkk : (k : Int) > (y : Int) := by omega
          have x0 := H.out.at (k := k) (by omega)
          have y0 := H.out.at (k := k - 1) (by omega)
          have hX := Lib.hid (H.out.exch (x := k) (y := k - 1) (by omega) (by omega)).drew1
          have hlen := H.out.len
          have HX := Lib.hid (exch_fn (p := q) (x := k) (y := k - 1) (by omega) (by omega))
          have HPX := Lib.hid ((exch_perm (p := q) (x := k) (y := k - 1) (by omega) (by omega)).trans HP.out)
          have zz0 := (H.out.store (k := k) (H.out.fn_lt (k := k - 1) (by omega))).at (k := k - 1) (by omega)
          rw [fn_set (by omega), if_neg (by omega)] at zz0
          have zz1 := (H.out.store (k := k) (H.out.fn_lt (k := k - 1) (by omega))).free (k - 1)
          have x1 := H.out.free k
          have y1' := H.out.free (k - 1)
          generalize exch q k (k - 1) = q2 at *
          have HN := Lib.hid (show ∀ x, fnOf q2 x = rotF (fnOf p) (k - 1) m b x from fun x => by
            rw [HX.out, HQ.out, HQ.out, HQ.out]
            unfold rotF
            repeat' split
            all_goals first
              | rfl
              | (exfalso; omega)
              | (congr 1; omega))
          clear HX HQ HP hlen
          generalize fnOf q k = vs at *
          generalize fnOf q (k - 1) = vt at *
          have ws : IntKind.i64.wrap ((k : Int) - 1) = ((k - 1 : Nat) : Int) := by rw [IntWalk.i64_in _ (by omega)]; omega
          have htk : k - 1 < l.length := by omega
          have hk2 : y ≤ k - 1 := by omega
          have hk3 : k - 1 ≤ m := by omega
          have hk4 : k - 1 < k := by omega
          generalize k - 1 = tk at *
          have s0 : (0 : Int) ≤ (k : Int) := by omega
          have s1 : (k : Int) < (l.length : Int) := by omega
          have t0 : (0 : Int) ≤ (tk : Int) := by omega
          have t1 : (tk : Int) < (l.length : Int) := by omega
          have mixed : Try.prog.follows .mixedOrders = true := by kernel_rfl
          clear H
          go_wp2_with fail
          go_big_region_o
          clear x0 x1 y0 y1' zz0 zz1
          generalize ((wr.setCell ⟨g, k, none⟩ (.int .i64 vt)).setCell ⟨g, tk, none⟩ (.int .i64 vs)).drew = w2 at hX ⊢
          go_wp2
          go_roundw
          case rel => exact ⟨tk, q2, hk2, hk3, by go_num, hX, HPX, HN⟩
          case measure => simp [intOf]; omega
        · have hkk : ¬ (k : Int) > (y : Int) := by omega
          obtain rfl : k = y := by omega
          go_wp2
          go_end0
          have hfn : fnOf q = rotF (fnOf p) k m b := funext HQ.out
          exact ⟨rfl, q, H.out, HP.out, by rw [hfn]; exact (MoveOn.rot _ (by omega) (by omega)).wide hx (Nat.le_refl _), by rw [hfn]; exact HO.out⟩
end
end Go.Proofs.Yteogibpmpppgmaa

/- the library's rotation -/
import Derived.Test.YteogibpmpppgmaaM1
namespace Go.Proofs.Yteogibpmpppgmaa
open Go.RowKit
section
variable (l : List I2) (w : World) (bs : List (Nat × Array Value × TypeId)) (os : List Rw) (rs : List (World → Prop)) (i g c' : Nat)
set_option maxHeartbeats 4000000 in
set_option maxRecDepth 100000 in
theorem rotate_any (W : World) (p : List Nat) (f : Value) (a m b : Nat) (h : SR l w bs os rs i g c' W p) (hl : l.length ≤ 1000) (ham : a < m) (hmb : m < b) (hb : b ≤ l.length) :
    Calls Try.prog 108 #[.slice (some ⟨g, 0, none⟩) l.length c', .int .i64 a, .int .i64 m, .int .i64 b, f] W (RetSR l w bs os rs i g c' p (rotF (fnOf p) a m b)) := by
  have H := Lib.hid h
  clear h
  have w1 : IntKind.i64.wrap ((m : Int) - (a : Int)) = ((m - a : Nat) : Int) := by rw [IntWalk.i64_in _ (by omega)]; omega
  have w2 : IntKind.i64.wrap ((b : Int) - (m : Int)) = ((b - m : Nat) : Int) := by rw [IntWalk.i64_in _ (by omega)]; omega
  have HS := Lib.hid (show rotF (fnOf p) (m - (m - a)) m (m + (b - m)) = rotF (fnOf p) a m b from by rw [show m - (m - a) = a by omega, show m + (b - m) = b by omega])
  have h1 : 1 ≤ m - a := by omega
  have h2 : m - a ≤ m := by omega
  have h3 : 1 ≤ b - m := by omega
  have h4 : m + (b - m) ≤ l.length := by omega
  generalize m - a = i0 at *
  generalize b - m = j0 at *
  generalize rotF (fnOf p) a m b = tgt at *
  go_enter Try.func108, Try.ntmps108
  go_wp2
  go_loopw [10, 11] (fun iv jv wr => ∃ (x y : Nat) (q : List Nat), 1 ≤ x ∧ x ≤ m ∧ 1 ≤ y ∧ m + y ≤ l.length ∧ iv = .int .i64 x ∧ jv = .int .i64 y ∧ Hid (SR l w bs os rs i g c' wr q) ∧ Hid (q.Perm p) ∧ Hid (rotF (fnOf q) (m - x) m (m + y) = tgt)) (fun iv jv _ => (intOf iv).toNat + (intOf jv).toNat)
  case atStart => exact ⟨i0, j0, p, h1, h2, h3, h4, by go_num, by go_num, H, Lib.hid (List.Perm.refl _), HS⟩
  case round =>
    clear H HS h1 h2 h3 h4 w1 w2
    obtain ⟨x, y, q, hx1, hx2, hy1, hy2, rfl, rfl, H, HP, HF⟩ := hrel
    have ws : IntKind.i64.wrap ((m : Int) - (x : Int)) = ((m - x : Nat) : Int) := by rw [IntWalk.i64_in _ (by omega)]; omega
    rcases Nat.lt_trichotomy x y with hxy | hxy | hxy
    · have g0 : ¬ (x : Int) = (y : Int) := by omega
      have g1 : ((x : Int) == (y : Int)) = false := beq_eq_false_iff_ne.2 g0
      have g2 : ¬ (x : Int) > (y : Int) := by omega
      have wt0 : IntKind.i64.wrap ((m : Int) + (y : Int)) = (m : Int) + (y : Int) := IntWalk.i64_in _ (by omega)
      have wt : IntKind.i64.wrap ((m : Int) + (y : Int) - (x : Int)) = ((m + y - x : Nat) : Int) := by rw [IntWalk.i64_in _ (by omega)]; omega
      have wu : IntKind.i64.wrap ((y : Int) - (x : Int)) = ((y - x : Nat) : Int) := by rw [IntWalk.i64_in _ (by omega)]; omega
      have HC := Lib.hid (swapRange_any l w bs os rs i g c' wr q f (m - x) (m + y - x) x H.out hl (by omega) (by omega))
      have HR := Lib.hid (rot_lt (fnOf q) (i := x) (j := y) (m := m) hx2 hxy)
      have h1 : 1 ≤ y - x := by omega
      have h2 : m + (y - x) ≤ l.length := by omega
      have h3 : x + (y - x) < x + y := by omega
      generalize y - x = yx at *
      generalize hmx : m - x = mx at *
      have HMX := Lib.hid hmx
      generalize m + y - x = myx at *
      clear hmx
      go_wp2_with fail
      refine HC.out.mono ?_
      rintro e V ⟨rfl, q2, h5, h6, h7⟩
      have H2 := Lib.hid h5
      have HP2 := Lib.hid (h6.trans HP.out)
      have HF2 := Lib.hid (show rotF (fnOf q2) mx m (m + yx) = tgt from by rw [h7, HR.out]; exact HF.out)
      clear h5 h6 h7 HC HR H HF HP
      go_wp2
      go_roundw
      case rel => exact ⟨x, yx, q2, hx1, hx2, h1, h2, rfl, by go_num, H2, HP2, Lib.hid (by rw [HMX.out]; exact HF2.out)⟩
      case measure => simp [intOf]; omega
    · subst hxy
      have g1 : ((x : Int) == (x : Int)) = true := beq_iff_eq.2 rfl
      have HC := Lib.hid (swapRange_any l w bs os rs i g c' wr q f (m - x) m x H.out hl (by omega) (by omega))
      have HR := Lib.hid (rot_eq (fnOf q) (i := x) (m := m) hx2)
      generalize m - x = mx at *
      go_wp2_with fail
      refine HC.out.mono ?_
      rintro e V ⟨rfl, q2, h5, h6, h7⟩
      have H2 := Lib.hid h5
      have HP2 := Lib.hid (h6.trans HP.out)
      have HF2 := Lib.hid (show fnOf q2 = tgt from by rw [h7, HR.out]; exact HF.out)
      clear h5 h6 h7 HC HR H HF HP
      go_wp2
      go_end0
      exact ⟨rfl, q2, H2.out, HP2.out, HF2.out⟩
    · have g0 : ¬ (x : Int) = (y : Int) := by omega
      have g1 : ((x : Int) == (y : Int)) = false := beq_eq_false_iff_ne.2 g0
      have g2 : (x : Int) > (y : Int) := by omega
      have wu : IntKind.i64.wrap ((x : Int) - (y : Int)) = ((x - y : Nat) : Int) := by rw [IntWalk.i64_in _ (by omega)]; omega
      have HC := Lib.hid (swapRange_any l w bs os rs i g c' wr q f (m - x) m y H.out hl (by omega) (by omega))
      have HR := Lib.hid (rot_gt (fnOf q) (i := x) (j := y) (m := m) hx2 hxy)
      have h1 : 1 ≤ x - y := by omega
      have h2 : x - y ≤ m := by omega
      have h3 : (x - y) + y < x + y := by omega
      generalize m - x = mx at *
      generalize x - y = xy at *
      go_wp2_with fail
      refine HC.out.mono ?_
      rintro e V ⟨rfl, q2, h5, h6, h7⟩
      have H2 := Lib.hid h5
      have HP2 := Lib.hid (h6.trans HP.out)
      have HF2 := Lib.hid (show rotF (fnOf q2) (m - xy) m (m + y) = tgt from by rw [h7, HR.out]; exact HF.out)
      clear h5 h6 h7 HC HR H HF HP
      go_wp2
      go_roundw
      case rel => exact ⟨xy, y, q2, h1, h2, hy1, hy2, by go_num, rfl, H2, HP2, HF2⟩
      case measure => simp [intOf]; omega
end
end Go.Proofs.Yteogibpmpppgmaa

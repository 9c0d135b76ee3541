/- a row of indices that the library sorts: swapped ranges, rotations -/
import Derived.Test.YteogibpmpppgmaaH19
import Derived.Test.YteogibpmpppgmaaG15
import Derived.Sort.WalkB12
namespace Go.Proofs.Yteogibpmpppgmaa
open Go.RowKit

def Srow (l : List I2) (g c' : Nat) (p : List Nat) : Rw := ⟨.slice (some ⟨g, 0, none⟩) l.length c', 3, 1, l.length, L1 (idxs p)⟩
/-- the row holds these indices -/
structure SR (l : List I2) (w : World) (bs : List (Nat × Array Value × TypeId)) (os : List Rw) (rs : List (World → Prop)) (i g c' : Nat) (W : World) (p : List Nat) : Prop where
  len : p.length = l.length
  lt : ∀ x ∈ p, x < l.length
  io : i < os.length
  sy : Sy w W bs (os.set i (Srow l g c' p)) rs
def fnOf (p : List Nat) : Nat → Nat := fun k => p.getD k 0
theorem fn_at {p : List Nat} {k : Nat} (h : k < p.length) : fnOf p k = p[k] := by unfold fnOf; rw [List.getD_eq_getElem?_getD, List.getElem?_eq_getElem h]; rfl
theorem fn_set {p : List Nat} {k v : Nat} (h : k < p.length) (x : Nat) : fnOf (p.set k v) x = if x = k then v else fnOf p x := by
  unfold fnOf
  rw [List.getD_eq_getElem?_getD, List.getD_eq_getElem?_getD]
  by_cases e : x = k
  · subst e; rw [List.getElem?_set_self h, if_pos rfl]; rfl
  · rw [List.getElem?_set_ne (Ne.symm e), if_neg e]
section
variable {l : List I2} {w W : World} {bs : List (Nat × Array Value × TypeId)} {os : List Rw} {rs : List (World → Prop)} {i g c' : Nat} {p : List Nat}
theorem idx_get {p : List Nat} {k : Nat} (h : k < p.length) : (L1 (idxs p))[k]? = some (.int .i64 (fnOf p k : Nat)) := by
  unfold L1 idxs
  rw [List.getElem?_map, List.getElem?_map, List.getElem?_eq_getElem h, fn_at h]
  rfl
theorem SR.row (h : SR l w bs os rs i g c' W p) : (os.set i (Srow l g c' p))[i]? = some ⟨.slice (some ⟨g, 0, none⟩) l.length c', 3, 1, l.length, L1 (idxs p)⟩ := List.getElem?_set_self h.io
theorem SR.at (h : SR l w bs os rs i g c' W p) {k : Nat} (hk : k < l.length) : W.cell? ⟨g, k, none⟩ = some (.int .i64 (fnOf p k : Nat)) := h.sy.rcell i h.row (idx_get (by rw [h.len]; exact hk))
theorem SR.free (h : SR l w bs os rs i g c' W p) (k : Nat) : W.frozen? ⟨g, k, none⟩ = false := h.sy.rfree i h.row k
theorem SR.fn_lt (h : SR l w bs os rs i g c' W p) {k : Nat} (hk : k < l.length) : fnOf p k < l.length := by
  rw [fn_at (by rw [h.len]; exact hk)]
  exact h.lt _ (List.getElem_mem _)
theorem SR.store (h : SR l w bs os rs i g c' W p) {k v : Nat} (hv : v < l.length) : SR l w bs os rs i g c' (W.setCell ⟨g, k, none⟩ (.int .i64 (v : Nat))) (p.set k v) := by
  refine ⟨by rw [List.length_set]; exact h.len, fun x hx => ?_, h.io, ?_⟩
  · rcases List.mem_or_eq_of_mem_set hx with h1 | h1
    · exact h.lt x h1
    · rw [h1]; exact hv
  · have h2 := h.sy.ostore i h.row k (.int .i64 (v : Nat))
    rw [List.set_set] at h2
    have e : (L1 (idxs p)).set k (.int .i64 (v : Nat)) = L1 (idxs (p.set k v)) := by unfold L1 idxs; rw [List.map_set, List.map_set]
    rw [e] at h2
    exact h2
theorem SR.drew (h : SR l w bs os rs i g c' W p) (n : Nat) : SR l w bs os rs i g c' (W.drewN n) p := ⟨h.len, h.lt, h.io, h.sy.call (below_dN (Below.refl _ _) n)⟩
theorem SR.drew1 (h : SR l w bs os rs i g c' W p) : SR l w bs os rs i g c' W.drew p := ⟨h.len, h.lt, h.io, h.sy.drew⟩
/-- one exchange -/
def exch (p : List Nat) (x y : Nat) : List Nat := (p.set x (fnOf p y)).set y (fnOf p x)
theorem exch_fn {p : List Nat} {x y : Nat} (hx : x < p.length) (hy : y < p.length) (k : Nat) : fnOf (exch p x y) k = if k = y then fnOf p x else if k = x then fnOf p y else fnOf p k := by
  unfold exch
  rw [fn_set (by rw [List.length_set]; exact hy), fn_set hx]
theorem exch_perm {p : List Nat} {x y : Nat} (hx : x < p.length) (hy : y < p.length) : (exch p x y).Perm p := by
  by_cases hxy : x = y
  · subst hxy
    unfold exch
    rw [List.set_set, fn_at hx, List.set_getElem_self]
  rw [List.perm_iff_count]
  intro a
  unfold exch
  rw [List.count_set (by rw [List.length_set]; exact hy), List.count_set hx, fn_at hx, fn_at hy, List.getElem_set_ne hxy]
  have m1 : p[y] = a → 0 < List.count a p := fun e => List.count_pos_iff.2 (by rw [← e]; exact List.getElem_mem _)
  have m2 : p[x] = a → 0 < List.count a p := fun e => List.count_pos_iff.2 (by rw [← e]; exact List.getElem_mem _)
  simp only [beq_iff_eq]
  by_cases e1 : p[y] = a
  · have h1 := m1 e1
    by_cases e2 : p[x] = a
    · rw [if_pos e1, if_pos e2]; omega
    · rw [if_pos e1, if_neg e2]; omega
  · by_cases e2 : p[x] = a
    · have h2 := m2 e2
      rw [if_neg e1, if_pos e2]; omega
    · rw [if_neg e1, if_neg e2]; omega
theorem SR.exch (h : SR l w bs os rs i g c' W p) {x y : Nat} (hx : x < l.length) (hy : y < l.length) :
    SR l w bs os rs i g c' ((W.setCell ⟨g, x, none⟩ (.int .i64 (fnOf p y : Nat))).setCell ⟨g, y, none⟩ (.int .i64 (fnOf p x : Nat))) (exch p x y) := (h.store (h.fn_lt hy)).store (h.fn_lt hx)
/-- what a call leaves of the row -/
def RetSR (l : List I2) (w : World) (bs : List (Nat × Array Value × TypeId)) (os : List Rw) (rs : List (World → Prop)) (i g c' : Nat) (p : List Nat) (f : Nat → Nat) (e : Ending) (W' : World) : Prop :=
  e = .returned (.tuple #[]) ∧ ∃ q, SR l w bs os rs i g c' W' q ∧ q.Perm p ∧ fnOf q = f
end
section
variable (l : List I2) (w : World) (bs : List (Nat × Array Value × TypeId)) (os : List Rw) (rs : List (World → Prop)) (i g c' : Nat)
set_option maxHeartbeats 4000000 in
set_option maxRecDepth 100000 in
theorem swapRange_any (W : World) (p : List Nat) (f : Value) (s t n : Nat) (h : SR l w bs os rs i g c' W p) (hl : l.length ≤ 1000) (hst : s + n ≤ t) (htn : t + n ≤ l.length) :
    Calls Try.prog 116 #[.slice (some ⟨g, 0, none⟩) l.length c', .int .i64 s, .int .i64 t, .int .i64 n, f] W (RetSR l w bs os rs i g c' p (swpF (fnOf p) s t n)) := by
  have H := Lib.hid h
  clear h
  go_enter Try.func116, Try.ntmps116
  go_wp2
  go_loopw [10] (fun iv wr => ∃ (k : Nat) (q : List Nat), k ≤ n ∧ iv = .int .i64 k ∧ Hid (SR l w bs os rs i g c' wr q) ∧ Hid (q.Perm p) ∧ Hid (∀ x, fnOf q x = swpF (fnOf p) s t k x)) (fun iv _ => n - (intOf iv).toNat)
  case atStart => exact ⟨0, p, Nat.zero_le _, rfl, H, Lib.hid (List.Perm.refl _), Lib.hid (fun x => by
    unfold swpF
    rw [if_neg (by omega), if_neg (by omega)])⟩
  case round =>
    clear H
    obtain ⟨k, q, hk, rfl, H, HP, HF⟩ := hrel
    by_cases hlt : k < n
    · have hkk : (k : Int) < (n : Int) := by omega
      have x0 := H.out.at (k := s + k) (by omega)
      have y0 := H.out.at (k := t + k) (by omega)
      have hX := Lib.hid (H.out.exch (x := s + k) (y := t + k) (by omega) (by omega)).drew1
      have hlen := H.out.len
      have HX := Lib.hid (exch_fn (p := q) (x := s + k) (y := t + k) (by omega) (by omega))
      have HPX := Lib.hid ((exch_perm (p := q) (x := s + k) (y := t + k) (by omega) (by omega)).trans HP.out)
      have z0 := (H.out.store (k := s + k) (H.out.fn_lt (k := t + k) (by omega))).at (k := t + k) (by omega)
      rw [fn_set (by omega), if_neg (by omega)] at z0
      have z1 := (H.out.store (k := s + k) (H.out.fn_lt (k := t + k) (by omega))).free (t + k)
      have x1 := H.out.free (s + k)
      have y1 := H.out.free (t + k)
      generalize exch q (s + k) (t + k) = q2 at *
      have HFS := Lib.hid (show fnOf q (s + k) = fnOf p (s + k) from by
        rw [HF.out]; unfold swpF; rw [if_neg (by omega), if_neg (by omega)])
      have HFT := Lib.hid (show fnOf q (t + k) = fnOf p (t + k) from by
        rw [HF.out]; unfold swpF; rw [if_neg (by omega), if_neg (by omega)])
      have HN := Lib.hid (show ∀ x, fnOf q2 x = swpF (fnOf p) s t (k + 1) x from fun x => by
        rw [HX.out, HFS.out, HFT.out, HF.out]
        unfold swpF
        repeat' split
        all_goals first
          | rfl
          | (exfalso; omega)
          | (congr 1; omega))
      clear HX HFS HFT HF HP hlen
      generalize fnOf q (s + k) = vs at *
      generalize fnOf q (t + k) = vt at *
      clear H
      have hsk : s + k < l.length := by omega
      have htk : t + k < l.length := by omega
      have ws : IntKind.i64.wrap ((s : Int) + (k : Int)) = ((s + k : Nat) : Int) := by rw [IntWalk.i64_in _ (by omega)]; omega
      have wt : IntKind.i64.wrap ((t : Int) + (k : Int)) = ((t + k : Nat) : Int) := by rw [IntWalk.i64_in _ (by omega)]; omega
      generalize s + k = sk at *
      generalize t + k = tk at *
      have s0 : (0 : Int) ≤ (sk : Int) := by omega
      have s1 : (sk : Int) < (l.length : Int) := by omega
      have t0 : (0 : Int) ≤ (tk : Int) := by omega
      have t1 : (tk : Int) < (l.length : Int) := by omega
      have mixed : Try.prog.follows .mixedOrders = true := by kernel_rfl
      go_wp2_with fail
      go_big_region_o
      clear x0 x1 y0 y1 z0 z1
      generalize ((wr.setCell ⟨g, sk, none⟩ (.int .i64 vt)).setCell ⟨g, tk, none⟩ (.int .i64 vs)).drew = w2 at hX ⊢
      go_wp2
      go_roundw
      case rel => exact ⟨k + 1, q2, by omega, by go_num, hX, HPX, HN⟩
      case measure => simp [intOf]; omega
    · have hkk : ¬ (k : Int) < (n : Int) := by omega
      obtain rfl : k = n := by omega
      go_wp2
      go_end0
      exact ⟨rfl, q, H.out, HP.out, funext HF.out⟩
end
end Go.Proofs.Yteogibpmpppgmaa

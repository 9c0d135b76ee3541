/- ratios: what their values read as; bottom -/
import Derived.Test.YtnimnoodpnhodaaDoorSt
import Derived.Test.YtnimnoodpnhodaaDoorRat
import Derived.Test.YtnimnoodpnhodaaDoorPlus
import Derived.Test.YtnimnoodpnhodaaDoorShift
namespace Go.Proofs.YtnimnoodpnhodaaDoor
open Go.RowKit Dig

/-- a ratio: the numerator, and the denominator less 1 -/
structure Rd (w : World) (s : Value) (m : Bool) (s' : Value) (q : Rat) : Prop where
  z : Zd w s m q.num
  d : Dg w s' (q.den - 1)

theorem Rd.keep {w w' : World} {s s' : Value} {m : Bool} {q : Rat} (h : Rd w s m s' q) (hk : Keeps w w') : Rd w' s m s' q := ⟨h.z.keep hk, h.d.keep hk⟩

section
variable {w W : World} {bs : List (Nat × Array Value × TypeId)} {rs : List (World → Prop)}
theorem St.pr (h : St w W bs rs) {s s' : Value} {m : Bool} {q : Rat} (hz : Rd W s m s' q) : St w W bs (rs ++ [fun V => Rd V s m s' q]) := h.push (fun _ _ k hz => hz.keep k) hz
theorem St.r (h : St w W bs rs) (i : Nat) {s s' : Value} {m : Bool} {q : Rat} (hx : rs[i]? = some (fun V => Rd V s m s' q)) : Rd W s m s' q := (h.rd _ (List.mem_of_getElem? hx)).2
end

/-- the result is the ratio q -/
def RetR (w : World) (q : Rat) (e : Ending) (w' : World) : Prop := ∃ a n c m a' n' c', e = .returned (.agg #[.slice a n c, .bool m, .slice a' n' c']) ∧ Rd w' (.slice a n c) m (.slice a' n' c') q ∧ Below w.heap.size w w'
/-- the result is the ratio q, and an errno -/
def RetRE (w : World) (q : Rat) (k : Int) (e : Ending) (w' : World) : Prop := ∃ a n c m a' n' c', e = .returned (.tuple #[.agg #[.slice a n c, .bool m, .slice a' n' c'], .int .i64 k]) ∧ Rd w' (.slice a n c) m (.slice a' n' c') q ∧ Below w.heap.size w w'

theorem den_sub (q : Rat) : (q.den - 1 : Nat) + 1 = q.den := by have := q.den_nz; omega

set_option maxHeartbeats 1000000 in
theorem bottom_any (a : Option Addr) (n c : Nat) (m : Bool) (a2 : Option Addr) (n2 c2 : Nat) (q : Rat) (w : World) (h : Rd w (.slice a n c) m (.slice a2 n2 c2) q) (k : Nat) (hl : Bq k q) (hk : k ≤ 1000000) :
    Calls Tryd.prog 36 #[.agg #[.slice a n c, .bool m, .slice a2 n2 c2]] w (RetZ w q.den) := by
  have HL := Lib.hid (show (dg 16777216 (q.den - 1)).length ≤ 50000 from by
    have : Bd k ((q.den - 1 : Nat) : Int) := hl.den.of_le (by simp)
    have := this.len hk
    rwa [Int.natAbs_natCast] at this)
  have HV := Lib.hid (show (((q.den - 1 : Nat) : Int) + 1 * ((1 : Nat) : Int)).toNat = q.den from by have := den_sub q; omega)
  have hC := Lib.hid ((((St.enter w).pd h.d).al w.heap.size #[.slice a n c, .bool m, .slice a2 n2 c2] 32 rfl rfl).al (w.heap.size + 1) #[.slice none 0 0, .bool false] 27 (by simp) rfl)
  clear h hl hk
  go_enter Tryd.func36, Tryd.ntmps36
  go_wp2
  go_region_held3 (fun w' => w'.cell? ⟨w.heap.size, 2, none⟩ = some (.slice a2 n2 c2) ∧ True)
    (first | exact ⟨(hCb.out.set 1 rfl |>.set 1 rfl).cell 0 2 rfl rfl, trivial⟩ | exact ⟨hCb.out.cell 0 2 rfl rfl, trivial⟩ | exact ⟨hCa.out.cell 0 2 rfl rfl, trivial⟩ | exact ⟨hC.out.cell 0 2 rfl rfl, trivial⟩)
    (first
      | (go_at_call 37; refine (word_any 1 _ (by omega)).mono ?_; rintro e wa ⟨b1, k1, d1, rfl, hd, hb⟩; have hCa := Lib.hid ((hC.out.drew.call hb).pd hd); clear hd hb)
      | (go_at_call 47; refine (plus_any _ _ _ _ _ _ 1 (q.den - 1) 1 _ (hCa.out.d 0 rfl) (hCa.out.d 1 rfl) (.inl rfl) (by omega) (Nat.le_trans HL.out (by omega)) (dg_len_le (by omega) (by omega))).mono ?_; rintro e wb ⟨b2, k2, d2, rfl, hd, hb⟩; have hCb := Lib.hid ((hCa.out.call hb).pd hd); clear hd hb; have c0 := hCb.out.cell 1 0 rfl rfl; have c1 := hCb.out.cell 1 1 rfl rfl; have f0 := hCb.out.free 1 0 rfl; have f1 := hCb.out.free 1 1 rfl))
  go_wp2
  refine ret_st (hCb.out.set 1 rfl |>.set 1 rfl) (v := .agg #[.slice b2 k2 d2, .bool false]) (fun hF => ?_) rfl (fun hF => ⟨b2, k2, d2, false, rfl, ⟨?_, by simp⟩, hF.be⟩)
  · have e0 := hF.cell 1 0 rfl rfl
    have e1 := hF.cell 1 1 rfl rfl
    simp [results, Tryd.results36, go_sem, e0, e1]
  · have := hF.d 2 rfl
    rw [HV.out] at this
    rw [Int.natAbs_natCast]
    exact this

end Go.Proofs.YtnimnoodpnhodaaDoor
